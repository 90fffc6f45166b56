/- Candidates: what the reference and the program come to. -/
import Derived.Test.YtnpjpplbkoammaaGreatXw
import Derived.Test.YtnpjpplbkoammaaGreatWc
import Derived.Test.YtnpjpplbkoammaaGreatWn
import Derived.Test.YtnpjpplbkoammaaGreatKc
set_option linter.unusedVariables false
set_option linter.unusedSimpArgs false
namespace Go.Proofs.YtnpjpplbkoammaaGreat
open Go Go.Proofs Go.Proofs.Tryz Go.IntWalk
/-- the first of those that occur again -/
def uZ:List Tm→List Tm→List Tm
 | _,[]=>[]
 | seen,x::xs=>if seen.any (rG x)=false∧xs.any (rG x)=true then x::uZ (seen++[x]) xs else uZ (seen++[x]) xs
def zDq:List TD→List TD→List TD
 | _,[]=>[]
 | seen,x::xs=>if (seen.map (·.1)).any (rG x.1)=false∧(xs.map (·.1)).any (rG x.1)=true then x::zDq (seen++[x]) xs else zDq (seen++[x]) xs
theorem zIr:∀ (xs seen:List TD),(zDq seen xs).map (·.1)=uZ (seen.map (·.1)) (xs.map (·.1))
 | [],_=>rfl
 | x::xs,seen=>by
   have ih:=zIr xs (seen++[x])
   simp only [List.map_append,List.map_cons,List.map_nil] at ih
   simp only [zDq,uZ,List.map_cons]
   split
   ·rw [List.map_cons,ih]
   ·exact ih
theorem qX:∀ (xs seen:List TD),List.Sublist (zDq seen xs) xs
 | [],_=>List.Sublist.slnil
 | x::xs,seen=>by
   simp only [zDq]
   split
   ·exact (qX xs _).cons_cons x
   ·exact (qX xs _).cons x
theorem qv:∀ (xs seen:List Tm),List.Sublist (uZ seen xs) xs
 | [],_=>List.Sublist.slnil
 | x::xs,seen=>by
   simp only [uZ]
   split
   ·exact (qv xs _).cons_cons x
   ·exact (qv xs _).cons x
theorem zJA {α:Type} {key:α→Nat} {x:α}:∀ (l:List α),List.Perm (zEs key x l) (x::l)
 | []=>.refl _
 | y::l=>by
   simp only [zEs]
   split
   ·exact ((zJA l).cons y).trans (.swap x y l)
   ·exact .refl _
theorem sQ {α:Type} {key:α→Nat}:∀ (l o:List α),List.Perm (v4 key o l) (o++l)
 | [],o=>by simp [v4]
 | x::l,o=>by
   have h:=sQ (key:=key) l (zEs key x o)
   refine h.trans (((zJA o).append_right l).trans ?_)
   simpa using (List.perm_middle (a:=x) (l₁:=o) (l₂:=l)).symm
theorem zLG {x:TD}:∀ (l:List TD),(zEs tz x l).map (·.1)=zEs Tm.sz x.1 (l.map (·.1))
 | []=>rfl
 | y::l=>by
   have ih:=zLG (x:=x) l
   by_cases h:tz x≤tz y
   ·have h':x.1.sz≤y.1.sz:=h
    simp only [zEs,if_pos h,if_pos h',List.map_cons,ih]
   ·have h':¬x.1.sz≤y.1.sz:=h
    simp only [zEs,if_neg h,if_neg h',List.map_cons]
theorem zFo:∀ (l o:List TD),(v4 tz o l).map (·.1)=v4 Tm.sz (o.map (·.1)) (l.map (·.1))
 | [],_=>rfl
 | x::l,o=>by
   have ih:=zFo l (zEs tz x o)
   rw [zLG] at ih
   exact ih
/-- the parts that occur more than once, the greater ahead -/
def zCz (all:List Tm):List Tm:=v4 Tm.sz [] (uZ [] all)
theorem zIG (all:List Tm):(zCz all).length≤all.length:=by
 have h1:=(sQ (key:=Tm.sz) (uZ [] all) []).length_eq
 have h2:=(qv all []).length_le
 simp only [List.nil_append] at h1
 unfold zCz
 omega
theorem zNy {all:List Tm} {u:Tm} (h:u∈zCz all):u∈all:=by
 have h1:=(sQ (key:=Tm.sz) (uZ [] all) []).mem_iff.1 h
 exact (qv all []).subset (by simpa using h1)
def zCT:List Tm→List D→List TD
 | t::ts,d::ds=>(t,d)::zCT ts ds
 | _,_=>[]
theorem zDc:∀ {l:List Tm} {es:List D},All2 Tm.Is l es→(zCT l es).map (·.1)=l∧zQ (zCT l es)=es∧∀ p∈zCT l es,p.1.Is p.2
 | [],es,h=>by cases h;exact ⟨rfl,rfl,by simp [zCT]⟩
 | t::ts,es,⟨d,ds,he,h1,h2⟩=>by
   subst he
   obtain ⟨a,b,c⟩:=zDc h2
   refine ⟨by simp only [zCT,List.map_cons,a],by simp only [zCT,zQ,List.map_cons];rw [←zQ,b],fun p hp=>?_⟩
   rcases List.mem_cons.1 hp with rfl | hp
   ·exact h1
   ·exact c p hp
theorem zDE:∀ {W:List TD},(∀ p∈W,p.1.Is p.2)→All2 Tm.Is (W.map (·.1)) (zQ W)
 | [],_=>rfl
 | p::W,h=>⟨p.2,zQ W,rfl,h p (by simp),zDE fun q hq=>h q (by simp [hq])⟩
theorem tY:∀ es:List D,zB es=es.flatMap D.foot
 | []=>rfl
 | d::ds=>by simp only [zB,List.flatMap_cons,tY ds]
theorem tf:∀ {es:List D},xd es↔∀ d∈es,d.Flat0
 | []=>by simp [xd]
 | d::ds=>by simp [xd,tf (es:=ds)]
theorem zNI {N N':Nat} {es fs:List D} (h:OwnL N N' es) (hp:List.Perm fs es):OwnL N N' fs:=by
 have e:List.Perm (zB fs) (zB es):=by rw [tY,tY];exact hp.flatMap_right _
 exact ⟨e.nodup_iff.2 h.nd,tf.2 fun d hd=>tf.1 h.fl d (hp.mem_iff.1 hd),fun b hb=>h.lo b (e.mem_iff.1 hb),fun b hb=>h.hi b (e.mem_iff.1 hb)⟩
theorem zOJ {N N':Nat} {es fs:List D} (h:OwnL N N' es) (hs:List.Sublist fs es):OwnL N N' fs:=by
 have e:List.Sublist (zB fs) (zB es):=by
  rw [tY,tY]
  induction hs with
  | slnil=>exact List.Sublist.slnil
  | cons a _ ih=>
    rw [List.flatMap_cons]
    exact (ih ⟨(List.nodup_append.1 (by have:=h.nd;rwa [zB] at this)).2.1,h.fl.2,fun b hb=>h.lo b (by simp only [zB,List.mem_append];exact .inr hb),fun b hb=>h.hi b (by simp only [zB,List.mem_append];exact .inr hb)⟩).trans (List.sublist_append_right _ _)
  | cons_cons a _ ih=>
    rw [List.flatMap_cons,List.flatMap_cons]
    exact (List.Sublist.refl _).append (ih ⟨(List.nodup_append.1 (by have:=h.nd;rwa [zB] at this)).2.1,h.fl.2,fun b hb=>h.lo b (by simp only [zB,List.mem_append];exact .inr hb),fun b hb=>h.hi b (by simp only [zB,List.mem_append];exact .inr hb)⟩)
 exact ⟨h.nd.sublist e,tf.2 fun d hd=>tf.1 h.fl d (hs.subset hd),fun b hb=>h.lo b (e.subset hb),fun b hb=>h.hi b (e.subset hb)⟩
theorem zPD {N N' z c:Nat}:Own N N' (.sl none z [] c):=⟨by simp [D.foot,zB],⟨by simp,trivial⟩,by simp [D.foot,zB],by simp [D.foot,zB]⟩
theorem zNT {x:Tm} {dx:D} (hx:x.Is dx) {l:List Tm} {es:List D} (hes:All2 Tm.Is l es) (hlen:es.length≤4611686018427387904) (a:Option Addr) (c:Nat) (ad:Addr) :
  vE 35 [.sv a 9 es c,.fn 33 [.pd ad 9 dx]] (l.any (rG x)):=fun N Q hQ=>by
 refine ve N a es c ad dx Q fun _ N1 hN1=>?_
 have hI:pe 67 [.sv a 9 es c,.fn 33 [.pd ad 9 dx]] (t8 (rG x) l 0):=fun N Q hQ=>by
  refine ur N a es c ad dx Q fun _=>?_
  refine up hes hlen (fun i xs=>∀ (N':Nat),N≤N'→(∀ N'',N'≤N''→Q (t8 (rG x) xs i) N'')→z9 Q N a es c ad dx (es.length:Int) i N') ?_ ?_ N (Nat.le_refl _) hQ
  ·intro i hlt _ N' hN' hQ'
   refine wH _ _ _ _ _ _ _ _ _ _ ?_
   rw [hlt]
   exact fun N'' h=>hQ' _ (by omega)
  ·intro i y ys hat _ ih2 N' hN' hQ'
   have hb:=hat.b
   simp only [t8] at hQ'
   refine wH _ _ _ _ _ _ _ _ _ _ ?_
   rw [hat.lt,hat.w,Int.toNat_natCast]
   refine ⟨⟨by omega,by omega⟩,fun N1 hN1=>rZ N1 _ ad dx _ fun _ N2 hN2=>zCw _ _ _ _ hx hat.r N2 _ fun N3 hN3 _ N4 hN4 _=>Br.of (fun h N5 hN5=>Qi (hQ' _ (by omega)) (by rw [if_pos h])) fun h=>ih2 _ (by omega) fun N'' h2=>Qi (hQ' _ (by omega)) (by rw [if_neg (by rw [h];simp)];simp)⟩
 exact hI N1 _ fun N2 hN2 _ N3 hN3=>Qb (hQ _ (by omega)) (xq _ l 0 (by omega)).symm
theorem zBa {g:List Pm} {es:List D} (h:Pms g es) (hg:g.length≤1073741824) (hgc:∀ x∈g,x.ty.cnt≤1073741824) {t:Tm} {d:D} (ht:t.Is d) (hc:t.cnt≤1048576000 / 2) (a:Option Addr) (c:Nat) :
  zQT true 9 [.sv a 4 es c,.dg 9 d] (if (xU g t).isSome then zCz (zCD (yp g) [] t) else []):=fun N Q hQ=>by
 refine zCB N a es c d Q fun _ _ N1 hN1=>?_
 refine zET h hg hgc ht hc a c N1 _ fun x0 N2 hN2 _ _ hle _=>?_
 cases hb:(xU g t).isSome with
 | false=>
   simp only [Bool.not_false,zMZ]
   intro N3 hN3
   rw [hb] at hQ
   exact hQ none [] 0 N3 (by omega) rfl fun _=>zPD
 | true=>
   simp only [Bool.not_true,zKt]
   rw [hb,if_pos rfl] at hQ
   intro N3 hN3
   refine zCJ h hg a c N3 _ fun a1 c1 N4 hN4 _ _ N5 hN5=>?_
   have hnl:=qI g
   refine zLl t d ht (by omega) (yp g) [] (by omega) (by simp;omega) a1 none c1 0 N5 _ fun a2 es2 c2 N6 hN6 hes2 ho2 _ _=>?_
   have hpl:=qo (yp g) t []
   have hpc:=zC9 (yp g) t []
   have hszc:=sz_cnt t
   generalize zCD (yp g) [] t=all at hes2 hQ hpl hpc
   obtain ⟨z1,z2,z3⟩:=zDc hes2
   generalize hZ:zCT all es2=Z at z1 z2 z3
   subst z1;subst z2
   have hO:=zIU (ho2 rfl)
   have hT:TDs Z:=fun p hp=>⟨z3 p hp,by have:=hpc p.1 (List.mem_map.2 ⟨p,hp,rfl⟩);omega⟩
   have hZl:Z.length≤1073741824:=by simp only [List.length_map] at hpl;omega
   have key:∀ (R S W:List TD) (q N':Nat),Z=S++R→W++zDq S R=zDq [] Z→N6≤N'→zq Q N a2 (zQ Z) c2 (zQ W).length q a2 (zQ Z) c2 ((zQ Z).length:Int) (S.length:Nat) (zQ W) q N':=by
    intro R
    induction R with
    | nil=>
      intro S W q N' hZe hW hN'
      simp only [zDq,List.append_nil] at hW hZe
      have hsub:=qX Z []
      rw [←hW] at hsub
      have hWl:=hsub.length_le
      have hTW:TDs W:=hT.of fun p hp=>hsub.subset hp
      have hperm:=sQ (key:=tz) W []
      simp only [List.nil_append] at hperm
      refine uQ _ _ _ _ _ _ _ _ _ _ _ _ _ _ _ (Br.dec (fun hlt=>?_) fun _ N7 hN7=>?_)
      ·rw [zM,hZe] at hlt;omega
      refine zIW hTW (by rw [zM]) (by rw [zM];omega) N7 _ fun N8 hN8 _ _ hl=>?_
      refine ⟨⟨hl.symm,rfl⟩,⟨hl.symm,rfl⟩,⟨hl.symm,rfl⟩,⟨hl.symm,rfl⟩,fun a3 N9 hN9 hf N10 hN10=>?_⟩
      refine hQ a3 _ q N10 (by omega) ?_ fun _=>(rP (N1:=N6) ?_ hf (by omega)).mono (Nat.le_refl _) hN10
      ·have h1:=zDE (W:=v4 tz [] W) fun p hp=>(hTW p (hperm.mem_iff.1 hp)).1
       have h2:(v4 tz [] W).map (·.1)=zCz (Z.map (·.1)):=by rw [zFo,List.map_nil,hW,zIr];rfl
       rw [h2] at h1
       exact h1
      ·exact ((zNI (zOJ hO (hsub.map _)) (hperm.map _))).mono (by omega) (Nat.le_refl _)
    | cons x R' ih=>
      intro S W q N' hZe hW hN'
      have hsub:=qX (x::R') S
      have hWl:=congrArg List.length hW
      have hcl:=(qX Z []).length_le
      simp only [List.length_append] at hWl
      have hzl:Z.length=S.length+1+R'.length:=by rw [hZe];simp;omega
      have hx:x∈Z:=by rw [hZe];simp
      have g1:(zQ Z).getD (((S.length:Nat):Int)).toNat default=x.2:=by rw [hZe];exact zAd (by simp)
      have g2:List.drop 0 (List.take (((S.length:Nat):Int)).toNat (zQ Z))=zQ S:=by rw [hZe];simp [zQ]
      have g3:List.drop ((S.length:Int)+1).toNat (List.take (((zQ Z).length:Nat):Int).toNat (zQ Z))=zQ R':=by
       have e:((S.length:Int)+1).toNat=S.length+1:=by omega
       rw [e,Int.toNat_natCast,List.take_length,hZe]
       simp only [zQ,List.map_append,List.map_cons]
       rw [List.drop_append]
       simp
      refine uQ _ _ _ _ _ _ _ _ _ _ _ _ _ _ _ (Br.dec (fun hlt=>?_) fun hlt=>by rw [zM] at hlt;omega)
      rw [i64_in ((S.length:Int)+1) (by omega),g1,g2,g3]
      simp only [zM]
      have hS:All2 Tm.Is (S.map (·.1)) (zQ S):=zDE fun p hp=>z3 p (by rw [hZe];simp [hp])
      have hR:All2 Tm.Is (R'.map (·.1)) (zQ R'):=zDE fun p hp=>z3 p (by rw [hZe];simp [hp])
      have e1:((S.length:Int)+1)=((S++[x]).length:Nat):=by simp
      refine ⟨⟨by omega,by omega⟩,⟨by omega,by omega,by omega⟩,fun ad _ _ N7 hN7 _=>zNT (z3 x hx) hS (by rw [zM];omega) _ _ ad N7 _ fun N8 hN8 _=>?_⟩
      have skip:∀ (N'':Nat),N6≤N''→¬((S.map (·.1)).any (rG x.1)=false∧(R'.map (·.1)).any (rG x.1)=true)→zq Q N a2 (zQ Z) c2 W.length q a2 (zQ Z) c2 (Z.length:Int) ((S.length:Int)+1) (zQ W) q N'':=fun N'' hN'' hno=>by
       rw [zDq,if_neg hno] at hW
       have:=ih (S++[x]) W q N'' (by rw [hZe];simp) hW hN''
       rw [←e1] at this
       simpa only [zM] using this
      refine Br.of (fun hb1=>⟨⟨by omega,by omega,by omega⟩,fun ad1 _ _ N9 hN9 _=>zNT (z3 x hx) hR (by rw [zM];omega) _ _ ad1 N9 _ fun N10 hN10 _=>?_⟩) fun hb1=>skip N8 (by omega) (fun hc=>by rw [hc.1] at hb1;simp at hb1)
      refine Br.of (fun hb2=>⟨by trivial,by unfold zC;rw [List.length_append,zM];simp only [List.length_cons,List.length_nil];omega,fun c3=>?_⟩) fun hb2=>skip N10 (by omega) (fun hc=>by rw [hc.2] at hb2;simp at hb2)
      rw [zDq,if_pos ⟨by simpa using hb1,hb2⟩] at hW
      have e2:zQ W++[x.2]=zQ (W++[x]):=by simp [zQ]
      have:=ih (S++[x]) (W++[x]) c3 N10 (by rw [hZe];simp) (by rw [←hW];simp) (by omega)
      rw [←e1] at this
      rw [e2]
      simpa only [zM] using this
   exact key Z [] [] 0 N6 rfl rfl (Nat.le_refl _)
theorem All2.tak {α:Type} {R:α→D→Prop}:∀ {l:List α} {es:List D} (i:Nat),All2 R l es→All2 R (l.take i) (es.take i)
 | _,_,0,_=>rfl
 | [],es,i+1,h=>by cases h;rfl
 | x::l,es,i+1,h=>by
   obtain ⟨d,ds,rfl,h1,h2⟩:=h
   exact ⟨d,ds.take i,rfl,h1,All2.tak i h2⟩
theorem All2.drp {α:Type} {R:α→D→Prop}:∀ {l:List α} {es:List D} (i:Nat),All2 R l es→All2 R (l.drop i) (es.drop i)
 | _,_,0,h=>h
 | [],es,i+1,h=>by cases h;rfl
 | x::l,es,i+1,h=>by
   obtain ⟨d,ds,rfl,h1,h2⟩:=h
   exact All2.drp i h2
/-- an element behind all that are at least as great -/
theorem zNj {key:Tm→Nat} {x:Tm}:∀ {o1 o2:List Tm},(∀ y∈o1,key x≤key y)→(∀ y ys,o2=y::ys→key y<key x)→zEs key x (o1++o2)=o1++x::o2
 | [],[],_,_=>rfl
 | [],y::ys,_,h=>by
   have:=h y ys rfl
   simp only [List.nil_append,zEs]
   rw [if_neg (by omega)]
 | y::o1,o2,h1,h2=>by
   have:=h1 y (by simp)
   simp only [List.cons_append,zEs]
   rw [if_pos this,zNj (fun z hz=>h1 z (by simp [hz])) h2]
theorem zOL {r:List D} {m c at_:Nat} (hm:m=r.length) (h1:at_≤m) (h2:m≤c):List.take (m - at_) (List.drop (0+loN 9 c at_) r)=r.drop at_:=by
 have e:loN 9 c at_=if (c:Int)=(at_:Int) then 0 else at_:=rfl
 rw [e]
 split
 ·have:at_=m:=by omega
  rw [this,Nat.sub_self,List.take_zero,hm,List.drop_length]
 ·rw [Nat.zero_add,List.take_of_length_le (by rw [List.length_drop];omega)]
theorem zP6 {m c at_:Nat} (h1:at_≤m) (h2:m≤c):0+loN 9 c at_+(m - at_)≤m:=by
 have e:loN 9 c at_=if (c:Int)=(at_:Int) then 0 else at_:=rfl
 rw [e]
 split<;>omega
theorem zBs {g:List Pm} {es:List D} (h:Pms g es) (hg:g.length≤1073741824) {t:Tm} {d:D} (ht:t.Is d) (hc:t.cnt≤536870000) (a:Option Addr) (c:Nat) :
  zQT false 6 [.sv a 4 es c,.dg 9 d] (if (xU g t).isSome then zCz (zCD (yp g) [] t) else []):=fun N Q hQ=>by
 refine zBu N a es c d Q fun _ _ N1 hN1=>?_
 refine zEL h hg ht hc a c N1 _ fun x0 N2 hN2 _ hle _=>?_
 cases hb:(xU g t).isSome with
 | false=>
   simp only [Bool.not_false,zMZ]
   rw [hb] at hQ
   exact ⟨by trivial,by trivial,by trivial,by trivial,fun a1 N3 hN3 _ N4 hN4=>hQ a1 [] 0 N4 (by omega) rfl fun h=>by cases h⟩
 | true =>
   simp only [Bool.not_true,zKt]
   rw [hb,if_pos rfl] at hQ
   intro N3 hN3
   refine zLk h hg a c N3 _ fun a1 c1 N4 hN4 _ _=>⟨by trivial,fun a2 _ hoff _ N5 hN5 hbel=>?_⟩
   have hnl:=qI g
   refine zME t d ht (by omega) (yp g) [] (by omega) (by simp;omega) a1 a2 c1 0 N5 _ fun a3 es3 c3 N6 hN6 hes3 hft _=>⟨fun a4 ha4 ad had hc4=>?_,fun _=>?_⟩
   ·rcases hft _ hc4 with hc5 | hc5
    ·exact hoff a4 ha4 ad had hc5
    ·have:=hbel a4 ha4 ad had
     omega
   have hpl:=qo (yp g) t []
   have hpc:=zC9 (yp g) t []
   have hszc:=sz_cnt t
   generalize zCD (yp g) [] t=all at hes3 hQ hpl hpc
   have hel:=hes3.len
   have hcl:=zIG all
   -- the parts one by one
   have key:∀ (R S o:List Tm) (r0:List D) (q N':Nat),all=S++R→v4 Tm.sz o (uZ S R)=zCz all→All2 Tm.Is o r0→o.length+R.length≤all.length→(∀ y∈o,y.cnt≤t.cnt)→r0.length≤q→N6≤N'→zR Q N r0.length q a3 es3 c3 (S.length:Nat) r0 q N':=by
    intro R
    induction R with
    | nil=>
      intro S o r0 q N' hA ho hr hlen hcn hq hN'
      simp only [uZ,v4,List.foldl_nil,List.append_nil] at ho hA
      refine ub _ _ _ _ _ _ _ _ _ _ _ (Br.dec (fun hlt=>?_) fun _=>⟨by trivial,by trivial,by trivial,fun a4 N7 hN7 _ N8 hN8=>hQ a4 r0 q N8 (by omega) (ho ▸ hr) fun h=>by cases h⟩)
      rw [hel,hA] at hlt;omega
    | cons x R' ih=>
      intro S o r0 q N' hA ho hr hlen hcn hq hN'
      have hal:all.length=S.length+1+R'.length:=by rw [hA];simp;omega
      have hol:=hr.len
      simp only [List.length_cons] at hlen
      have hxa:x∈all:=by rw [hA];simp
      have hxg:all[S.length]?=some x:=tA (W:=all) hA rfl
      have hxd:x.Is (es3.getD S.length default):=hes3.get hxg
      have hxc:=hpc x hxa
      have hxs:=sz_cnt x
      have next:∀ (o':List Tm) (r':List D) (q' N'':Nat),v4 Tm.sz o' (uZ (S++[x]) R')=zCz all→All2 Tm.Is o' r'→o'.length≤o.length+1→(∀ y∈o',y.cnt≤t.cnt)→r'.length≤q'→N6≤N''→zR Q N r'.length q' a3 es3 c3 (IntKind.i64.wrap (((S.length:Nat):Int)+1)) r' q' N'':=fun o' r' q' N'' e1 e2 e3 e4 e5 e6=>by
       rw [i64_in _ (by omega)]
       have:=ih (S++[x]) o' r' q' N'' (by rw [hA];simp) e1 e2 (by omega) e4 e5 e6
       simpa using this
      refine ub _ _ _ _ _ _ _ _ _ _ _ (Br.dec (fun _=>?_) fun hlt=>by rw [hel] at hlt;omega)
      -- how often, and where first
      have cnt:∀ (n first:Int) (N'':Nat),N6≤N''→0≤n→(n<2↔¬2≤all.countP (rG x))→(first=S.length↔S.any (rG x)=false) →
        Br (decide (n<2)) (zR Q N r0.length q a3 es3 c3 (IntKind.i64.wrap (((S.length:Nat):Int)+1)) r0 q N'') (Br (bne first ((S.length:Nat):Int)) (zR Q N r0.length q a3 es3 c3 (IntKind.i64.wrap (((S.length:Nat):Int)+1)) r0 q N'') (yP Q N r0.length q a3 es3 c3 ((S.length:Nat):Int) 0 r0 q N'')):=by
       intro n first N'' hN'' hn0 hn hf
       have hcp:all.countP (rG x)=S.countP (rG x)+1+R'.countP (rG x):=by rw [hA,List.countP_append,List.countP_cons,zMV];simp;omega
       have skip:¬(S.any (rG x)=false∧R'.any (rG x)=true)→zR Q N r0.length q a3 es3 c3 (IntKind.i64.wrap (((S.length:Nat):Int)+1)) r0 q N'':=fun hno=>next o r0 q N'' (by rw [←ho];simp only [uZ];rw [if_neg hno]) hr (by omega) hcn hq hN''
       refine Br.dec (fun h2=>skip fun hc2=>?_) fun h2=>Br.bne (fun hne=>skip fun hc2=>hne (hf.2 hc2.1)) fun heq=>?_
       ·obtain ⟨y,hy,hye⟩:=List.any_eq_true.1 hc2.2
        have:=List.countP_pos_iff.2 ⟨y,hy,hye⟩
        exact hn.1 h2 (by omega)
       have hS:=hf.1 heq
       have hR:R'.any (rG x)=true:=by
        have h0:S.countP (rG x)=0:=List.countP_eq_zero.2 fun y hy hye=>by
         have:=List.any_eq_true.2 ⟨y,hy,hye⟩
         rw [hS] at this;cases this
        have h3:2≤all.countP (rG x):=Classical.byContradiction fun h3=>h2 (hn.2 h3)
        obtain ⟨y,hy,hye⟩:=List.countP_pos_iff.1 (show 0<R'.countP (rG x) by omega)
        exact List.any_eq_true.2 ⟨y,hy,hye⟩
       have ho':v4 Tm.sz (zEs Tm.sz x o) (uZ (S++[x]) R')=zCz all:=by
        rw [←ho];simp only [uZ];rw [if_pos ⟨hS,hR⟩];rfl
       -- where it goes
       have put:∀ (o1 o2:List Tm) (M:Nat),o=o1++o2→N6≤M→(∀ y∈o1,x.sz≤y.sz)→(∀ y ys,o2=y::ys→y.sz<x.sz)→y3 Q N r0.length q a3 es3 c3 ((S.length:Nat):Int) ((o1.length:Nat):Int) r0 q M:=by
        intro o1 o2 M hoe hM hx1 hx2
        have hl12:o.length=o1.length+o2.length:=by rw [hoe];simp
        refine pH _ _ _ _ _ _ _ _ _ _ _ _ ?_
        simp only [Int.toNat_natCast,zOL rfl (show o1.length≤r0.length by omega) hq,List.take_zero,List.nil_append,List.drop_zero]
        refine ⟨⟨by omega,by omega,by omega,by trivial⟩,by omega,zP6 (by omega) hq,by trivial,by unfold zC;rw [List.nil_append,List.length_drop];omega,fun c4 _=>⟨⟨by omega,by omega⟩,⟨by omega,by omega⟩,fun N7 hN7=>?_⟩⟩
        refine zPu x _ hxd (Tm.G_cnt x (by omega)) N7 _ ?_
        cases x with
        | mk k nm ot n0 ty re l=>
        intro x4 x5 x6 x7 es5 c5 N8 hN8 hh5 hes5 _ _ _
        refine ⟨by trivial,fun a5 N9 hN9 _=>?_⟩
        have hIs:(Tm.mk k nm ot n0 ty re l).Is (.ag [.lit (.int .i64 k),.lit (.string nm),.lit (.string ot),.lit (.int .i64 n0),x4,x5,x6,x7,.sl a5 9 es5 c5]):=Tm.is_mk.2 ⟨_,_,_,_,_,_,_,rfl,hh5,by have:=hes5.len;have:=vY l;simp only [Tm.cnt] at hxc;omega,hes5⟩
        generalize D.ag [.lit (.int .i64 k),.lit (.string nm),.lit (.string ot),.lit (.int .i64 n0),x4,x5,x6,x7,.sl a5 9 es5 c5]=X at hIs
        have ht1:List.take 1 [X]=[X]:=rfl
        have hr12:All2 Tm.Is (o1++Tm.mk k nm ot n0 ty re l::o2) ((r0.take o1.length++[X])++r0.drop o1.length):=by
         have e1:All2 Tm.Is o1 (r0.take o1.length):=by have:=All2.tak o1.length hr;rwa [hoe,List.take_left'] at this;rfl
         have e2:All2 Tm.Is o2 (r0.drop o1.length):=by have:=All2.drp o1.length hr;rwa [hoe,List.drop_left'] at this;rfl
         have:=(e1.snoc hIs).app e2
         simpa using this
        have hr12l:=hr12.len
        simp only [ht1,List.take_length]
        have hrl:(r0.take o1.length).length=o1.length:=by rw [List.length_take];omega
        refine ⟨by omega,by simp,⟨hrl.symm,by trivial⟩,by unfold zC;rw [List.length_append,hrl];simp only [List.length_cons,List.length_nil];omega,fun c6 hc6=>⟨Nat.le_refl _,by omega,by trivial,by unfold zC;rw [hr12l];simp only [List.length_append,List.length_cons];omega,fun c7 hc7=>?_⟩⟩
        have hik:zEs Tm.sz (Tm.mk k nm ot n0 ty re l) o=o1++Tm.mk k nm ot n0 ty re l::o2:=by rw [hoe];exact zNj hx1 hx2
        refine next (o1++Tm.mk k nm ot n0 ty re l::o2) _ c7 N9 (by rw [←hik];exact ho') hr12 (by simp;omega) (fun y hy=>?_) hc7 (by omega)
        simp only [List.mem_append,List.mem_cons] at hy
        rcases hy with hy | rfl | hy
        ·exact hcn y (by rw [hoe];simp [hy])
        ·exact hxc
        ·exact hcn y (by rw [hoe];simp [hy])
       have find:∀ (o2 o1:List Tm) (M:Nat),o=o1++o2→N6≤M→(∀ y∈o1,x.sz≤y.sz)→yP Q N r0.length q a3 es3 c3 ((S.length:Nat):Int) ((o1.length:Nat):Int) r0 q M:=by
        intro o2
        induction o2 with
        | nil=>
          intro o1 M hoe hM hx1
          have hl12:o.length=o1.length:=by rw [hoe];simp
          exact v3 _ _ _ _ _ _ _ _ _ _ _ _ (Br.dec (fun hlt=>by omega) fun _=>put o1 [] M hoe hM hx1 (by simp))
        | cons y o2 ih2=>
          intro o1 M hoe hM hx1
          have hl12:o.length=o1.length+1+o2.length:=by rw [hoe];simp;omega
          have hyg:o[o1.length]?=some y:=tA (W:=o) hoe rfl
          have hyd:y.Is (r0.getD o1.length default):=hr.get hyg
          have hyc:=hcn y (by rw [hoe];simp)
          refine v3 _ _ _ _ _ _ _ _ _ _ _ _ (Br.dec (fun _=>?_) fun hlt=>by omega)
          simp only [Int.toNat_natCast,Nat.zero_add]
          refine ⟨⟨by omega,by omega,by omega⟩,by omega,⟨by omega,by omega⟩,fun N7 hN7=>tX y _ hyd (by omega) N7 _ fun N8 hN8 _ N9 hN9=>tX x _ hxd (by omega) N9 _ fun N10 hN10 _=>Br.dec (fun hge=>?_) fun hlt=>put o1 (y::o2) N10 hoe (by omega) hx1 (fun z zs hz=>by cases hz;omega)⟩
          rw [i64_in _ (by omega)]
          have:=ih2 (o1++[y]) N10 (by rw [hoe];simp) (by omega) (fun z hz=>by
           rcases List.mem_append.1 hz with hz | hz
           ·exact hx1 z hz
           ·simp only [List.mem_singleton] at hz;subst hz;omega)
          simpa using this
       exact find o [] N'' rfl hN'' (by simp)
      have loop:=up hes3 (by omega) (fun i xs=>∀ (n first:Int) (N'':Nat),N6≤N''→n=(all.take i).countP (rG x)→0≤first→first≤S.length→(first=S.length↔(all.take (min i S.length)).any (rG x)=false)→z5 Q N r0.length q a3 es3 c3 ((S.length:Nat):Int) n first i r0 q N'') ?_ ?_
      ·refine loop 0 _ N' hN' (by simp) (by omega) (by omega) (by simp)
      ·intro i hlt hi n first N'' hN'' hn hf0 hf1 hf
       refine v5 _ _ _ _ _ _ _ _ _ _ _ _ _ _ ?_
       rw [hlt]
       rw [List.take_of_length_le (by omega)] at hn
       rw [Nat.min_eq_right (by omega),hA,List.take_left' rfl] at hf
       exact cnt n first N'' hN'' (by omega) (by omega) hf
      ·intro i y ys hat _ ih2 n first N'' hN'' hn hf0 hf1 hf
       have hbb:=hat.b
       have htk:all.take (i+1)=all.take i++[y]:=wi hat.g
       have hcn1:(all.take (i+1)).countP (rG x)=(all.take i).countP (rG x)+if rG x y then 1 else 0:=by rw [htk,List.countP_append];simp [List.countP_cons]
       have hcnl:=List.countP_le_length (p:=rG x) (l:=all.take i)
       rw [List.length_take] at hcnl
       refine v5 _ _ _ _ _ _ _ _ _ _ _ _ _ _ ?_
       rw [hat.lt,hat.w]
       simp only [Int.toNat_natCast]
       refine ⟨⟨by omega,by omega⟩,⟨by omega,by omega⟩,fun N7 hN7=>zCu _ _ _ _ hat.r hxd N7 _ fun N8 hN8 _=>?_⟩
       rw [zNY y x]
       refine Br.of (fun he N9 hN9=>?_) fun he=>?_
       ·rw [he,if_pos rfl] at hcn1
        rw [i64_in (n+1) (by omega)]
        have go:∀ m:Int,m=min first i→∀ N10,N9≤N10→z5 Q N r0.length q a3 es3 c3 ((S.length:Nat):Int) (n+1) m ((i+1:Nat):Int) r0 q N10:=by
         intro m hm N10 hN10
         refine ih2 (n+1) m N10 (by omega) (by rw [hcn1,hn];omega) (by omega) (by omega) ?_
         by_cases hiS:i<S.length
         ·rw [Nat.min_eq_left (by omega),htk]
          have h1:¬m=S.length:=by omega
          simp [h1,he]
         ·rw [Nat.min_eq_right (by omega)] at hf ⊢
          have h1:m=first:=by omega
          rw [h1];exact hf
        refine zI5 N9 _ _ _ (Br.dec (fun hlt N10 hN10 _=>go first (by omega) N10 hN10) fun hge N10 hN10 _=>go i (by omega) N10 hN10)
       ·rw [he] at hcn1
        refine ih2 n first N8 (by omega) (by rw [hcn1,hn];simp) hf0 hf1 ?_
        by_cases hiS:i<S.length
        ·rw [Nat.min_eq_left (by omega)] at hf ⊢
         rw [htk,List.any_append]
         simpa [he] using hf
        ·rw [Nat.min_eq_right (by omega)] at hf ⊢
         exact hf
   exact key all [] [] [] 0 N6 rfl rfl rfl (by simp) (by simp) (Nat.le_refl _) (Nat.le_refl _)
theorem zBP {l:List Tm} {es fs:List D} (hes:All2 Tm.Is l es) (hfs:All2 Tm.Is l fs) (hlen:es.length≤4611686018427387904) (a b:Option Addr) (c c':Nat):vE 10 [.sv a 9 es c,.sv b 9 fs c'] true:=fun N Q hQ=>by
 have hl:=hes.len
 have hl':=hfs.len
 have key:=up hes hlen (fun i xs=>∀ (N':Nat),N≤N'→xS Q N a es c b fs c' i N') ?_ ?_
 ·refine pW N _ _ _ _ _ _ Q fun _ _=>?_
  repeat' first|with_reducible intro _|simp only[Y1,Y2,Y3,Y4]|(with_reducible first|refine X1 ?_ ?_|refine X2 ?_ ?_|refine X3 ?_ ?_|refine X4 ?_ ?_|refine X5 ?_ ?_|refine X6 ?_ ?_|refine X7 ?_ ?_|refine X8 ?_ ?_|refine X9 ?_ ?_)|refine⟨_,_,_,rfl,?_⟩|refine⟨_,rfl,?_⟩|((with_reducible refine And.intro ?_ ?_);·first|omega|trivial|(show _=_;rfl)|((with_reducible refine And.intro ?_ ?_)<;>first|omega|trivial|(show _=_;rfl)))|fail
  ·omega
  ·exact key N (Nat.le_refl _)
 ·intro i hlt hi N' hN'
  refine wa _ _ _ _ _ _ _ _ _ _ ?_
  repeat' first|with_reducible intro _|simp only[hlt,Y1,Y2,Y3,Y4]|(with_reducible first|refine X1 ?_ ?_|refine X2 ?_ ?_|refine X3 ?_ ?_|refine X4 ?_ ?_|refine X5 ?_ ?_|refine X6 ?_ ?_|refine X7 ?_ ?_|refine X8 ?_ ?_|refine X9 ?_ ?_)|refine⟨_,_,_,rfl,?_⟩|refine⟨_,rfl,?_⟩|((with_reducible refine And.intro ?_ ?_);·first|omega|trivial|(show _=_;rfl)|((with_reducible refine And.intro ?_ ?_)<;>first|omega|trivial|(show _=_;rfl)))|fail
  exact hQ _ (by omega)
 ·intro i x xs hat _ ih2 N' hN'
  have hb:=hat.b
  refine wa _ _ _ _ _ _ _ _ _ _ ?_
  repeat' first|with_reducible intro _|simp only[hat.lt,hat.w,Int.toNat_natCast,Y1,Y2,Y3,Y4]|(with_reducible first|refine X1 ?_ ?_|refine X2 ?_ ?_|refine X3 ?_ ?_|refine X4 ?_ ?_|refine X5 ?_ ?_|refine X6 ?_ ?_|refine X7 ?_ ?_|refine X8 ?_ ?_|refine X9 ?_ ?_)|refine⟨_,_,_,rfl,?_⟩|refine⟨_,rfl,?_⟩|((with_reducible refine And.intro ?_ ?_);·first|omega|trivial|(show _=_;rfl)|((with_reducible refine And.intro ?_ ?_)<;>first|omega|trivial|(show _=_;rfl)))|refine (zKw x _ _ hat.r (hfs.get hat.g)) _ _ ?_|fail
  exact ih2 _ (by omega)
theorem zH5 {m:Nat}:∀ {l:List Tm},(∀ x∈l,x.cnt≤m)→yM l≤l.length*m
 | [],_=>by simp [yM]
 | x::l,h=>by
   have h1:=zH5 (l:=l) fun y hy=>h y (by simp [hy])
   have h2:=h x (by simp)
   simp only [yM,List.length_cons,Nat.add_mul,Nat.one_mul]
   omega
theorem zJc {m:Nat}:∀ {g:List Pm},(∀ x∈g,x.ty.cnt≤m)→zBy g≤g.length*m
 | [],_=>by simp [zBy]
 | x::g,h=>by
   have h1:=zJc (g:=g) fun y hy=>h y (by simp [hy])
   have h2:=h x (by simp)
   simp only [zBy,List.length_cons,Nat.add_mul,Nat.one_mul]
   omega
theorem zE6 {g:List Pm} {es:List D} {t:Tm} {d:D} (ctx:Pms g es) (he:t.Is d) (a:Option Addr) (c:Nat) (N:Nat) :
  ACalls prog 3 [.bool] [.sv a 4 es c,.dg 9 d] N (fun r _=>r=true):=by
 refine sO N a es c d _ fun hB0 hB1 N1 hN1=>?_
 refine zLv ctx a c 1048576 (by omega) (by omega) N1 _ fun r N2 hN2 hr _=>Br.dec (fun _ N3 _=>rfl) fun hneg N4 hN4=>?_
 obtain ⟨hr0,hr1,hgl,hgc⟩:=hr.resolve_left (by omega)
 refine zOU t d he r (by omega) (by omega) N4 _ fun r2 N5 hN5 hr2 _=>Br.dec (fun _ N6 _=>rfl) fun hneg2 N7 hN7=>?_
 obtain ⟨hq0,hq1,hcn⟩:=hr2.resolve_left (by omega)
 have hcn:t.cnt≤3145731:=by omega
 have hgl:g.length≤1048576:=by omega
 have hgc:∀ x∈g,x.ty.cnt≤1048577:=fun x hx=>by have:=hgc x hx;omega
 have hgc2:∀ x∈g,x.ty.cnt≤1073741824:=fun x hx=>by have:=hgc x hx;omega
 have htg:zBy g≤1048576*1048577:=Nat.le_trans (zJc hgc) (Nat.mul_le_mul_right _ hgl)
 have hgl2:g.length≤1073741824:=by omega
 have hcn2:t.cnt≤1073741824:=by omega
 have hcn3:t.cnt≤1048576000 / 2:=by omega
 have hcn4:t.cnt≤536870000:=by omega
 clear hr hr2
 refine qj ctx hgl2 hgc2 a c N7 _ fun a1 es1 c1 N8 hN8 ctx1 own1 _ _ N9 hN9=>?_
 refine zDB t d he hcn2 N9 _ fun d1 N10 hN10 he1 own2 _ _ N11 hN11=>?_
 have hSpec:=zBs ctx1 hgl2 he1 hcn4 a1 c1
 have hImpl:=fun (es2:List D) (d2:D) (ctx2:Pms g es2) (he2:t.Is d2) a2 c2=>zBa ctx2 hgl2 hgc2 he2 hcn3 a2 c2
 have hol:(if (xU g t).isSome then zCz (zCD (yp g) [] t) else []).length≤3145731:=by
  have h1:=zIG (zCD (yp g) [] t)
  have h2:=qo (yp g) t []
  have h3:=sz_cnt t
  split
  ·omega
  ·simp
 have hoc:∀ x∈(if (xU g t).isSome then zCz (zCD (yp g) [] t) else []),x.cnt≤3145731:=fun x hx=>by
  split at hx
  ·have:=zC9 (yp g) t [] x (zNy hx);omega
  ·simp at hx
 generalize (if (xU g t).isSome then zCz (zCD (yp g) [] t) else [])=o at hSpec hImpl hol hoc
 have hot:yM o≤3145731*3145731:=Nat.le_trans (zH5 hoc) (Nat.mul_le_mul_right _ hol)
 refine hSpec N11 _ fun aw ew cw N12 hN12 hw _ _ hBw N13 hN13=>?_
 refine qj ctx hgl2 hgc2 a c N13 _ fun a2 es2 c2 N14 hN14 ctx2 own3 _ _ N15 hN15=>?_
 refine zDB t d he hcn2 N15 _ fun d2 N16 hN16 he2 own4 _ _ N17 hN17=>?_
 refine hImpl es2 d2 ctx2 he2 a2 c2 N17 _ fun ag eg cg N18 hN18 hg own5' _ _ N19 hN19=>?_
 have own5:=own5' rfl
 have hgl5:=hg.len
 refine zBP hg hw (by omega) ag aw cg cw N19 _ fun N20 hN20 _=>Br.of (fun h=>by simp at h) fun _ N23 hN23=>?_
 refine qj ctx hgl2 hgc2 a c N23 _ fun a3 es3 c3 N24 hN24 ctx3 _ _ _ N25 hN25=>?_
 refine zLq ctx2 ctx3 a2 a3 c2 c3 N25 _ fun N26 hN26 _=>Br.of (fun h=>by simp at h) fun _ N28 hN28=>?_
 refine zDB t d he hcn2 N28 _ fun d4 N29 hN29 he4 _ _ _ N30 hN30=>?_
 refine zKw t d2 d4 he2 he4 N30 _ fun N31 hN31 _=>Br.of (fun h=>by simp at h) fun _=>?_
 have B0:∀ M,N≤M→Bel M (.sl a 4 es c):=fun M h=>hB0.mono h
 have B1:∀ M,N≤M→Bel M d:=fun M h=>hB1.mono h
 have d53:=zG7 own3 own5 (by omega)
 have d54:=zG7 own4 own5 (by omega)
 have d34:=zG7 own3 own4 (by omega)
 refine ⟨own3.tree,own3.low (by omega),⟨fun x hx=>?_⟩,fun N33 hN33=>?_⟩
 ·simp only [List.mem_cons,List.not_mem_nil,or_false] at hx
  rcases hx with rfl | rfl | rfl | rfl | rfl
  ·exact uC own3 (B0 _ (by omega))
  ·exact uC own3 (hBw.mono (by omega))
  ·exact d53
  ·exact uC own3 (B1 _ (by omega))
  ·exact d34
 refine zJJ ctx2 a2 c2 own3.tree 1 (by omega) (by omega) N33 _ fun es5 k5 N34 hN34 hf5 hl5 hk5 hk5' _=>?_
 refine ⟨own4.tree,own4.low (by omega),rfl,⟨fun x hx=>?_⟩,fun N35 hN35=>?_⟩
 ·simp only [List.mem_cons,List.not_mem_nil,or_false] at hx
  rcases hx with rfl | rfl | rfl | rfl
  ·exact uC own4 (B0 _ (by omega))
  ·exact uC own4 (hBw.mono (by omega))
  ·exact d54
  ·exact uC own4 (B1 _ (by omega))
 refine zL9 he2 own4.tree k5 (by omega) (by omega) N35 _ fun d6 k6 N36 hN36 hf6 hk6 hk6' _=>Br.dec (fun h=>by omega) fun _ N38 hN38=>?_
 refine zBP hg hw (by omega) ag aw cg cw N38 _ fun N39 hN39 _=>Br.of (fun h=>by simp at h) fun _=>?_
 refine ⟨own5.tree,own5.low (by omega),⟨fun x hx=>?_⟩,rfl,fun N42 hN42=>?_⟩
 ·simp only [List.mem_cons,List.not_mem_nil,or_false] at hx
  rcases hx with rfl | rfl | rfl | rfl
  ·exact uC own5 (B0 _ (by omega))
  ·exact uC own5 (hBw.mono (by omega))
  ·exact uC own5 (B1 _ (by omega))
  ·rw [hf6];exact fun b hb hc=>d54 b hc hb
 have hmk:=zB8 o 1
 refine rd o eg (uF.2 hg) ag cg own5.tree (by omega) 1 (by omega) (by omega) N42 _ fun e9 N43 hN43 h9 hf9 hl9 _ N44 hN44=>?_
 have hheld:=zIc (Tm.mk 0 (bytes []) (bytes []) 0 tZero tZero o) 1 e9 ag cg (uF.1 h9) (by omega) (by omega) (by simp only [Tm.as];omega)
 simp only [Tm.as] at hheld
 refine hheld N44 _ fun N45 hN45 _=>Br.dec (fun h=>by omega) fun _=>Br.bne (fun h=>absurd rfl h) fun _ N48 hN48=>?_
 refine qj ctx hgl2 hgc2 a c N48 _ fun a5 es5 c5 N49 hN49 ctx5 _ _ _ N50 hN50=>?_
 refine zDB t d he hcn2 N50 _ fun d7 N51 hN51 he7 _ _ _ N52 hN52=>?_
 refine hImpl es5 d7 ctx5 he7 a5 c5 N52 _ fun ah eh ch N53 hN53 hh _ _ _ N54 hN54=>?_
 have hhl:=hh.len
 refine zBP hh hw (by omega) ah aw ch cw N54 _ fun N55 hN55 _=>Br.of (fun h=>by simp at h) fun _ N58 hN58=>?_
 exact hheld N58 _ fun N59 hN59 _=>Br.dec (fun h=>by omega) fun _=>Br.bne (fun h=>absurd rfl h) fun _ N62 hN62=>rfl
end Go.Proofs.YtnpjpplbkoammaaGreat
