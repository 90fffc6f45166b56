/- Candidates: what the reference and the program come to. -/
import Derived.Test.YtlahkdflngobiaaGreatDoorC3
set_option linter.unusedVariables false
set_option linter.unusedSimpArgs false
namespace Go.Proofs.YtlahkdflngobiaaGreatDoor
open Go Go.Proofs Go.Proofs.Tryz Go.IntWalk
/-- the first of those that occur again -/
def vE:List Tm->List Tm->List Tm
 | _,[]=>[]
 | seen,x::xs=>if seen.any (uc x)=false/\xs.any (uc x)=true then x::vE (seen++[x]) xs else vE (seen++[x]) xs
def zFr:List TD->List TD->List TD
 | _,[]=>[]
 | seen,x::xs=>if (seen.map (·.1)).any (uc x.1)=false/\(xs.map (·.1)).any (uc x.1)=true then x::zFr (seen++[x]) xs else zFr (seen++[x]) xs
theorem zKA:∀ (xs seen:List TD),(zFr seen xs).map (·.1)=vE (seen.map (·.1)) (xs.map (·.1))
 | [],_=>rfl
 | x::xs,seen=>by
   have I:=zKA xs (seen++[x])
   simp only [nh,om,mI] at I
   simp only [zFr,vE,om]
   split
   ·rw [om,I]
   ·exact I
theorem pI:∀ (xs seen:List TD),List.Sublist (zFr seen xs) xs
 | [],_=>List.Sublist.slnil
 | x::xs,seen=>by
   simp only [zFr]
   split
   ·exact (pI xs _).cons_cons x
   ·exact (pI xs _).cons x
theorem pq:∀ (xs seen:List Tm),List.Sublist (vE seen xs) xs
 | [],_=>List.Sublist.slnil
 | x::xs,seen=>by
   simp only [vE]
   split
   ·exact (pq xs _).cons_cons x
   ·exact (pq xs _).cons x
theorem zLI {α:Type} {key:α->Nat} {x:α}:∀ (l:List α),List.Perm (zGP key x l) (x::l)
 | []=>.refl _
 | y::l=>by
   simp only [zGP]
   split
   ·exact ((zLI l).cons y).trans (.swap x y l)
   ·exact .refl _
theorem tS {α:Type} {key:α->Nat}:∀ (l o:List α),List.Perm (ue key o l) (o++l)
 | [],o=>by simp [ue]
 | x::l,o=>by
   have h:=tS (key:=key) l (zGP key x o)
   refine h.trans (((zLI o).append_right l).trans ?_)
   simpa using (List.perm_middle (a:=x) (l₁:=o) (l₂:=l)).symm
theorem zM7 {x:TD}:∀ (l:List TD),(zGP tz x l).map (·.1)=zGP Tm.sz x.1 (l.map (·.1))
 | []=>rfl
 | y::l=>by
   have J:=zM7 (x:=x) l
   by_cases h:tz x<=tz y
   ·have I:x.1.sz<=y.1.sz:=h
    simp only [zGP,if_pos h,if_pos I,om,J]
   ·have I:¬x.1.sz<=y.1.sz:=h
    simp only [zGP,if_neg h,if_neg I,om]
theorem zHf:∀ (l o:List TD),(ue tz o l).map (·.1)=ue Tm.sz (o.map (·.1)) (l.map (·.1))
 | [],_=>rfl
 | x::l,o=>by
   have I:=zHf l (zGP tz x o)
   rw [zM7] at I
   exact I
/-- the parts that occur more than once, the greater ahead -/
def zDy (all:List Tm):List Tm:=ue Tm.sz [] (vE [] all)
theorem zPX (all:List Tm):(zDy all).length<=all.length:=by
 have I:=(tS (key:=Tm.sz) (vE [] all) []).length_eq
 have J:=(pq all []).length_le
 simp only [oR] at I
 unfold zDy
 omega
theorem zBh {all:List Tm} {u:Tm} (h:u∈zDy all):u∈all:=by
 have I:=(tS (key:=Tm.sz) (vE [] all) []).mem_iff.1 h
 exact (pq all []).subset (by simpa using I)
def zDO:List Tm->List D->List TD
 | t::I,d::ds=>(t,d)::zDO I ds
 | _,_=>[]
theorem zFv:∀ {l:List Tm} {es:List D},All2 Tm.Is l es->(zDO l es).map (·.1)=l/\zP (zDO l es)=es/\∀ p∈zDO l es,p.1.Is p.2
 | [],es,h=>by cases h;exact ⟨rfl,rfl,by simp [zDO]⟩
 | t::ts,es,⟨d,ds,I,J,O⟩=>by
   subst I
   obtain ⟨a,b,c⟩:=zFv O
   refine ⟨by simp only [zDO,om,a],by simp only [zDO,zP,om];rw [<-zP,b],λp hp=>?_⟩
   rcases oJ.1 hp with rfl | hp
   ·exact J
   ·exact c p hp
theorem zEZ:∀ {W:List TD},(∀ p∈W,p.1.Is p.2)->All2 Tm.Is (W.map (·.1)) (zP W)
 | [],_=>rfl
 | p::W,h=>⟨p.2,zP W,rfl,h p (by simp),zEZ λq I=>h q (by simp [I])⟩
theorem sT:∀ es:List D,zB es=es.flatMap D.foot
 | []=>rfl
 | d::ds=>by simp only [zB,lL,sT ds]
theorem sj:∀ {es:List D},y7 es↔∀ d∈es,d.Flat0
 | []=>by simp [y7]
 | d::ds=>by simp [y7,sj (es:=ds)]
theorem zP1 {N N':Nat} {es fs:List D} (h:OwnL N N' es) (J:List.Perm fs es):OwnL N N' fs:=by
 have e:List.Perm (zB fs) (zB es):=by rw [sT,sT];exact J.flatMap_right _
 exact ⟨e.nodup_iff.2 h.nd,sj.2 λd hd=>sj.1 h.fl d (J.mem_iff.1 hd),λb I=>h.lo b (e.mem_iff.1 I),λb I=>h.hi b (e.mem_iff.1 I)⟩
theorem zRr {N N':Nat} {es fs:List D} (h:OwnL N N' es) (hs:List.Sublist fs es):OwnL N N' fs:=by
 have e:List.Sublist (zB fs) (zB es):=by
  rw [sT,sT]
  induction hs with
  | slnil=>exact List.Sublist.slnil
  | cons a _ J=>
    rw [lL]
    exact (J ⟨(oc.1 (by have:=h.nd;rwa [zB] at this)).2.1,h.fl.2,λb I=>h.lo b (by simp only [zB,oF];exact .inr I),λb I=>h.hi b (by simp only [zB,oF];exact .inr I)⟩).trans (List.sublist_append_right _ _)
  | cons_cons a _ J=>
    rw [lL,lL]
    exact (List.Sublist.refl _).append (J ⟨(oc.1 (by have:=h.nd;rwa [zB] at this)).2.1,h.fl.2,λb I=>h.lo b (by simp only [zB,oF];exact .inr I),λb I=>h.hi b (by simp only [zB,oF];exact .inr I)⟩)
 exact ⟨h.nd.sublist e,sj.2 λd hd=>sj.1 h.fl d (hs.subset hd),λb I=>h.lo b (e.subset I),λb I=>h.hi b (e.subset I)⟩
theorem zRs {N N' z c:Nat}:Own N N' (.sl none z [] c):=⟨by simp [D.foot,zB],⟨by simp,trivial⟩,by simp [D.foot,zB],by simp [D.foot,zB]⟩
theorem zOi {x:Tm} {O:D} (hx:x.Is O) {l:List Tm} {es:List D} (aa:All2 Tm.Is l es) (hlen:es.length<=4611686018427387904) (a:Option Addr) (c:Nat) (ad:Addr) :
  vn 62 [.sv a 9 es c,.fn 60 [.pd ad 9 O]] (l.any (uc x)):=λN Q hQ=>by
 refine uQ N a es c ad O Q λ_ N1 ab=>?_
 have hI:p9 105 [.sv a 9 es c,.fn 60 [.pd ad 9 O]] (sd (uc x) l 0):=λN Q hQ=>by
  refine tD N a es c ad O Q λ_=>?_
  refine up aa hlen (λi xs=>∀ (N':Nat),N<=N'->(∀ N'',N'<=N''->Q (sd (uc x) xs i) N'')->yK Q N a es c ad O (es.length:Int) i N') ?_ ?_ N (oA _) hQ
  ·intro i ac _ N' ae I
   refine wX _ _ _ _ _ _ _ _ _ _ ?_
   rw [ac]
   exact λN'' h=>I _ (by omega)
  ·intro i y ys J _ ah N' ae I
   have hb:=J.b
   simp only [sd] at I
   refine wX _ _ _ _ _ _ _ _ _ _ ?_
   rw [J.lt,J.w,oH]
   refine ⟨⟨by omega,by omega⟩,λN1 ab=>qY N1 _ ad O _ λ_ N2 ai=>qM _ _ _ _ hx J.r N2 _ λN3 aj _ N4 ak _=>Br.of (λh N5 al=>Qi (I _ (by omega)) (by rw [if_pos h])) λh=>ah _ (by omega) λN'' h2=>Qi (I _ (by omega)) (by rw [if_neg (by rw [h];simp)];simp)⟩
 exact hI N1 _ λN2 ai _ N3 aj=>Qb (hQ _ (by omega)) (wP _ l 0 (by omega)).symm
theorem zCS {g:List Pm} {es:List D} (h:Pms g es) (hg:g.length<=1073741824) (ao:∀ x∈g,x.ty.cnt<=1073741824) {t:Tm} {d:D} (ht:t.Is d) (hc:t.cnt<=1048576000 / 2) (a:Option Addr) (c:Nat) :
  zTM true 20 [.sv a 4 es c,.dg 9 d] (if (xW g t).isSome then zDy (zAN (zq g) [] t) else []):=λN Q hQ=>by
 refine zC0 N a es c d Q λ_ _ N1 bb=>?_
 refine zEk h hg ao ht hc a c N1 _ λx0 N2 bc _ _ bd _=>?_
 cases hb:(xW g t).isSome with
 | false=>
   simp only [Bool.not_false,zQE]
   intro N3 aq
   rw [hb] at hQ
   exact hQ none [] 0 N3 (by omega) rfl λ_=>zRs
 | true=>
   simp only [Bool.not_true,zNM]
   rw [hb,if_pos rfl] at hQ
   intro N3 aq
   refine qp h hg a c N3 _ λa1 c1 N4 bg _ _ N5 bh=>?_
   have bi:=tI g
   refine zOI t d ht (by omega) (zq g) [] (by omega) (by simp;omega) a1 none c1 0 N5 _ λa2 au c2 N6 bj ae aw _ _=>?_
   have ai:=zCC (zq g) t []
   have aj:=p4 (zq g) t []
   have ba:=sz_cnt t
   generalize zAN (zq g) [] t=all at ae hQ ai aj
   obtain ⟨z1,z2,z3⟩:=zFv ae
   generalize hZ:zDO all au=Z at z1 z2 z3
   subst z1;subst z2
   have hO:=zF7 (aw rfl)
   have hT:TDs Z:=λp hp=>⟨z3 p hp,by have:=aj p.1 (oS.2 ⟨p,hp,rfl⟩);omega⟩
   have bm:Z.length<=1073741824:=by simp only [nV] at ai;omega
   have key:∀ (R S W:List TD) (q N':Nat),Z=S++R->W++zFr S R=zFr [] Z->N6<=N'->z6 Q N a2 (zP Z) c2 (zP W).length q a2 (zP Z) c2 ((zP Z).length:Int) (S.length:Nat) (zP W) q N':=by
    intro R
    induction R with
    | nil=>
      intro S W q N' I hW ax
      simp only [zFr,oY] at hW I
      have J:=pI Z []
      rw [<-hW] at J
      have ak:=J.length_le
      have al:TDs W:=hT.of λp hp=>J.subset hp
      have O:=tS (key:=tz) W []
      simp only [oR] at O
      refine tM _ _ _ _ _ _ _ _ _ _ _ _ _ _ _ (Br.dec (λaa=>?_) λ_ N7 ay=>?_)
      ·rw [zM,I] at aa;omega
      refine zJ4 al (by rw [zM]) (by rw [zM];omega) N7 _ λN8 az _ _ hl=>?_
      refine ⟨⟨hl.symm,rfl⟩,⟨hl.symm,rfl⟩,⟨hl.symm,rfl⟩,⟨hl.symm,rfl⟩,λa3 N9 a6 hf N10 ah=>?_⟩
      refine hQ a3 _ q N10 (by omega) ?_ λ_=>(tf (N1:=N6) ?_ hf (by omega)).mono (oA _) ah
      ·have h1:=zEZ (W:=ue tz [] W) λp hp=>(al p (O.mem_iff.1 hp)).1
       have h2:(ue tz [] W).map (·.1)=zDy (Z.map (·.1)):=by rw [zHf,mI,hW,zKA];rfl
       rw [h2] at h1
       exact h1
      ·exact ((zP1 (zRr hO (J.map _)) (O.map _))).mono (by omega) (oA _)
    | cons x R' ih=>
      intro S W q N' I hW ax
      have J:=pI (x::R') S
      have ak:=nH List.length hW
      have bn:=(pI Z []).length_le
      simp only [oE] at ak
      have bp:Z.length=S.length+1+R'.length:=by rw [I];simp;omega
      have hx:x∈Z:=by rw [I];simp
      have g1:(zP Z).getD (((S.length:Nat):Int)).toNat default=x.2:=by rw [I];exact zBV (by simp)
      have g2:List.drop 0 (List.take (((S.length:Nat):Int)).toNat (zP Z))=zP S:=by rw [I];simp [zP]
      have g3:List.drop ((S.length:Int)+1).toNat (List.take (((zP Z).length:Nat):Int).toNat (zP Z))=zP R':=by
       have e:((S.length:Int)+1).toNat=S.length+1:=by omega
       rw [e,oH,List.take_length,I]
       simp only [zP,nh,om]
       rw [lO]
       simp
      refine tM _ _ _ _ _ _ _ _ _ _ _ _ _ _ _ (Br.dec (λaa=>?_) λaa=>by rw [zM] at aa;omega)
      rw [i64_in ((S.length:Int)+1) (by omega),g1,g2,g3]
      simp only [zM]
      have hS:All2 Tm.Is (S.map (·.1)) (zP S):=zEZ λp hp=>z3 p (by rw [I];simp [hp])
      have hR:All2 Tm.Is (R'.map (·.1)) (zP R'):=zEZ λp hp=>z3 p (by rw [I];simp [hp])
      have e1:((S.length:Int)+1)=((S++[x]).length:Nat):=by simp
      refine ⟨⟨by omega,by omega⟩,⟨by omega,by omega,by omega⟩,λad _ _ N7 ay _=>zOi (z3 x hx) hS (by rw [zM];omega) _ _ ad N7 _ λN8 az _=>?_⟩
      have skip:∀ (N'':Nat),N6<=N''->¬((S.map (·.1)).any (uc x.1)=false/\(R'.map (·.1)).any (uc x.1)=true)->z6 Q N a2 (zP Z) c2 W.length q a2 (zP Z) c2 (Z.length:Int) ((S.length:Int)+1) (zP W) q N'':=λN'' am a7=>by
       rw [zFr,if_neg a7] at hW
       have:=ih (S++[x]) W q N'' (by rw [I];simp) hW am
       rw [<-e1] at this
       simpa only [zM] using this
      refine Br.of (λab=>⟨⟨by omega,by omega,by omega⟩,λa8 _ _ N9 a6 _=>zOi (z3 x hx) hR (by rw [zM];omega) _ _ a8 N9 _ λN10 ah _=>?_⟩) λab=>skip N8 (by omega) (λhc=>by rw [hc.1] at ab;simp at ab)
      refine Br.of (λac=>⟨by trivial,by unfold zC;rw [oE,zM];simp only [oK,oO];omega,λc3=>?_⟩) λac=>skip N10 (by omega) (λhc=>by rw [hc.2] at ac;simp at ac)
      rw [zFr,if_pos ⟨by simpa using ab,ac⟩] at hW
      have e2:zP W++[x.2]=zP (W++[x]):=by simp [zP]
      have:=ih (S++[x]) (W++[x]) c3 N10 (by rw [I];simp) (by rw [<-hW];simp) (by omega)
      rw [<-e1] at this
      rw [e2]
      simpa only [zM] using this
   exact key Z [] [] 0 N6 rfl rfl (oA _)
theorem All2.tak {α:Type} {R:α->D->Prop}:∀ {l:List α} {es:List D} (i:Nat),All2 R l es->All2 R (l.take i) (es.take i)
 | _,_,0,_=>rfl
 | [],es,i+1,h=>by cases h;rfl
 | x::l,es,i+1,h=>by
   obtain ⟨d,ds,rfl,I,J⟩:=h
   exact ⟨d,ds.take i,rfl,I,All2.tak i J⟩
theorem All2.drp {α:Type} {R:α->D->Prop}:∀ {l:List α} {es:List D} (i:Nat),All2 R l es->All2 R (l.drop i) (es.drop i)
 | _,_,0,h=>h
 | [],es,i+1,h=>by cases h;rfl
 | x::l,es,i+1,h=>by
   obtain ⟨d,ds,rfl,J,I⟩:=h
   exact All2.drp i I
/-- an element behind all that are at least as great -/
theorem zPn {key:Tm->Nat} {x:Tm}:∀ {I o2:List Tm},(∀ y∈I,key x<=key y)->(∀ y ys,o2=y::ys->key y<key x)->zGP key x (I++o2)=I++x::o2
 | [],[],_,_=>rfl
 | [],y::ys,_,h=>by
   have:=h y ys rfl
   simp only [oR,zGP]
   rw [if_neg (by omega)]
 | y::I,o2,J,O=>by
   have:=J y (by simp)
   simp only [nB,zGP]
   rw [if_pos this,zPn (λz hz=>J z (by simp [hz])) O]
theorem zRB {r:List D} {m c at_:Nat} (I:m=r.length) (J:at_<=m) (O:m<=c):List.take (m - at_) (List.drop (0+loN 9 c at_) r)=r.drop at_:=by
 have e:loN 9 c at_=if (c:Int)=(at_:Int) then 0 else at_:=rfl
 rw [e]
 split
 ·have:at_=m:=by omega
  rw [this,Nat.sub_self,mb,I,List.drop_length]
 ·rw [o6,oi (by rw [mH];omega)]
theorem zS3 {m c at_:Nat} (I:at_<=m) (J:m<=c):0+loN 9 c at_+(m - at_)<=m:=by
 have e:loN 9 c at_=if (c:Int)=(at_:Int) then 0 else at_:=rfl
 rw [e]
 split<;>omega
theorem zC6 {g:List Pm} {es:List D} (h:Pms g es) (hg:g.length<=1073741824) {t:Tm} {d:D} (ht:t.Is d) (hc:t.cnt<=536870000) (a:Option Addr) (c:Nat) :
  zTM false 25 [.sv a 4 es c,.dg 9 d] (if (xW g t).isSome then zDy (zAN (zq g) [] t) else []):=λN Q hQ=>by
 refine zC4 N a es c d Q λ_ _ N1 cm=>?_
 refine zFo h hg ht hc a c N1 _ λx0 N2 cn _ co _=>?_
 cases hb:(xW g t).isSome with
 | false=>
   simp only [Bool.not_false,zQE]
   rw [hb] at hQ
   exact ⟨by trivial,by trivial,by trivial,by trivial,λa1 N3 bz _ N4 b1=>hQ a1 [] 0 N4 (by omega) rfl λh=>by cases h⟩
 | true =>
   simp only [Bool.not_true,zNM]
   rw [hb,if_pos rfl] at hQ
   intro N3 bz
   refine zHm h hg a c N3 _ λa1 c1 N4 b1 _ _=>⟨by trivial,λa2 _ a8 _ N5 cp ba=>?_⟩
   have cq:=tI g
   refine zNo t d ht (by omega) (zq g) [] (by omega) (by simp;omega) a1 a2 c1 0 N5 _ λa3 O c3 N6 cr ae b2 _=>⟨λa4 bb ad bc b3=>?_,λ_=>?_⟩
   ·rcases b2 _ b3 with hc5 | hc5
    ·exact a8 a4 bb ad bc hc5
    ·have:=ba a4 bb ad bc
     omega
   have b4:=zCC (zq g) t []
   have bd:=p4 (zq g) t []
   have ck:=sz_cnt t
   generalize zAN (zq g) [] t=all at ae hQ b4 bd
   have bg:=ae.len
   have ct:=zPX all
   -- the parts one by one
   have key:∀ (R S o:List Tm) (r0:List D) (q N':Nat),all=S++R->ue Tm.sz o (vE S R)=zDy all->All2 Tm.Is o r0->o.length+R.length<=all.length->(∀ y∈o,y.cnt<=t.cnt)->r0.length<=q->N6<=N'->zS Q N r0.length q a3 O c3 (S.length:Nat) r0 q N':=by
    intro R
    induction R with
    | nil=>
      intro S o r0 q N' hA ho hr hlen aj hq bh
      simp only [vE,ue,List.foldl_nil,oY] at ho hA
      refine tO _ _ _ _ _ _ _ _ _ _ _ (Br.dec (λaa=>?_) λ_=>⟨by trivial,by trivial,by trivial,λa4 N7 aw _ N8 ax=>hQ a4 r0 q N8 (by omega) (ho ▸ hr) λh=>by cases h⟩)
      rw [bg,hA] at aa;omega
    | cons x R' ih=>
      intro S o r0 q N' hA ho hr hlen aj hq bh
      have cw:all.length=S.length+1+R'.length:=by rw [hA];simp;omega
      have cx:=hr.len
      simp only [oK] at hlen
      have b5:x∈all:=by rw [hA];simp
      have b6:all[S.length]?=some x:=sK (W:=all) hA rfl
      have ay:x.Is (O.getD S.length default):=ae.get b6
      have bi:=bd x b5
      have cy:=sz_cnt x
      have next:∀ (o':List Tm) (r':List D) (q' N'':Nat),ue Tm.sz o' (vE (S++[x]) R')=zDy all->All2 Tm.Is o' r'->o'.length<=o.length+1->(∀ y∈o',y.cnt<=t.cnt)->r'.length<=q'->N6<=N''->zS Q N r'.length q' a3 O c3 (IntKind.i64.wrap (((S.length:Nat):Int)+1)) r' q' N'':=λo' r' q' N'' e1 e2 e3 e4 e5 e6=>by
       rw [i64_in _ (by omega)]
       have:=ih (S++[x]) o' r' q' N'' (by rw [hA];simp) e1 e2 (by omega) e4 e5 e6
       simpa using this
      refine tO _ _ _ _ _ _ _ _ _ _ _ (Br.dec (λ_=>?_) λaa=>by rw [bg] at aa;omega)
      -- how often, and where first
      have cnt:∀ (n first:Int) (N'':Nat),N6<=N''->0<=n->(n<2↔¬2<=all.countP (uc x))->(first=S.length↔S.any (uc x)=false) ->
        Br (decide (n<2)) (zS Q N r0.length q a3 O c3 (IntKind.i64.wrap (((S.length:Nat):Int)+1)) r0 q N'') (Br (bne first ((S.length:Nat):Int)) (zS Q N r0.length q a3 O c3 (IntKind.i64.wrap (((S.length:Nat):Int)+1)) r0 q N'') (yZ Q N r0.length q a3 O c3 ((S.length:Nat):Int) 0 r0 q N'')):=by
       intro n first N'' ab cz hn hf
       have c0:all.countP (uc x)=S.countP (uc x)+1+R'.countP (uc x):=by rw [hA,List.countP_append,List.countP_cons,zKT];simp;omega
       have skip:¬(S.any (uc x)=false/\R'.any (uc x)=true)->zS Q N r0.length q a3 O c3 (IntKind.i64.wrap (((S.length:Nat):Int)+1)) r0 q N'':=λb7=>next o r0 q N'' (by rw [<-ho];simp only [vE];rw [if_neg b7]) hr (by omega) aj hq ab
       refine Br.dec (λh2=>skip λaz=>?_) λh2=>Br.bne (λb8=>skip λaz=>b8 (hf.2 az.1)) λheq=>?_
       ·obtain ⟨y,hy,ak⟩:=me.1 az.2
        have:=List.countP_pos_iff.2 ⟨y,hy,ak⟩
        exact hn.1 h2 (by omega)
       have hS:=hf.1 heq
       have hR:R'.any (uc x)=true:=by
        have h0:S.countP (uc x)=0:=List.countP_eq_zero.2 λy hy ak=>by
         have:=me.2 ⟨y,hy,ak⟩
         rw [hS] at this;cases this
        have h3:2<=all.countP (uc x):=Classical.byContradiction λh3=>h2 (hn.2 h3)
        obtain ⟨y,hy,ak⟩:=List.countP_pos_iff.1 (show 0<R'.countP (uc x) by omega)
        exact me.2 ⟨y,hy,ak⟩
       have b9:ue Tm.sz (zGP Tm.sz x o) (vE (S++[x]) R')=zDy all:=by
        rw [<-ho];simp only [vE];rw [if_pos ⟨hS,hR⟩];rfl
       -- where it goes
       have put:∀ (I o2:List Tm) (M:Nat),o=I++o2->N6<=M->(∀ y∈I,x.sz<=y.sz)->(∀ y ys,o2=y::ys->y.sz<x.sz)->xA Q N r0.length q a3 O c3 ((S.length:Nat):Int) ((I.length:Nat):Int) r0 q M:=by
        intro I o2 M J hM ai ca
        have ao:o.length=I.length+o2.length:=by rw [J];simp
        refine zAJ _ _ _ _ _ _ _ _ _ _ _ _ ?_
        simp only [oH,zRB rfl (show I.length<=r0.length by omega) hq,mb,oR,List.drop_zero]
        refine ⟨⟨by omega,by omega,by omega,by trivial⟩,by omega,zS3 (by omega) hq,by trivial,by unfold zC;rw [oR,mH];omega,λc4 _=>⟨⟨by omega,by omega⟩,⟨by omega,by omega⟩,λN7 aw=>?_⟩⟩
        refine zGA x _ ay (Tm.G_cnt x (by omega)) N7 _ ?_
        cases x with
        | mk k nm ot n0 ty re l=>
        intro x4 x5 x6 x7 bj c5 N8 ax cc aq _ _ _
        refine ⟨by trivial,λa5 N9 bm _=>?_⟩
        have bn:(Tm.mk k nm ot n0 ty re l).Is (.ag [.j k,.t nm,.t ot,.j n0,x4,x5,x6,x7,.sl a5 9 bj c5]):=Tm.is_mk.2 ⟨_,_,_,_,_,_,_,rfl,cc,by have:=aq.len;have:=yg l;simp only [Tm.cnt] at bi;omega,aq⟩
        generalize D.ag [.j k,.t nm,.t ot,.j n0,x4,x5,x6,x7,.sl a5 9 bj c5]=X at bn
        have cd:List.take 1 [X]=[X]:=rfl
        have au:All2 Tm.Is (I++Tm.mk k nm ot n0 ty re l::o2) ((r0.take I.length++[X])++r0.drop I.length):=by
         have e1:All2 Tm.Is I (r0.take I.length):=by have:=All2.tak I.length hr;rwa [J,List.take_left'] at this;rfl
         have e2:All2 Tm.Is o2 (r0.drop I.length):=by have:=All2.drp I.length hr;rwa [J,List.drop_left'] at this;rfl
         have:=(e1.snoc bn).app e2
         simpa using this
        have a6:=au.len
        simp only [cd,List.take_length]
        have bp:(r0.take I.length).length=I.length:=by rw [o8];omega
        refine ⟨by omega,by simp,⟨bp.symm,by trivial⟩,by unfold zC;rw [oE,bp];simp only [oK,oO];omega,λc6 c2=>⟨oA _,by omega,by trivial,by unfold zC;rw [a6];simp only [oE,oK];omega,λc7 ce=>?_⟩⟩
        have cf:zGP Tm.sz (Tm.mk k nm ot n0 ty re l) o=I++Tm.mk k nm ot n0 ty re l::o2:=by rw [J];exact zPn ai ca
        refine next (I++Tm.mk k nm ot n0 ty re l::o2) _ c7 N9 (by rw [<-cf];exact b9) au (by simp;omega) (λy hy=>?_) ce (by omega)
        simp only [oF,oJ] at hy
        rcases hy with hy | rfl | hy
        ·exact aj y (by rw [J];simp [hy])
        ·exact bi
        ·exact aj y (by rw [J];simp [hy])
       have bq:∀ (o2 I:List Tm) (M:Nat),o=I++o2->N6<=M->(∀ y∈I,x.sz<=y.sz)->yZ Q N r0.length q a3 O c3 ((S.length:Nat):Int) ((I.length:Nat):Int) r0 q M:=by
        intro o2
        induction o2 with
        | nil=>
          intro I M J hM ai
          have ao:o.length=I.length:=by rw [J];simp
          exact uf _ _ _ _ _ _ _ _ _ _ _ _ (Br.dec (λaa=>by omega) λ_=>put I [] M J hM ai (by simp))
        | cons y o2 am=>
          intro I M J hM ai
          have ao:o.length=I.length+1+o2.length:=by rw [J];simp;omega
          have cg:o[I.length]?=some y:=sK (W:=o) J rfl
          have ch:y.Is (r0.getD I.length default):=hr.get cg
          have c8:=aj y (by rw [J];simp)
          refine uf _ _ _ _ _ _ _ _ _ _ _ _ (Br.dec (λ_=>?_) λaa=>by omega)
          simp only [oH,o6]
          refine ⟨⟨by omega,by omega,by omega⟩,by omega,⟨by omega,by omega⟩,λN7 aw=>sP y _ ch (by omega) N7 _ λN8 ax _ N9 bm=>sP x _ ay (by omega) N9 _ λN10 ac _=>Br.dec (λci=>?_) λaa=>put I (y::o2) N10 J (by omega) ai (λz zs hz=>by cases hz;omega)⟩
          rw [i64_in _ (by omega)]
          have:=am (I++[y]) N10 (by rw [J];simp) (by omega) (λz hz=>by
           rcases oF.1 hz with hz | hz
           ·exact ai z hz
           ·simp only [oZ] at hz;subst hz;omega)
          simpa using this
       exact bq o [] N'' rfl ab (by simp)
      have loop:=up ae (by omega) (λi xs=>∀ (n first:Int) (N'':Nat),N6<=N''->n=(all.take i).countP (uc x)->0<=first->first<=S.length->(first=S.length↔(all.take (min i S.length)).any (uc x)=false)->yF Q N r0.length q a3 O c3 ((S.length:Nat):Int) n first i r0 q N'') ?_ ?_
      ·refine loop 0 _ N' bh (by simp) (by omega) (by omega) (by simp)
      ·intro i aa hi n first N'' ab hn bt bv hf
       refine um _ _ _ _ _ _ _ _ _ _ _ _ _ _ ?_
       rw [aa]
       rw [oi (by omega)] at hn
       rw [Nat.min_eq_right (by omega),hA,List.take_left' rfl] at hf
       exact cnt n first N'' ab (by omega) (by omega) hf
      ·intro i y ys al _ am n first N'' ab hn bt bv hf
       have c9:=al.b
       have a7:all.take (i+1)=all.take i++[y]:=xo al.g
       have ah:(all.take (i+1)).countP (uc x)=(all.take i).countP (uc x)+if uc x y then 1 else 0:=by rw [a7,List.countP_append];simp [List.countP_cons]
       have bw:=List.countP_le_length (p:=uc x) (l:=all.take i)
       rw [o8] at bw
       refine um _ _ _ _ _ _ _ _ _ _ _ _ _ _ ?_
       rw [al.lt,al.w]
       simp only [oH]
       refine ⟨⟨by omega,by omega⟩,⟨by omega,by omega⟩,λN7 aw=>r7 _ _ _ _ al.r ay N7 _ λN8 ax _=>?_⟩
       rw [zKy y x]
       refine Br.of (λhe N9 bm=>?_) λhe=>?_
       ·rw [he,if_pos rfl] at ah
        rw [i64_in (n+1) (by omega)]
        have go:∀ m:Int,m=min first i->∀ N10,N9<=N10->yF Q N r0.length q a3 O c3 ((S.length:Nat):Int) (n+1) m ((i+1:Nat):Int) r0 q N10:=by
         intro m hm N10 ac
         refine am (n+1) m N10 (by omega) (by rw [ah,hn];omega) (by omega) (by omega) ?_
         by_cases cj:i<S.length
         ·rw [lE (by omega),a7]
          have h1:¬m=S.length:=by omega
          simp [h1,he]
         ·rw [Nat.min_eq_right (by omega)] at hf ⊢
          have h1:m=first:=by omega
          rw [h1];exact hf
        refine zJw N9 _ _ _ (Br.dec (λaa N10 ac _=>go first (by omega) N10 ac) λci N10 ac _=>go i (by omega) N10 ac)
       ·rw [he] at ah
        refine am n first N8 (by omega) (by rw [ah,hn];simp) bt bv ?_
        by_cases cj:i<S.length
        ·rw [lE (by omega)] at hf ⊢
         rw [a7,List.any_append]
         simpa [he] using hf
        ·rw [Nat.min_eq_right (by omega)] at hf ⊢
         exact hf
   exact key all [] [] [] 0 N6 rfl rfl rfl (by simp) (by simp) (oA _) (oA _)
end Go.Proofs.YtlahkdflngobiaaGreatDoor
