/- Candidates: what the reference and the program come to. -/
import Derived.Test.YtlahkdflngobiaaGreatDoorC3
set_option linter.unusedVariables false
set_option linter.unusedSimpArgs false
namespace Go.Proofs.YtlahkdflngobiaaGreatDoor
open Go Go.Proofs Go.Proofs.Tryz Go.IntWalk
/-- the first of those that occur again -/
def vO:List Tm->List Tm->List Tm
 | _,[]=>[]
 | seen,x::xs=>if seen.any (u3 x)=false/\xs.any (u3 x)=true then x::vO (seen++[x]) xs else vO (seen++[x]) xs
def zF8:List TD->List TD->List TD
 | _,[]=>[]
 | seen,x::xs=>if (seen.map (·.1)).any (u3 x.1)=false/\(xs.map (·.1)).any (u3 x.1)=true then x::zF8 (seen++[x]) xs else zF8 (seen++[x]) xs
theorem zKR:∀ (xs seen:List TD),(zF8 seen xs).map (·.1)=vO (seen.map (·.1)) (xs.map (·.1))
 | [],_=>rfl
 | x::xs,seen=>by
   have I:=zKR xs (seen++[x])
   simp only [nW,oh,mJ] at I
   simp only [zF8,vO,oh]
   split
   ·rw [oh,I]
   ·exact I
theorem pa:∀ (xs seen:List TD),List.Sublist (zF8 seen xs) xs
 | [],_=>List.Sublist.slnil
 | x::xs,seen=>by
   simp only [zF8]
   split
   ·exact (pa xs _).cons_cons x
   ·exact (pa xs _).cons x
theorem zAE:∀ (xs seen:List Tm),List.Sublist (vO seen xs) xs
 | [],_=>List.Sublist.slnil
 | x::xs,seen=>by
   simp only [vO]
   split
   ·exact (zAE xs _).cons_cons x
   ·exact (zAE xs _).cons x
theorem zLX {α:Type} {key:α->Nat} {x:α}:∀ (l:List α),List.Perm (zGg key x l) (x::l)
 | []=>.refl _
 | y::l=>by
   simp only [zGg]
   split
   ·exact ((zLX l).cons y).trans (.swap x y l)
   ·exact .refl _
theorem tu {α:Type} {key:α->Nat}:∀ (l o:List α),List.Perm (u4 key o l) (o++l)
 | [],o=>by simp [u4]
 | x::l,o=>by
   have h:=tu (key:=key) l (zGg key x o)
   refine h.trans (((zLX o).append_right l).trans ?_)
   simpa using (List.perm_middle (a:=x) (l₁:=o) (l₂:=l)).symm
theorem zNU {x:TD}:∀ (l:List TD),(zGg tz x l).map (·.1)=zGg Tm.sz x.1 (l.map (·.1))
 | []=>rfl
 | y::l=>by
   have J:=zNU (x:=x) l
   by_cases h:tz x<=tz y
   ·have I:x.1.sz<=y.1.sz:=h
    simp only [zGg,if_pos h,if_pos I,oh,J]
   ·have I:¬x.1.sz<=y.1.sz:=h
    simp only [zGg,if_neg h,if_neg I,oh]
theorem zHp:∀ (l o:List TD),(u4 tz o l).map (·.1)=u4 Tm.sz (o.map (·.1)) (l.map (·.1))
 | [],_=>rfl
 | x::l,o=>by
   have I:=zHp l (zGg tz x o)
   rw [zNU] at I
   exact I
/-- the parts that occur more than once, the greater ahead -/
def zDC (all:List Tm):List Tm:=u4 Tm.sz [] (vO [] all)
theorem zKr (all:List Tm):(zDC all).length<=all.length:=by
 have I:=(tu (key:=Tm.sz) (vO [] all) []).length_eq
 have J:=(zAE all []).length_le
 simp only [oW] at I
 unfold zDC
 omega
theorem pH {all:List Tm} {u:Tm} (h:u∈zDC all):u∈all:=by
 have I:=(tu (key:=Tm.sz) (vO [] all) []).mem_iff.1 h
 exact (zAE all []).subset (by simpa using I)
def zDk:List Tm->List D->List TD
 | t::I,d::ds=>(t,d)::zDk I ds
 | _,_=>[]
theorem zGB:∀ {l:List Tm} {es:List D},All2 Tm.Is l es->(zDk l es).map (·.1)=l/\zP (zDk l es)=es/\∀ p∈zDk l es,p.1.Is p.2
 | [],es,h=>by cases h;exact ⟨rfl,rfl,by simp [zDk]⟩
 | t::ts,es,⟨d,ds,I,J,O⟩=>by
   subst I
   obtain ⟨a,b,c⟩:=zGB O
   refine ⟨by simp only [zDk,oh,a],by simp only [zDk,zP,oh];rw [<-zP,b],λp hp=>?_⟩
   rcases oH.1 hp with rfl | hp
   ·exact J
   ·exact c p hp
theorem zEu:∀ {W:List TD},(∀ p∈W,p.1.Is p.2)->All2 Tm.Is (W.map (·.1)) (zP W)
 | [],_=>rfl
 | p::W,h=>⟨p.2,zP W,rfl,h p (by simp),zEu λq I=>h q (by simp [I])⟩
theorem su:∀ es:List D,zC es=es.flatMap D.foot
 | []=>rfl
 | d::ds=>by simp only [zC,lF,su ds]
theorem rD:∀ {es:List D},xp es↔∀ d∈es,d.Flat0
 | []=>by simp [xp]
 | d::ds=>by simp [xp,rD (es:=ds)]
theorem zQR {N N':Nat} {es fs:List D} (h:OwnL N N' es) (J:List.Perm fs es):OwnL N N' fs:=by
 have e:List.Perm (zC fs) (zC es):=by rw [su,su];exact J.flatMap_right _
 exact ⟨e.nodup_iff.2 h.nd,rD.2 λd hd=>rD.1 h.fl d (J.mem_iff.1 hd),λb I=>h.lo b (e.mem_iff.1 I),λb I=>h.hi b (e.mem_iff.1 I)⟩
theorem zSP {N N':Nat} {es fs:List D} (h:OwnL N N' es) (hs:List.Sublist fs es):OwnL N N' fs:=by
 have e:List.Sublist (zC fs) (zC es):=by
  rw [su,su]
  induction hs with
  | slnil=>exact List.Sublist.slnil
  | cons a _ J=>
    rw [lF]
    exact (J ⟨(oq.1 (by have:=h.nd;rwa [zC] at this)).2.1,h.fl.2,λb I=>h.lo b (by simp only [zC,oG];exact .inr I),λb I=>h.hi b (by simp only [zC,oG];exact .inr I)⟩).trans (List.sublist_append_right _ _)
  | cons_cons a _ J=>
    rw [lF,lF]
    exact (List.Sublist.refl _).append (J ⟨(oq.1 (by have:=h.nd;rwa [zC] at this)).2.1,h.fl.2,λb I=>h.lo b (by simp only [zC,oG];exact .inr I),λb I=>h.hi b (by simp only [zC,oG];exact .inr I)⟩)
 exact ⟨h.nd.sublist e,rD.2 λd hd=>rD.1 h.fl d (hs.subset hd),λb I=>h.lo b (e.subset I),λb I=>h.hi b (e.subset I)⟩
theorem zSR {N N' z c:Nat}:Own N N' (.sl none z [] c):=⟨by simp [D.foot,zC],⟨by simp,trivial⟩,by simp [D.foot,zC],by simp [D.foot,zC]⟩
theorem zO7 {x:Tm} {O:D} (hx:x.Is O) {l:List Tm} {es:List D} (aa:All2 Tm.Is l es) (hlen:es.length<=4611686018427387904) (a:Option Addr) (c:Nat) (ad:Addr) :
  uN 62 [.sv a 9 es c,.fn 60 [.pd ad 9 O]] (l.any (u3 x)):=λN Q hQ=>by
 refine uo N a es c ad O Q λ_ N1 ab=>?_
 have hI:zAO 105 [.sv a 9 es c,.fn 60 [.pd ad 9 O]] (s8 (u3 x) l 0):=λN Q hQ=>by
  refine ta N a es c ad O Q λ_=>?_
  refine up aa hlen (λi xs=>∀ (N':Nat),N<=N'->(∀ N'',N'<=N''->Q (s8 (u3 x) xs i) N'')->yJ Q N a es c ad O (es.length:Int) i N') ?_ ?_ N (oB _) hQ
  ·intro i ac _ N' ae I
   refine wi _ _ _ _ _ _ _ _ _ _ ?_
   rw [ac]
   exact λN'' h=>I _ (by omega)
  ·intro i y ys J _ ah N' ae I
   have hb:=J.b
   simp only [s8] at I
   refine wi _ _ _ _ _ _ _ _ _ _ ?_
   rw [J.lt,J.w,oK]
   refine ⟨⟨by omega,by omega⟩,λN1 ab=>qg N1 _ ad O _ λ_ N2 ai=>qV _ _ _ _ hx J.r N2 _ λN3 aj _ N4 ak _=>Br.of (λh N5 al=>Qi (I _ (by omega)) (by rw [if_pos h])) λh=>ah _ (by omega) λN'' h2=>Qi (I _ (by omega)) (by rw [if_neg (by rw [h];simp)];simp)⟩
 exact hI N1 _ λN2 ai _ N3 aj=>Qb (hQ _ (by omega)) (wb _ l 0 (by omega)).symm
theorem sq {g:List Pm} {es:List D} (h:Pms g es) (hg:g.length<=1073741824) (ao:∀ x∈g,x.ty.cnt<=1073741824) {t:Tm} {d:D} (ht:t.Is d) (hc:t.cnt<=1048576000 / 2) (a:Option Addr) (c:Nat) :
  zTz true 20 [.sv a 4 es c,.dg 9 d] (if (yk g t).isSome then zDC (qf (zk g) [] t) else []):=λN Q hQ=>by
 refine zDQ N a es c d Q λ_ _ N1 ba=>?_
 refine zE3 h hg ao ht hc a c N1 _ λx0 N2 bb _ _ bc _=>?_
 cases hb:(yk g t).isSome with
 | false=>
   simp only [Bool.not_false,zJm]
   intro N3 aq
   rw [hb] at hQ
   exact hQ none [] 0 N3 (by omega) rfl λ_=>zSR
 | true=>
   simp only [lL,zE0]
   rw [hb,if_pos rfl] at hQ
   intro N3 aq
   refine qy h hg a c N3 _ λa1 c1 N4 bd _ _ N5 bg=>?_
   have bh:=th g
   refine zOg t d ht (by omega) (zk g) [] (by omega) (by simp;omega) a1 none c1 0 N5 _ λa2 es2 c2 N6 bi ae au _ _=>?_
   have ai:=zAR (zk g) t []
   have aj:=zAK (zk g) t []
   have a8:=sz_cnt t
   generalize qf (zk g) [] t=all at ae hQ ai aj
   obtain ⟨z1,z2,z3⟩:=zGB ae
   generalize hZ:zDk all es2=Z at z1 z2 z3
   subst z1;subst z2
   have hO:=zGL (au rfl)
   have hT:TDs Z:=λp hp=>⟨z3 p hp,by have:=aj p.1 (oU.2 ⟨p,hp,rfl⟩);omega⟩
   have bj:Z.length<=1073741824:=by simp only [nO] at ai;omega
   have key:∀ (R S W:List TD) (q N':Nat),Z=S++R->W++zF8 S R=zF8 [] Z->N6<=N'->zt Q N a2 (zP Z) c2 (zP W).length q a2 (zP Z) c2 ((zP Z).length:Int) (S.length:Nat) (zP W) q N':=by
    intro R
    induction R with
    | nil=>
      intro S W q N' I hW aw
      simp only [zF8,o6] at hW I
      have J:=pa Z []
      rw [<-hW] at J
      have ak:=J.length_le
      have al:TDs W:=hT.of λp hp=>J.subset hp
      have O:=tu (key:=tz) W []
      simp only [oW] at O
      refine tk _ _ _ _ _ _ _ _ _ _ _ _ _ _ _ (Br.dec (λaa=>?_) λ_ N7 ax=>?_)
      ·rw [zL,I] at aa;omega
      refine zKL al (by rw [zL]) (by rw [zL];omega) N7 _ λN8 ay _ _ hl=>?_
      refine ⟨⟨hl.symm,rfl⟩,⟨hl.symm,rfl⟩,⟨hl.symm,rfl⟩,⟨hl.symm,rfl⟩,λa3 N9 az hf N10 ah=>?_⟩
      refine hQ a3 _ q N10 (by omega) ?_ λ_=>(qm (N1:=N6) ?_ hf (by omega)).mono (oB _) ah
      ·have h1:=zEu (W:=u4 tz [] W) λp hp=>(al p (O.mem_iff.1 hp)).1
       have h2:(u4 tz [] W).map (·.1)=zDC (Z.map (·.1)):=by rw [zHp,mJ,hW,zKR];rfl
       rw [h2] at h1
       exact h1
      ·exact ((zQR (zSP hO (J.map _)) (O.map _))).mono (by omega) (oB _)
    | cons x R' ih=>
      intro S W q N' I hW aw
      have J:=pa (x::R') S
      have ak:=nL List.length hW
      have bm:=(pa Z []).length_le
      simp only [oE] at ak
      have bn:Z.length=S.length+1+R'.length:=by rw [I];simp;omega
      have hx:x∈Z:=by rw [I];simp
      have g1:(zP Z).getD (((S.length:Nat):Int)).toNat default=x.2:=by rw [I];exact zBs (by simp)
      have g2:List.drop 0 (List.take (((S.length:Nat):Int)).toNat (zP Z))=zP S:=by rw [I];simp [zP]
      have g3:List.drop ((S.length:Int)+1).toNat (List.take (((zP Z).length:Nat):Int).toNat (zP Z))=zP R':=by
       have e:((S.length:Int)+1).toNat=S.length+1:=by omega
       rw [e,oK,lK,I]
       simp only [zP,nW,oh]
       rw [lI]
       simp
      refine tk _ _ _ _ _ _ _ _ _ _ _ _ _ _ _ (Br.dec (λaa=>?_) λaa=>by rw [zL] at aa;omega)
      rw [i64_in ((S.length:Int)+1) (by omega),g1,g2,g3]
      simp only [zL]
      have hS:All2 Tm.Is (S.map (·.1)) (zP S):=zEu λp hp=>z3 p (by rw [I];simp [hp])
      have hR:All2 Tm.Is (R'.map (·.1)) (zP R'):=zEu λp hp=>z3 p (by rw [I];simp [hp])
      have e1:((S.length:Int)+1)=((S++[x]).length:Nat):=by simp
      refine ⟨⟨by omega,by omega⟩,⟨by omega,by omega,by omega⟩,λad _ _ N7 ax _=>zO7 (z3 x hx) hS (by rw [zL];omega) _ _ ad N7 _ λN8 ay _=>?_⟩
      have skip:∀ (N'':Nat),N6<=N''->¬((S.map (·.1)).any (u3 x.1)=false/\(R'.map (·.1)).any (u3 x.1)=true)->zt Q N a2 (zP Z) c2 W.length q a2 (zP Z) c2 (Z.length:Int) ((S.length:Int)+1) (zP W) q N'':=λN'' am a6=>by
       rw [zF8,if_neg a6] at hW
       have:=ih (S++[x]) W q N'' (by rw [I];simp) hW am
       rw [<-e1] at this
       simpa only [zL] using this
      refine Br.of (λab=>⟨⟨by omega,by omega,by omega⟩,λa7 _ _ N9 az _=>zO7 (z3 x hx) hR (by rw [zL];omega) _ _ a7 N9 _ λN10 ah _=>?_⟩) λab=>skip N8 (by omega) (λhc=>by rw [hc.1] at ab;simp at ab)
      refine Br.of (λac=>⟨by trivial,by unfold zB;rw [oE,zL];simp only [oJ,oM];omega,λc3=>?_⟩) λac=>skip N10 (by omega) (λhc=>by rw [hc.2] at ac;simp at ac)
      rw [zF8,if_pos ⟨by simpa using ab,ac⟩] at hW
      have e2:zP W++[x.2]=zP (W++[x]):=by simp [zP]
      have:=ih (S++[x]) (W++[x]) c3 N10 (by rw [I];simp) (by rw [<-hW];simp) (by omega)
      rw [<-e1] at this
      rw [e2]
      simpa only [zL] using this
   exact key Z [] [] 0 N6 rfl rfl (oB _)
theorem All2.tak {α:Type} {R:α->D->Prop}:∀ {l:List α} {es:List D} (i:Nat),All2 R l es->All2 R (l.take i) (es.take i)
 | _,_,0,_=>rfl
 | [],es,i+1,h=>by cases h;rfl
 | x::l,es,i+1,h=>by
   obtain ⟨d,ds,rfl,I,J⟩:=h
   exact ⟨d,ds.take i,rfl,I,All2.tak i J⟩
theorem All2.drp {α:Type} {R:α->D->Prop}:∀ {l:List α} {es:List D} (i:Nat),All2 R l es->All2 R (l.drop i) (es.drop i)
 | _,_,0,h=>h
 | [],es,i+1,h=>by cases h;rfl
 | x::l,es,i+1,h=>by
   obtain ⟨d,ds,rfl,J,I⟩:=h
   exact All2.drp i I
/-- an element behind all that are at least as great -/
theorem zQE {key:Tm->Nat} {x:Tm}:∀ {I o2:List Tm},(∀ y∈I,key x<=key y)->(∀ y ys,o2=y::ys->key y<key x)->zGg key x (I++o2)=I++x::o2
 | [],[],_,_=>rfl
 | [],y::ys,_,h=>by
   have:=h y ys rfl
   simp only [oW,zGg]
   rw [if_neg (by omega)]
 | y::I,o2,J,O=>by
   have:=J y (by simp)
   simp only [o9,zGg]
   rw [if_pos this,zQE (λz hz=>J z (by simp [hz])) O]
theorem zRe {r:List D} {m c at_:Nat} (I:m=r.length) (J:at_<=m) (O:m<=c):List.take (m - at_) (List.drop (0+loN 9 c at_) r)=r.drop at_:=by
 have e:loN 9 c at_=if (c:Int)=(at_:Int) then 0 else at_:=rfl
 rw [e]
 split
 ·have:at_=m:=by omega
  rw [this,Nat.sub_self,mZ,I,List.drop_length]
 ·rw [nM,od (by rw [mI];omega)]
theorem zTh {m c at_:Nat} (I:at_<=m) (J:m<=c):0+loN 9 c at_+(m - at_)<=m:=by
 have e:loN 9 c at_=if (c:Int)=(at_:Int) then 0 else at_:=rfl
 rw [e]
 split<;>omega
theorem rJ {g:List Pm} {es:List D} (h:Pms g es) (hg:g.length<=1073741824) {t:Tm} {d:D} (ht:t.Is d) (hc:t.cnt<=536870000) (a:Option Addr) (c:Nat) :
  zTz false 25 [.sv a 4 es c,.dg 9 d] (if (yk g t).isSome then zDC (qf (zk g) [] t) else []):=λN Q hQ=>by
 refine zDU N a es c d Q λ_ _ N1 ck=>?_
 refine pZ h hg ht hc a c N1 _ λx0 N2 cm _ cn _=>?_
 cases hb:(yk g t).isSome with
 | false=>
   simp only [Bool.not_false,zJm]
   rw [hb] at hQ
   exact ⟨by trivial,by trivial,by trivial,by trivial,λa1 N3 bw _ N4 bz=>hQ a1 [] 0 N4 (by omega) rfl λh=>by cases h⟩
 | true =>
   simp only [lL,zE0]
   rw [hb,if_pos rfl] at hQ
   intro N3 bw
   refine zHv h hg a c N3 _ λa1 c1 N4 bz _ _=>⟨by trivial,λa2 _ a8 _ N5 co ba=>?_⟩
   have cp:=th g
   refine zOF t d ht (by omega) (zk g) [] (by omega) (by simp;omega) a1 a2 c1 0 N5 _ λa3 O c3 N6 cq ae b1 _=>⟨λa4 bb ad bc b2=>?_,λ_=>?_⟩
   ·rcases b1 _ b2 with hc5 | hc5
    ·exact a8 a4 bb ad bc hc5
    ·have:=ba a4 bb ad bc
     omega
   have b3:=zAR (zk g) t []
   have bd:=zAK (zk g) t []
   have cj:=sz_cnt t
   generalize qf (zk g) [] t=all at ae hQ b3 bd
   have bg:=ae.len
   have cr:=zKr all
   -- the parts one by one
   have key:∀ (R S o:List Tm) (r0:List D) (q N':Nat),all=S++R->u4 Tm.sz o (vO S R)=zDC all->All2 Tm.Is o r0->o.length+R.length<=all.length->(∀ y∈o,y.cnt<=t.cnt)->r0.length<=q->N6<=N'->zQ Q N r0.length q a3 O c3 (S.length:Nat) r0 q N':=by
    intro R
    induction R with
    | nil=>
      intro S o r0 q N' hA ho hr hlen aj hq bh
      simp only [vO,u4,List.foldl_nil,o6] at ho hA
      refine tn _ _ _ _ _ _ _ _ _ _ _ (Br.dec (λaa=>?_) λ_=>⟨by trivial,by trivial,by trivial,λa4 N7 aw _ N8 ax=>hQ a4 r0 q N8 (by omega) (ho ▸ hr) λh=>by cases h⟩)
      rw [bg,hA] at aa;omega
    | cons x R' ih=>
      intro S o r0 q N' hA ho hr hlen aj hq bh
      have ct:all.length=S.length+1+R'.length:=by rw [hA];simp;omega
      have cw:=hr.len
      simp only [oJ] at hlen
      have b4:x∈all:=by rw [hA];simp
      have b5:all[S.length]?=some x:=sc (W:=all) hA rfl
      have ay:x.Is (O.getD S.length default):=ae.get b5
      have bi:=bd x b4
      have cx:=sz_cnt x
      have next:∀ (o':List Tm) (r':List D) (q' N'':Nat),u4 Tm.sz o' (vO (S++[x]) R')=zDC all->All2 Tm.Is o' r'->o'.length<=o.length+1->(∀ y∈o',y.cnt<=t.cnt)->r'.length<=q'->N6<=N''->zQ Q N r'.length q' a3 O c3 (IntKind.i64.wrap (((S.length:Nat):Int)+1)) r' q' N'':=λo' r' q' N'' e1 e2 e3 e4 e5 e6=>by
       rw [i64_in _ (by omega)]
       have:=ih (S++[x]) o' r' q' N'' (by rw [hA];simp) e1 e2 (by omega) e4 e5 e6
       simpa using this
      refine tn _ _ _ _ _ _ _ _ _ _ _ (Br.dec (λ_=>?_) λaa=>by rw [bg] at aa;omega)
      -- how often, and where first
      have cnt:∀ (n first:Int) (N'':Nat),N6<=N''->0<=n->(n<2↔¬2<=all.countP (u3 x))->(first=S.length↔S.any (u3 x)=false) ->
        Br (decide (n<2)) (zQ Q N r0.length q a3 O c3 (IntKind.i64.wrap (((S.length:Nat):Int)+1)) r0 q N'') (Br (bne first ((S.length:Nat):Int)) (zQ Q N r0.length q a3 O c3 (IntKind.i64.wrap (((S.length:Nat):Int)+1)) r0 q N'') (yc Q N r0.length q a3 O c3 ((S.length:Nat):Int) 0 r0 q N'')):=by
       intro n first N'' ab cy hn hf
       have cz:all.countP (u3 x)=S.countP (u3 x)+1+R'.countP (u3 x):=by rw [hA,List.countP_append,List.countP_cons,pL];simp;omega
       have skip:¬(S.any (u3 x)=false/\R'.any (u3 x)=true)->zQ Q N r0.length q a3 O c3 (IntKind.i64.wrap (((S.length:Nat):Int)+1)) r0 q N'':=λb6=>next o r0 q N'' (by rw [<-ho];simp only [vO];rw [if_neg b6]) hr (by omega) aj hq ab
       refine Br.dec (λh2=>skip λaz=>?_) λh2=>Br.bne (λb7=>skip λaz=>b7 (hf.2 az.1)) λheq=>?_
       ·obtain ⟨y,hy,ak⟩:=mc.1 az.2
        have:=List.countP_pos_iff.2 ⟨y,hy,ak⟩
        exact hn.1 h2 (by omega)
       have hS:=hf.1 heq
       have hR:R'.any (u3 x)=true:=by
        have h0:S.countP (u3 x)=0:=List.countP_eq_zero.2 λy hy ak=>by
         have:=mc.2 ⟨y,hy,ak⟩
         rw [hS] at this;cases this
        have h3:2<=all.countP (u3 x):=Classical.byContradiction λh3=>h2 (hn.2 h3)
        obtain ⟨y,hy,ak⟩:=List.countP_pos_iff.1 (show 0<R'.countP (u3 x) by omega)
        exact mc.2 ⟨y,hy,ak⟩
       have b8:u4 Tm.sz (zGg Tm.sz x o) (vO (S++[x]) R')=zDC all:=by
        rw [<-ho];simp only [vO];rw [if_pos ⟨hS,hR⟩];rfl
       -- where it goes
       have put:∀ (I o2:List Tm) (M:Nat),o=I++o2->N6<=M->(∀ y∈I,x.sz<=y.sz)->(∀ y ys,o2=y::ys->y.sz<x.sz)->xD Q N r0.length q a3 O c3 ((S.length:Nat):Int) ((I.length:Nat):Int) r0 q M:=by
        intro I o2 M J hM ai b9
        have ao:o.length=I.length+o2.length:=by rw [J];simp
        refine zAc _ _ _ _ _ _ _ _ _ _ _ _ ?_
        simp only [oK,zRe rfl (show I.length<=r0.length by omega) hq,mZ,oW,List.drop_zero]
        refine ⟨⟨by omega,by omega,by omega,by trivial⟩,by omega,zTh (by omega) hq,by trivial,by unfold zB;rw [oW,mI];omega,λc4 _=>⟨⟨by omega,by omega⟩,⟨by omega,by omega⟩,λN7 aw=>?_⟩⟩
        refine zGP x _ ay (Tm.G_cnt x (by omega)) N7 _ ?_
        cases x with
        | mk k nm ot n0 ty re l=>
        intro x4 x5 x6 x7 es5 c5 N8 ax ca aq _ _ _
        refine ⟨by trivial,λa5 N9 bj _=>?_⟩
        have bm:(Tm.mk k nm ot n0 ty re l).Is (.ag [.j k,.t nm,.t ot,.j n0,x4,x5,x6,x7,.sl a5 9 es5 c5]):=Tm.is_mk.2 ⟨_,_,_,_,_,_,_,rfl,ca,by have:=aq.len;have:=y6 l;simp only [Tm.cnt] at bi;omega,aq⟩
        generalize D.ag [.j k,.t nm,.t ot,.j n0,x4,x5,x6,x7,.sl a5 9 es5 c5]=X at bm
        have cc:List.take 1 [X]=[X]:=rfl
        have au:All2 Tm.Is (I++Tm.mk k nm ot n0 ty re l::o2) ((r0.take I.length++[X])++r0.drop I.length):=by
         have e1:All2 Tm.Is I (r0.take I.length):=by have:=All2.tak I.length hr;rwa [J,List.take_left'] at this;rfl
         have e2:All2 Tm.Is o2 (r0.drop I.length):=by have:=All2.drp I.length hr;rwa [J,List.drop_left'] at this;rfl
         have:=(e1.snoc bm).app e2
         simpa using this
        have a6:=au.len
        simp only [cc,lK]
        have bn:(r0.take I.length).length=I.length:=by rw [o8];omega
        refine ⟨by omega,by simp,⟨bn.symm,by trivial⟩,by unfold zB;rw [oE,bn];simp only [oJ,oM];omega,λc6 c0=>⟨oB _,by omega,by trivial,by unfold zB;rw [a6];simp only [oE,oJ];omega,λc7 cd=>?_⟩⟩
        have ce:zGg Tm.sz (Tm.mk k nm ot n0 ty re l) o=I++Tm.mk k nm ot n0 ty re l::o2:=by rw [J];exact zQE ai b9
        refine next (I++Tm.mk k nm ot n0 ty re l::o2) _ c7 N9 (by rw [<-ce];exact b8) au (by simp;omega) (λy hy=>?_) cd (by omega)
        simp only [oG,oH] at hy
        rcases hy with hy | rfl | hy
        ·exact aj y (by rw [J];simp [hy])
        ·exact bi
        ·exact aj y (by rw [J];simp [hy])
       have bp:∀ (o2 I:List Tm) (M:Nat),o=I++o2->N6<=M->(∀ y∈I,x.sz<=y.sz)->yc Q N r0.length q a3 O c3 ((S.length:Nat):Int) ((I.length:Nat):Int) r0 q M:=by
        intro o2
        induction o2 with
        | nil=>
          intro I M J hM ai
          have ao:o.length=I.length:=by rw [J];simp
          exact u5 _ _ _ _ _ _ _ _ _ _ _ _ (Br.dec (λaa=>by omega) λ_=>put I [] M J hM ai (by simp))
        | cons y o2 am=>
          intro I M J hM ai
          have ao:o.length=I.length+1+o2.length:=by rw [J];simp;omega
          have cf:o[I.length]?=some y:=sc (W:=o) J rfl
          have cg:y.Is (r0.getD I.length default):=hr.get cf
          have c2:=aj y (by rw [J];simp)
          refine u5 _ _ _ _ _ _ _ _ _ _ _ _ (Br.dec (λ_=>?_) λaa=>by omega)
          simp only [oK,nM]
          refine ⟨⟨by omega,by omega,by omega⟩,by omega,⟨by omega,by omega⟩,λN7 aw=>wu y _ cg (by omega) N7 _ λN8 ax _ N9 bj=>wu x _ ay (by omega) N9 _ λN10 ac _=>Br.dec (λch=>?_) λaa=>put I (y::o2) N10 J (by omega) ai (λz zs hz=>by cases hz;omega)⟩
          rw [i64_in _ (by omega)]
          have:=am (I++[y]) N10 (by rw [J];simp) (by omega) (λz hz=>by
           rcases oG.1 hz with hz | hz
           ·exact ai z hz
           ·simp only [oR] at hz;subst hz;omega)
          simpa using this
       exact bp o [] N'' rfl ab (by simp)
      have loop:=up ae (by omega) (λi xs=>∀ (n first:Int) (N'':Nat),N6<=N''->n=(all.take i).countP (u3 x)->0<=first->first<=S.length->(first=S.length↔(all.take (min i S.length)).any (u3 x)=false)->yB Q N r0.length q a3 O c3 ((S.length:Nat):Int) n first i r0 q N'') ?_ ?_
      ·refine loop 0 _ N' bh (by simp) (by omega) (by omega) (by simp)
      ·intro i aa hi n first N'' ab hn bq bt hf
       refine tB _ _ _ _ _ _ _ _ _ _ _ _ _ _ ?_
       rw [aa]
       rw [od (by omega)] at hn
       rw [Nat.min_eq_right (by omega),hA,List.take_left' rfl] at hf
       exact cnt n first N'' ab (by omega) (by omega) hf
      ·intro i y ys al _ am n first N'' ab hn bq bt hf
       have c8:=al.b
       have a7:all.take (i+1)=all.take i++[y]:=xK al.g
       have ah:(all.take (i+1)).countP (u3 x)=(all.take i).countP (u3 x)+if u3 x y then 1 else 0:=by rw [a7,List.countP_append];simp [List.countP_cons]
       have bv:=List.countP_le_length (p:=u3 x) (l:=all.take i)
       rw [o8] at bv
       refine tB _ _ _ _ _ _ _ _ _ _ _ _ _ _ ?_
       rw [al.lt,al.w]
       simp only [oK]
       refine ⟨⟨by omega,by omega⟩,⟨by omega,by omega⟩,λN7 aw=>xj _ _ _ _ al.r ay N7 _ λN8 ax _=>?_⟩
       rw [zLD y x]
       refine Br.of (λhe N9 bj=>?_) λhe=>?_
       ·rw [he,if_pos rfl] at ah
        rw [i64_in (n+1) (by omega)]
        have go:∀ m:Int,m=min first i->∀ N10,N9<=N10->yB Q N r0.length q a3 O c3 ((S.length:Nat):Int) (n+1) m ((i+1:Nat):Int) r0 q N10:=by
         intro m hm N10 ac
         refine am (n+1) m N10 (by omega) (by rw [ah,hn];omega) (by omega) (by omega) ?_
         by_cases ci:i<S.length
         ·rw [my (by omega),a7]
          have h1:¬m=S.length:=by omega
          simp [h1,he]
         ·rw [Nat.min_eq_right (by omega)] at hf ⊢
          have h1:m=first:=by omega
          rw [h1];exact hf
        refine zKC N9 _ _ _ (Br.dec (λaa N10 ac _=>go first (by omega) N10 ac) λch N10 ac _=>go i (by omega) N10 ac)
       ·rw [he] at ah
        refine am n first N8 (by omega) (by rw [ah,hn];simp) bq bt ?_
        by_cases ci:i<S.length
        ·rw [my (by omega)] at hf ⊢
         rw [a7,List.any_append]
         simpa [he] using hf
        ·rw [Nat.min_eq_right (by omega)] at hf ⊢
         exact hf
   exact key all [] [] [] 0 N6 rfl rfl rfl (by simp) (by simp) (oB _) (oB _)
end Go.Proofs.YtlahkdflngobiaaGreatDoor
