/- Simplify: what it comes to (no program in sight). -/
import Derived.Test.YtnpjpplbkoammaaGreatDoorXq
import Derived.Test.YtnpjpplbkoammaaGreatDoorKh
set_option linter.unusedVariables false
set_option linter.unusedSimpArgs false
namespace Go.Proofs.YtnpjpplbkoammaaGreatDoor
open Go Go.Proofs Go.Proofs.Tryz Go.IntWalk
mutual
/-- a type with a code type within -/
def Ty.has4:Ty→Bool
 | .mk k l=>sa l||k==4
def sa:List Ty→Bool
 | []=>false
 | t::ts=>t.has4||sa ts
end
mutual
/-- no stages, no code types -/
def Tm.plainB:Tm→Bool
 | .mk k _ _ _ ty re l=>xL l&&(decide (k<10)&&(!ty.has4&&!re.has4))
def xL:List Tm→Bool
 | []=>true
 | t::ts=>t.plainB&&xL ts
end
def Tm.isPl (t:Tm):Bool:=t.ok&&t.plainB
/-- the form of a plain node -/
structure WkN (k:Int) (nm:ByteArray) (n:Int) (ty re:Ty) (m:Nat):Prop where
 lt:k<10
 len:(m:Int)=zGz k nm
 o:k=4→0<zCx nm
 i:k=2→0≤n∧n≤10006
 b:k=3→n=0∨n=1
 z:(k=1∨k=2∨k=3)→ty.cnt=1∧re.cnt=1
mutual
/-- a plain term, whatever its names are -/
def Tm.wk:Tm→Prop
 | .mk k nm _ n ty re l=>WkN k nm n ty re l.length∧zJx l
def zJx:List Tm→Prop
 | []=>True
 | t::ts=>t.wk∧zJx ts
end
theorem zt:∀ {l:List Tm},zJx l↔∀ x∈l,x.wk
 | []=>by simp [zJx]
 | t::ts=>by simp only [zJx,zt (l:=ts),List.mem_cons,forall_eq_or_imp]
theorem WkN.ar {k:Int} {nm:ByteArray} {n:Int} {ty re:Ty} {m:Nat} (h:WkN k nm n ty re m):(1≤k)∧((k=6∨k=9)→m=1)∧((k=7∨k=8)→m=2)∧(k=5→m=3)∧((k=1∨k=2∨k=3)→m=0)∧(k=4→(m:Int)=zCx nm):=by
 have h1:=h.len
 have h2:=h.lt
 unfold zGz at h1
 refine ⟨?_,?_,?_,?_,?_,?_⟩
 ·(repeat' split at h1)<;>omega
 ·rintro (rfl | rfl)<;>(simp at h1;omega)
 ·rintro (rfl | rfl)<;>(simp at h1;omega)
 ·rintro rfl;simp at h1;omega
 ·rintro (rfl | rfl | rfl)<;>(simp at h1;omega)
 ·rintro rfl;simpa using h1
theorem qf:∀ {l:List Tm},xL l=true↔∀ x∈l,x.plainB=true
 | []=>by simp [xL]
 | t::ts=>by simp only [xL,Bool.and_eq_true,qf (l:=ts),List.mem_cons,forall_eq_or_imp]
theorem wk_of:∀ t:Tm,t.ok=true→t.plainB=true→t.wk:=by
 refine Tm.ind fun k nm ot n ty re l ih h hp=>?_
 have ho:=h
 simp only [Tm.ok,Bool.and_eq_true,beq_iff_eq] at h
 simp only [Tm.plainB,Bool.and_eq_true,decide_eq_true_eq] at hp
 have h5:=mk_all' h.1
 refine ⟨⟨hp.2.1,h.2.2,fun hk=>?_,fun hk=>?_,fun hk=>?_,fun hk=>?_⟩,zt.2 fun x hx=>ih x hx (h5 x hx) (qf.1 hp.1 x hx)⟩
 ·subst hk;exact zP9 ho
 ·subst hk;exact zL2 ho (.inl rfl)
 ·subst hk;exact zOM ho rfl
 ·have h6:=h.2.1
  simp only [yK,Bool.and_eq_true,Bool.or_eq_true,beq_iff_eq] at h6
  have z1:∀ {t:Ty},t.zero=true→t.cnt=1:=fun {t} ht=>by
   cases t with
   | mk k l=>
   simp only [Ty.zero,Ty.as,Bool.and_eq_true,beq_iff_eq] at ht
   have:l=[]:=List.eq_nil_of_length_eq_zero (by omega)
   subst this
   simp [Ty.cnt,zG]
  have n1:rZ k=false:=by unfold rZ;rcases hk with rfl | rfl | rfl<;>rfl
  have n2:¬k=9:=by omega
  exact ⟨z1 (h6.2.1.resolve_left (by rw [n1];decide)),z1 (h6.2.2.2.1.resolve_left n2)⟩
 where
 mk_all':∀ {l:List Tm},zAz l=true→∀ x∈l,x.ok=true:=fun {l}=>by
  induction l with
  | nil=>intro _ x hx;simp at hx
  | cons t ts ih=>
    intro h x hx
    simp only [zAz,Bool.and_eq_true] at h
    rcases List.mem_cons.1 hx with rfl | hx
    ·exact h.1
    ·exact ih h.2 x hx
theorem zQh:∀ t:Tm,t.wk→t.V:=by
 refine Tm.ind fun k nm ot n ty re l ih h=>?_
 exact ⟨fun hk=>List.eq_nil_of_length_eq_zero (h.1.ar.2.2.2.2.1 (.inl hk)),uO.2 fun x hx=>ih x hx (zt.1 h.2 x hx)⟩
theorem zKf (s:ByteArray):(zAQ s).wk:=⟨⟨by decide,rfl,fun h=>absurd h (by decide),fun h=>absurd h (by decide),fun h=>absurd h (by decide),fun _=>⟨by simp [Ty.cnt,zG],by simp [Ty.cnt,zG]⟩⟩,trivial⟩
theorem WkN.rn {k:Int} {nm nm':ByteArray} {n:Int} {ty re:Ty} {m m':Nat} (h:WkN k nm n ty re m) (hm:m'=m) (hk:k≠4):WkN k nm' n ty re m':=by
 subst hm
 refine ⟨h.lt,?_,fun hc=>absurd hc hk,h.i,h.b,h.z⟩
 have h1:=h.len
 unfold zGz at h1 ⊢
 rw [if_neg hk] at h1 ⊢
 exact h1
theorem zKa:∀ (f:Nat) (t:Tm) (x:ByteArray) (b:Tm),t.wk→b.wk→(t.sub f x b).wk
 | 0,t,x,b,h,_=>by simp only [Tm.sub];exact h
 | f + 1,.mk k nm ot n ty re l,x,b,h,hb=>by
   have ih:=zKa f
   obtain ⟨h1,h2⟩:=h
   have h2:=zt.1 h2
   simp only [Tm.sub]
   split
   ·split
    ·exact hb
    ·exact ⟨h1,zt.2 h2⟩
   ·rename_i hk
    split
    ·refine ⟨by simpa using h1,zt.2 fun y hy=>?_⟩
     obtain ⟨z,hz,rfl⟩:=List.mem_map.1 hy
     exact ih z x b (h2 z hz) hb
    ·rename_i hbd
     obtain ⟨g1,g2⟩:=vM hbd
     have hpt:=h2 _ (List.mem_of_getElem? (yV g1))
     have hk4:k≠4:=by
      rintro rfl
      exact hbd (by unfold xk;simp)
     have key:∀ v:Tm,v.wk→zJx ((l.map fun t=>Tm.sub f t x b).set (xk k l.length).toNat v):=fun v hv=>zt.2 fun y hy=>by
      rcases List.mem_or_eq_of_mem_set hy with hy | rfl
      ·obtain ⟨z,hz,rfl⟩:=List.mem_map.1 hy
       exact ih z x b (h2 z hz) hb
      ·exact hv
     split
     ·exact ⟨h1.rn (by simp) hk4,key _ hpt⟩
     ·refine ⟨h1.rn (by simp) hk4,key _ (ih _ x b ?_ hb)⟩
      have r1:∀ (old:ByteArray) (s:ByteArray × ByteArray × Tm),s.2.2.wk→(rn1 (Tm.sub f) k l.length b.fv x old s).2.2.wk:=fun old s hs=>by
       unfold rn1
       split
       ·split
        ·exact ih _ _ _ hs (zKf _)
        ·exact ih _ _ _ hs (zKf _)
       ·exact hs
      have rs:∀ (ns:List ByteArray) (s:ByteArray × ByteArray × Tm),s.2.2.wk→(rns (Tm.sub f) k l.length b.fv x ns s).2.2.wk:=by
       intro ns
       induction ns with
       | nil=>exact fun s hs=>hs
       | cons o os ih2=>exact fun s hs=>ih2 _ (r1 o s hs)
      exact rs _ _ hpt
/-- an atom put for a name -/
theorem zHk {b:Tm} (hb:∀ (nm ot:ByteArray) (n:Int) (ty re:Ty) (l:List Tm),LeT b (.mk 1 nm ot n ty re l)):∀ (f:Nat) (t:Tm) (x:ByteArray),LeT (t.sub f x b) t
 | 0,t,x=>by simp only [Tm.sub];exact LeT.rfl
 | f + 1,.mk k nm ot n ty re l,x=>by
   have ih:=zHk hb f
   simp only [Tm.sub]
   split
   ·rename_i hk
    split
    ·subst hk;exact hb _ _ _ _ _ _
    ·exact LeT.rfl
   ·rename_i hk
    split
    ·refine zCK hk (by simp) fun i t' t ht' ht=>?_
     rw [List.getElem?_map,ht] at ht'
     cases ht'
     exact ih t x
    ·rename_i hbd
     obtain ⟨g1,g2⟩:=vM hbd
     split
     ·refine zCK hk (by simp) fun i t' t ht' ht=>?_
      rcases zFx ht' ht with ⟨h1,h2⟩ | ⟨h1,h2⟩
      ·rw [h1,yV g1] at ht
       rw [h2,←Option.some.inj ht]
       exact LeT.rfl
      ·rw [h2];exact ih t x
     ·refine zCK hk (by simp) fun i t' t ht' ht=>?_
      rcases zFx ht' ht with ⟨h1,h2⟩ | ⟨h1,h2⟩
      ·rw [h1,yV g1] at ht
       rw [h2,←Option.some.inj ht]
       exact (ih _ x).trans (pw (sR f) _ _ _ _ _ _)
      ·rw [h2];exact ih t x
def Tm.atm (t:Tm):Bool:=t.kd==2||(t.kd==3||t.kd==1)
mutual
/-- calls nothing -/
def Tm.qui:Tm→Bool
 | .mk k _ _ _ _ _ l=>zB1 l&&k != 7
def zB1:List Tm→Bool
 | []=>true
 | t::ts=>t.qui&&zB1 ts
end
def Tm.isI (t:Tm) (n:Int):Bool:=t.kd==2&&t.no==n
def zGk (e:Tm) (nm:ByteArray) (l:List Tm):Tm:=
 if (zHh nm l).2=true then (zHh nm l).1
 else if (nm=bytes [43]∧(l.getD 0 tm0).isI 0=true)∨(nm=bytes [42]∧(l.getD 0 tm0).isI 1=true) then l.getD 1 tm0
 else if (nm=bytes [43]∧(l.getD 1 tm0).isI 0=true)∨(nm=bytes [42]∧(l.getD 1 tm0).isI 1=true)∨(nm=bytes [45]∧(l.getD 1 tm0).isI 0=true) then l.getD 0 tm0
 else e
/-- the rule for a form whose parts are simplified -/
def zMI:Tm→Tm
 | .mk k nm ot n ty re l=>
   if k=4 then zGk (.mk k nm ot n ty re l) nm l
   else if k=5 then (if (l.getD 0 tm0).kd=3 then l.getD (2 - (l.getD 0 tm0).no).toNat tm0 else .mk k nm ot n ty re l)
   else if k=7 then (if (l.getD 0 tm0).kd=6∧(l.getD 1 tm0).atm=true then ((l.getD 0 tm0).pt 0).sb (l.getD 0 tm0).nm (l.getD 1 tm0) else .mk k nm ot n ty re l)
   else if k=8 then (if (l.getD 0 tm0).atm=true then (l.getD 1 tm0).sb nm (l.getD 0 tm0)
    else if (l.getD 0 tm0).qui=true∧nm∉(l.getD 1 tm0).fv then l.getD 1 tm0 else .mk k nm ot n ty re l)
   else .mk k nm ot n ty re l
mutual
def Tm.sim:Tm→Tm
 | .mk k nm ot n ty re l=>zMI (.mk k nm ot n ty re (zGM l))
def zGM:List Tm→List Tm
 | []=>[]
 | t::ts=>t.sim::zGM ts
end
theorem vU:∀ l:List Tm,zGM l=l.map Tm.sim
 | []=>rfl
 | t::ts=>by simp only [zGM,List.map_cons,vU ts]
def Tm.simplify (t:Tm):Tm:=if t.isPl=true then t.sim else t
theorem zKh:∀ {l:List Tm} {t:Tm},t∈l→t.sz≤zDj l
 | u::us,t,h=>by
   simp only [zDj]
   rcases List.mem_cons.1 h with rfl | h
   ·omega
   ·have:=zKh h;omega
theorem zFz {k:Int} {nm ot:ByteArray} {n:Int} {ty re:Ty} {l:List Tm} {x:Tm} (hx:x∈l) (hk:k≠1):LeT x (.mk k nm ot n ty re l):=by
 have h1:=pZ hx
 have h2:=zO1 (k:=k) (nm:=nm) (ot:=ot) (n:=n) (ty:=ty) (re:=re) hx
 have h3:=zKh hx
 have h4:=yy hx
 exact ⟨by simp only [Tm.vc,if_neg hk];exact h1,by omega,fun hv=>uO.1 hv.2 x hx,fun hg=>xZ hg.2.2.2 hx,by simp only [Tm.sz];omega,by simp only [Tm.cnt];omega⟩
theorem zNx {b:Tm} (hw:b.wk) (ha:b.atm=true) (nm ot:ByteArray) (n:Int) (ty re:Ty) (l:List Tm):LeT b (.mk 1 nm ot n ty re l):=by
 cases b with
 | mk bk bn bo bm bt br bl=>
 have hk:bk=1∨bk=2∨bk=3:=by
  simp only [Tm.atm,Tm.kd,Bool.or_eq_true,beq_iff_eq] at ha
  omega
 obtain ⟨h1,h2⟩:=hw
 obtain ⟨z1,z2⟩:=h1.z hk
 have hl:bl=[]:=List.eq_nil_of_length_eq_zero (h1.ar.2.2.2.2.1 hk)
 subst hl
 have:=Ty.cnt_pos ty
 have:=Ty.cnt_pos re
 refine ⟨?_,?_,?_,?_,?_,?_⟩
 ·simp only [Tm.vc,if_true,wL];split<;>omega
 ·simp only [Tm.dp,zA8];omega
 ·exact fun _=>⟨fun _=>rfl,trivial⟩
 ·exact fun _=>⟨by omega,by omega,by simp,trivial⟩
 ·simp only [Tm.sz,zDj];omega
 ·simp only [Tm.cnt,zX];omega
theorem zN8 {k n:Int} (hk:k=2∨k=3) {k':Int} {nm ot:ByteArray} {n':Int} {ty re:Ty} {l:List Tm}:LeT (zHs k n) (.mk k' nm ot n' ty re l):=by
 have:=Ty.cnt_pos ty
 have:=Ty.cnt_pos re
 refine ⟨?_,?_,?_,?_,?_,?_⟩
 ·simp only [zHs,Tm.vc,wL];rw [if_neg (by omega)];omega
 ·simp only [zHs,Tm.dp,zA8];omega
 ·exact fun _=>⟨fun _=>rfl,trivial⟩
 ·exact fun _=>⟨by simp [Ty.cnt,zG],by simp [Ty.cnt,zG],by simp,trivial⟩
 ·simp only [zHs,Tm.sz,zDj];omega
 ·simp only [zHs,Tm.cnt,zX,Ty.cnt,zG];omega
theorem zN6 {k n:Int} (h:(k=2∧0≤n∧n≤10006)∨(k=3∧0≤n∧n≤1)):(zHs k n).wk:=by
 have hz:(Ty.mk 0 []).cnt=1:=by simp [Ty.cnt,zG]
 rcases h with ⟨rfl,h1,h2⟩ | ⟨rfl,h1,h2⟩
 ·exact ⟨⟨by decide,rfl,fun h=>absurd h (by decide),fun _=>⟨h1,h2⟩,fun h=>absurd h (by decide),fun _=>⟨hz,hz⟩⟩,trivial⟩
 ·exact ⟨⟨by decide,rfl,fun h=>absurd h (by decide),fun h=>absurd h (by decide),fun _=>by omega,fun _=>⟨hz,hz⟩⟩,trivial⟩
theorem zO9 (nm:ByteArray) (a b:Int):(zHs (qg nm) (zY nm a b).1).wk:=by
 refine zN6 ?_
 have h:=zJp nm a b
 unfold qg
 split
 ·exact .inl ⟨rfl,h⟩
 ·rename_i hn
  simp only [zHn,Bool.or_eq_true,decide_eq_true_eq,not_or] at hn
  exact .inr ⟨rfl,zHY hn.1 hn.2.1 hn.2.2 _ _⟩
theorem zH4 (s:ByteArray):qg s=2∨qg s=3:=by unfold qg;split<;>simp
theorem zMt {n:Int} {nm ot:ByteArray} {ty re:Ty} {l:List Tm} (h:(Tm.mk 4 nm ot n ty re l).wk):LeT (zGk (.mk 4 nm ot n ty re l) nm l) (.mk 4 nm ot n ty re l)∧(zGk (.mk 4 nm ot n ty re l) nm l).wk:=by
 have hp:=zt.1 h.2
 have par:∀ i,i<l.length→LeT (l.getD i tm0) (.mk 4 nm ot n ty re l)∧(l.getD i tm0).wk:=fun i hi=>⟨zFz (zT hi) (by decide),hp _ (zT hi)⟩
 have isI_lt:∀ {i:Nat} {m:Int},(l.getD i tm0).isI m=true→i<l.length:=fun {i m} hi=>by
  by_cases hc:i<l.length
  ·exact hc
  ·rw [qY (by omega)] at hi
   simp [Tm.isI,tm0,Tm.kd] at hi
 have h2:=(h.1.ar.2.2.2.2.2 rfl)
 unfold zGk
 split
 ·rename_i h1
  unfold zHh at h1 ⊢
  split
  ·exact ⟨zN8 (zH4 nm),zO9 _ _ _⟩
  ·rename_i h3;rw [if_neg h3] at h1;simp at h1
 ·split
  ·rename_i h3
   refine par 1 ?_
   have:zCx nm=2:=by
    rcases h3 with ⟨rfl,_⟩ | ⟨rfl,_⟩<;>decide +kernel
   omega
  ·split
   ·rename_i h3
    refine par 0 ?_
    have:zCx nm=2:=by
     rcases h3 with ⟨rfl,_⟩ | ⟨rfl,_⟩ | ⟨rfl,_⟩<;>decide +kernel
    omega
   ·exact ⟨LeT.rfl,h⟩
theorem zLf:∀ {e:Tm},e.wk→LeT (zMI e) e∧(zMI e).wk
 | .mk k nm ot n ty re l,h=>by
   have hp:=zt.1 h.2
   obtain ⟨a0,a1,a2,a3,_⟩:=h.1.ar
   have par:k≠1→∀ i,i<l.length→LeT (l.getD i tm0) (.mk k nm ot n ty re l)∧(l.getD i tm0).wk:=fun hk i hi=>⟨zFz (zT hi) hk,hp _ (zT hi)⟩
   simp only [zMI]
   split
   ·rename_i hk;subst hk;exact zMt h
   split
   ·rename_i hk
    have hl:=a3 hk
    split
    ·rename_i h3
     have hw:=hp _ (zT (l:=l) (i:=0) (by omega))
     have hn:(l.getD 0 tm0).no=0∨(l.getD 0 tm0).no=1:=by
      generalize l.getD 0 tm0=p at h3 hw ⊢
      cases p with
      | mk pk pn po pm pt pr pl=>exact hw.1.b h3
     exact par (by omega) _ (by omega)
    ·exact ⟨LeT.rfl,h⟩
   split
   ·rename_i hk
    have hl:=a2 (.inl hk)
    split
    ·rename_i h6
     obtain ⟨h6,ha⟩:=h6
     have q0:=par (by omega) 0 (by omega)
     have q1:=par (by omega) 1 (by omega)
     generalize l.getD 0 tm0=p at h6 q0 ⊢
     generalize l.getD 1 tm0=q at ha q1 ⊢
     cases p with
     | mk pk pn po pm pt pr pl=>
     have hpl:=q0.2.1.ar.2.1 (.inl h6)
     have hm:=zT (l:=pl) (i:=0) (by omega)
     have hw:=zt.1 q0.2.2 _ hm
     simp only [Tm.pt]
     exact ⟨((zHk (zNx q1.2 ha) _ _ _).trans (zFz hm (by have:pk=6:=h6;omega))).trans q0.1,zKa _ _ _ _ hw q1.2⟩
    ·exact ⟨LeT.rfl,h⟩
   split
   ·rename_i hk
    have hl:=a2 (.inr hk)
    have q0:=par (by omega) 0 (by omega)
    have q1:=par (by omega) 1 (by omega)
    split
    ·rename_i ha
     exact ⟨(zHk (zNx q0.2 ha) _ _ _).trans q1.1,zKa _ _ _ _ q1.2 q0.2⟩
    ·split
     ·exact q1
     ·exact ⟨LeT.rfl,h⟩
   ·exact ⟨LeT.rfl,h⟩
theorem zI2:∀ t:Tm,t.wk→LeT t.sim t∧t.sim.wk:=by
 refine Tm.ind fun k nm ot n ty re l ih h=>?_
 have hp:=zt.1 h.2
 have hw:(Tm.mk k nm ot n ty re (zGM l)).wk:=by
  refine ⟨by rw [vU,List.length_map];exact h.1,zt.2 fun x hx=>?_⟩
  rw [vU] at hx
  obtain ⟨z,hz,rfl⟩:=List.mem_map.1 hx
  exact (ih z hz (hp z hz)).2
 simp only [Tm.sim]
 refine ⟨(zLf hw).1.trans ?_,(zLf hw).2⟩
 by_cases hk:k=1
 ·have hl:l=[]:=List.eq_nil_of_length_eq_zero (h.1.ar.2.2.2.2.1 (.inl hk))
  subst hl
  exact LeT.rfl
 refine zCK hk (by rw [vU];simp) fun i t' t ht' ht=>?_
 rw [vU,List.getElem?_map,ht] at ht'
 cases ht'
 exact (ih t (List.mem_of_getElem? ht) (hp t (List.mem_of_getElem? ht))).1
theorem zBc (t:Tm):LeT t.simplify t:=by
 unfold Tm.simplify
 split
 ·rename_i h
  simp only [Tm.isPl,Bool.and_eq_true] at h
  exact (zI2 t (wk_of t h.1 h.2)).1
 ·exact LeT.rfl
/-- a plain term, not too great -/
structure Tm.W (e:Tm):Prop where
 k:e.wk
 c:e.cnt≤4000000
theorem Tm.W.z {e:Tm} (h:e.W):e.Z:=⟨Tm.G_cnt _ (by have:=h.c;omega),by have:=h.c;have:=Tm.vc_cnt e;omega,zQh _ h.k⟩
theorem Tm.W.mem {k:Int} {nm ot:ByteArray} {n:Int} {ty re:Ty} {l:List Tm} (h:(Tm.mk k nm ot n ty re l).W):∀ y∈l,y.W:=fun y hy=>by
 have h1:=h.c
 simp only [Tm.cnt] at h1
 have h4:=yy hy
 exact ⟨zt.1 h.k.2 y hy,by omega⟩
theorem zP6 {e b:Tm} {x:ByteArray} (he:e.W) (hb:b.W):(e.sb x b).Z:=by
 have h1:=zNt e.dp e x b
 have h2:=Tm.vc_cnt e
 have h3:=Tm.vc_cnt b
 have h5:=he.c
 have h6:=hb.c
 have h4:e.vc*(b.vc+1)≤1333333*1333334:=Nat.mul_le_mul (by omega) (by omega)
 exact ⟨zOF _ _ _ _ he.z.g hb.z.g,by unfold Tm.sb;omega,zPH _ _ _ _ he.z.v hb.z.v⟩
theorem Tm.W.sim {e:Tm} (h:e.W):e.sim.W:=⟨(zI2 e h.k).2,Nat.le_trans (zI2 e h.k).1.n h.c⟩
theorem zAR:∀ (t:Ty) (d:D),t.Is d→wU 117 [.dg 2 d,.int .i64 4] t.has4:=by
 refine Ty.ind fun k l ih d hd N Q hQ=>?_
 obtain ⟨a,es,c,rfl,hlen,hes⟩:=Ty.is_mk.1 hd
 refine zGf N _ 4 Q fun _=>?_
 simp only [Ty.has4] at hQ
 refine up hes hlen (fun i xs=>∀ (N':Nat),N≤N'→(∀ N'',N'≤N''→Q (sa xs||k==4) N'')→wV Q N 4 i (.ag [.lit (.int .i64 k),.sl a 2 es c]) N') ?_ ?_ N (Nat.le_refl _) hQ
 ·intro i hlt _ N' hN' hQ'
  refine rR _ _ _ _ _ _ ?_
  repeat' first|with_reducible intro _|simp only[hlt,Y1,Y2,Y3,Y4]|(with_reducible first|refine X1 ?_ ?_|refine X2 ?_ ?_|refine X3 ?_ ?_|refine X4 ?_ ?_|refine X5 ?_ ?_|refine X6 ?_ ?_|refine X7 ?_ ?_|refine X8 ?_ ?_|refine X9 ?_ ?_)|refine⟨_,_,_,rfl,?_⟩|refine⟨_,rfl,?_⟩|((with_reducible refine And.intro ?_ ?_);·first|omega|trivial|(show _=_;rfl)|((with_reducible refine And.intro ?_ ?_)<;>first|omega|trivial|(show _=_;rfl)))|fail
  exact Qb (hQ' _ (by omega)) (by simp [sa])
 ·intro i x xs hat _ ih2 N' hN' hQ'
  have hb:=hat.b
  simp only [sa] at hQ'
  refine rR _ _ _ _ _ _ ?_
  repeat' first|with_reducible intro _|simp only[hat.lt,hat.w,Int.toNat_natCast,Y1,Y2,Y3,Y4]|(with_reducible first|refine X1 ?_ ?_|refine X2 ?_ ?_|refine X3 ?_ ?_|refine X4 ?_ ?_|refine X5 ?_ ?_|refine X6 ?_ ?_|refine X7 ?_ ?_|refine X8 ?_ ?_|refine X9 ?_ ?_)|refine⟨_,_,_,rfl,?_⟩|refine⟨_,rfl,?_⟩|((with_reducible refine And.intro ?_ ?_);·first|omega|trivial|(show _=_;rfl)|((with_reducible refine And.intro ?_ ?_)<;>first|omega|trivial|(show _=_;rfl)))|refine (ih x hat.m _ hat.r) _ _ ?_|fail
  ·refine Qb (hQ' _ (by omega)) ?_;simp [*]
  ·exact ih2 _ (by omega) fun N'' h=>Qb (hQ' N'' (by omega)) (by simp [*])
theorem zDA:∀ (t:Tm) (d:D),t.Is d→wU 91 [.dg 9 d] t.plainB:=by
 refine Tm.ind fun k nm ot n ty re l ih d hd N Q hQ=>?_
 obtain ⟨t0,t1,r0,r1,a,es,c,rfl,hh,hlen,hes⟩:=Tm.is_mk.1 hd
 refine zC4 N _ Q fun _=>?_
 simp only [Tm.plainB] at hQ
 refine up hes hlen (fun i xs=>∀ (N':Nat),N≤N'→(∀ N'',N'≤N''→Q (xL xs&&(decide (k<10)&&(!ty.has4&&!re.has4))) N'')→xS Q N i (.ag [.lit (.int .i64 k),.lit (.string nm),.lit (.string ot),.lit (.int .i64 n),t0,t1,r0,r1,.sl a 9 es c]) N') ?_ ?_ N (Nat.le_refl _) hQ
 ·intro i hlt _ N' hN' hQ'
  refine tP _ _ _ _ _ ?_
  repeat' first|with_reducible intro _|simp only[hlt,Y1,Y2,Y3,Y4]|(with_reducible first|refine X1 ?_ ?_|refine X2 ?_ ?_|refine X3 ?_ ?_|refine X4 ?_ ?_|refine X5 ?_ ?_|refine X6 ?_ ?_|refine X7 ?_ ?_|refine X8 ?_ ?_|refine X9 ?_ ?_)|refine⟨_,_,_,rfl,?_⟩|refine⟨_,rfl,?_⟩|((with_reducible refine And.intro ?_ ?_);·first|omega|trivial|(show _=_;rfl)|((with_reducible refine And.intro ?_ ?_)<;>first|omega|trivial|(show _=_;rfl)))|refine (zAR _ _ hh.ty) _ _ ?_|refine (zAR _ _ hh.re) _ _ ?_|fail
  all_goals (refine Qb (hQ' _ (by omega)) ?_;simp [xL, *];done)
 ·intro i x xs hat _ ih2 N' hN' hQ'
  have hb:=hat.b
  simp only [xL] at hQ'
  refine tP _ _ _ _ _ ?_
  repeat' first|with_reducible intro _|simp only[hat.lt,hat.w,Int.toNat_natCast,Y1,Y2,Y3,Y4]|(with_reducible first|refine X1 ?_ ?_|refine X2 ?_ ?_|refine X3 ?_ ?_|refine X4 ?_ ?_|refine X5 ?_ ?_|refine X6 ?_ ?_|refine X7 ?_ ?_|refine X8 ?_ ?_|refine X9 ?_ ?_)|refine⟨_,_,_,rfl,?_⟩|refine⟨_,rfl,?_⟩|((with_reducible refine And.intro ?_ ?_);·first|omega|trivial|(show _=_;rfl)|((with_reducible refine And.intro ?_ ?_)<;>first|omega|trivial|(show _=_;rfl)))|refine (ih x hat.m _ hat.r) _ _ ?_|fail
  ·refine Qb (hQ' _ (by omega)) ?_;simp [*]
  ·exact ih2 _ (by omega) fun N'' h=>Qb (hQ' N'' (by omega)) (by simp [*])
theorem zDB (t:Tm) (d:D) (hd:t.Is d) (hc:t.cnt≤1073741824):wU 58 [.dg 9 d] t.isPl:=fun N Q hQ=>by
 refine zDK N _ Q fun _=>?_
 repeat' first|with_reducible intro _|simp only[Y1,Y2,Y3,Y4]|(with_reducible first|refine X1 ?_ ?_|refine X2 ?_ ?_|refine X3 ?_ ?_|refine X4 ?_ ?_|refine X5 ?_ ?_|refine X6 ?_ ?_|refine X7 ?_ ?_|refine X8 ?_ ?_|refine X9 ?_ ?_)|refine⟨_,_,_,rfl,?_⟩|refine⟨_,rfl,?_⟩|((with_reducible refine And.intro ?_ ?_);·first|omega|trivial|(show _=_;rfl)|((with_reducible refine And.intro ?_ ?_)<;>first|omega|trivial|(show _=_;rfl)))|refine (zF3 t d hd hc) _ _ ?_|refine (zDA t d hd) _ _ ?_|fail
 all_goals (refine Qb (hQ _ (by omega)) ?_;simp [Tm.isPl, *])
theorem pC (t:Tm) (d:D) (hd:t.Is d):wU 119 [.dg 9 d] t.atm:=fun N Q hQ=>by
 cases t with
 | mk k nm ot n ty re l=>
 obtain ⟨t0,t1,r0,r1,a,es,c,rfl,hh,hlen,hes⟩:=Tm.is_mk.1 hd
 refine zEt N _ Q fun _=>?_
 repeat' first|with_reducible intro _|simp only[Y1,Y2,Y3,Y4]|(with_reducible first|refine X1 ?_ ?_|refine X2 ?_ ?_|refine X3 ?_ ?_|refine X4 ?_ ?_|refine X5 ?_ ?_|refine X6 ?_ ?_|refine X7 ?_ ?_|refine X8 ?_ ?_|refine X9 ?_ ?_)|refine⟨_,_,_,rfl,?_⟩|refine⟨_,rfl,?_⟩|((with_reducible refine And.intro ?_ ?_);·first|omega|trivial|(show _=_;rfl)|((with_reducible refine And.intro ?_ ?_)<;>first|omega|trivial|(show _=_;rfl)))|refine (vY _ _ _) _ _ ?_|fail
 all_goals
  refine Qb (hQ _ (by omega)) ?_
  simp only [Tm.atm,Tm.kd,inB]
  rw [Bool.eq_iff_iff]
  simp only [Bool.or_eq_true,Bool.and_eq_true,beq_iff_eq,decide_eq_true_eq]
  omega
theorem wj (t:Tm) (d:D) (hd:t.Is d) (m:Int):wU 153 [.dg 9 d,.int .i64 m] (t.isI m):=fun N Q hQ=>by
 cases t with
 | mk k nm ot n ty re l=>
 obtain ⟨t0,t1,r0,r1,a,es,c,rfl,hh,hlen,hes⟩:=Tm.is_mk.1 hd
 refine zG7 N _ m Q fun _=>?_
 repeat' first|with_reducible intro _|simp only[Y1,Y2,Y3,Y4]|(with_reducible first|refine X1 ?_ ?_|refine X2 ?_ ?_|refine X3 ?_ ?_|refine X4 ?_ ?_|refine X5 ?_ ?_|refine X6 ?_ ?_|refine X7 ?_ ?_|refine X8 ?_ ?_|refine X9 ?_ ?_)|refine⟨_,_,_,rfl,?_⟩|refine⟨_,rfl,?_⟩|((with_reducible refine And.intro ?_ ?_);·first|omega|trivial|(show _=_;rfl)|((with_reducible refine And.intro ?_ ?_)<;>first|omega|trivial|(show _=_;rfl)))|fail
 all_goals (refine Qb (hQ _ (by omega)) ?_;simp [Tm.isI,Tm.kd,Tm.no, *])
theorem zC8:∀ (t:Tm) (d:D),t.Is d→wU 120 [.dg 9 d] t.qui:=by
 refine Tm.ind fun k nm ot n ty re l ih d hd N Q hQ=>?_
 obtain ⟨t0,t1,r0,r1,a,es,c,rfl,hh,hlen,hes⟩:=Tm.is_mk.1 hd
 refine zC0 N _ Q fun _=>?_
 simp only [Tm.qui] at hQ
 refine up hes hlen (fun i xs=>∀ (N':Nat),N≤N'→(∀ N'',N'≤N''→Q (zB1 xs&&k != 7) N'')→xR Q N i (.ag [.lit (.int .i64 k),.lit (.string nm),.lit (.string ot),.lit (.int .i64 n),t0,t1,r0,r1,.sl a 9 es c]) N') ?_ ?_ N (Nat.le_refl _) hQ
 ·intro i hlt _ N' hN' hQ'
  refine tI _ _ _ _ _ ?_
  repeat' first|with_reducible intro _|simp only[hlt,Y1,Y2,Y3,Y4]|(with_reducible first|refine X1 ?_ ?_|refine X2 ?_ ?_|refine X3 ?_ ?_|refine X4 ?_ ?_|refine X5 ?_ ?_|refine X6 ?_ ?_|refine X7 ?_ ?_|refine X8 ?_ ?_|refine X9 ?_ ?_)|refine⟨_,_,_,rfl,?_⟩|refine⟨_,rfl,?_⟩|((with_reducible refine And.intro ?_ ?_);·first|omega|trivial|(show _=_;rfl)|((with_reducible refine And.intro ?_ ?_)<;>first|omega|trivial|(show _=_;rfl)))|fail
  exact Qb (hQ' _ (by omega)) (by simp [zB1])
 ·intro i x xs hat _ ih2 N' hN' hQ'
  have hb:=hat.b
  simp only [zB1] at hQ'
  refine tI _ _ _ _ _ ?_
  repeat' first|with_reducible intro _|simp only[hat.lt,hat.w,Int.toNat_natCast,Y1,Y2,Y3,Y4]|(with_reducible first|refine X1 ?_ ?_|refine X2 ?_ ?_|refine X3 ?_ ?_|refine X4 ?_ ?_|refine X5 ?_ ?_|refine X6 ?_ ?_|refine X7 ?_ ?_|refine X8 ?_ ?_|refine X9 ?_ ?_)|refine⟨_,_,_,rfl,?_⟩|refine⟨_,rfl,?_⟩|((with_reducible refine And.intro ?_ ?_);·first|omega|trivial|(show _=_;rfl)|((with_reducible refine And.intro ?_ ?_)<;>first|omega|trivial|(show _=_;rfl)))|refine (ih x hat.m _ hat.r) _ _ ?_|fail
  ·refine Qb (hQ' _ (by omega)) ?_;simp [*]
  ·exact ih2 _ (by omega) fun N'' h=>Qb (hQ' N'' (by omega)) (by simp [*])
theorem zBb (t:Ty) (d:D) (hd:t.Is d):wU 127 [.dg 2 d] (t.k != 4):=fun N Q hQ=>by
 cases t with
 | mk k l=>
 obtain ⟨a,es,c,rfl,hlen,hes⟩:=Ty.is_mk.1 hd
 refine rJ N _ Q fun _=>?_
 repeat' first|with_reducible intro _|simp only[Y1,Y2,Y3,Y4]|(with_reducible first|refine X1 ?_ ?_|refine X2 ?_ ?_|refine X3 ?_ ?_|refine X4 ?_ ?_|refine X5 ?_ ?_|refine X6 ?_ ?_|refine X7 ?_ ?_|refine X8 ?_ ?_|refine X9 ?_ ?_)|refine⟨_,_,_,rfl,?_⟩|refine⟨_,rfl,?_⟩|((with_reducible refine And.intro ?_ ?_);·first|omega|trivial|(show _=_;rfl)|((with_reducible refine And.intro ?_ ?_)<;>first|omega|trivial|(show _=_;rfl)))|fail
 exact Qb (hQ _ (by omega)) rfl
theorem zAr {p:Ty→Bool} {l:List Ty} {es:List D} (h:All2 Ty.Is l es) (hlen:es.length≤4611686018427387904) (ad:Addr) (hp:∀ x∈l,∀ d,x.Is d→wU 161 [.dg 2 d,.pd ad 0 (.fn 127 [])] (p x)) (a:Option Addr) (c:Nat) :
  wU 160 [.sv a 2 es c,.fn 161 [.pd ad 0 (.fn 127 [])]] (l.any p):=fun N Q hQ=>by
 have hi:zAa 185 [.sv a 2 es c,.fn 161 [.pd ad 0 (.fn 127 [])]] (rx p l 0):=fun N Q hQ=>by
  refine vQ N a es c ad Q fun _=>?_
  refine up h hlen (fun i xs=>∀ (N':Nat),N≤N'→(∀ N'',N'≤N''→Q (rx p xs i) N'')→zZ Q N a es c ad es.length i N') ?_ ?_ N (Nat.le_refl _) hQ
  ·intro i hlt _ N' hN' hQ'
   refine xE _ _ _ _ _ _ _ _ _ ?_
   repeat' first|with_reducible intro _|simp only[hlt,Y1,Y2,Y3,Y4]|(with_reducible first|refine X1 ?_ ?_|refine X2 ?_ ?_|refine X3 ?_ ?_|refine X4 ?_ ?_|refine X5 ?_ ?_|refine X6 ?_ ?_|refine X7 ?_ ?_|refine X8 ?_ ?_|refine X9 ?_ ?_)|refine⟨_,_,_,rfl,?_⟩|refine⟨_,rfl,?_⟩|((with_reducible refine And.intro ?_ ?_);·first|omega|trivial|(show _=_;rfl)|((with_reducible refine And.intro ?_ ?_)<;>first|omega|trivial|(show _=_;rfl)))|fail
   exact hQ' _ (by omega)
  ·intro i x xs hat _ ih2 N' hN' hQ'
   have hb:=hat.b
   simp only [rx] at hQ'
   refine xE _ _ _ _ _ _ _ _ _ ?_
   repeat' first|with_reducible intro _|simp only[hat.lt,hat.w,Int.toNat_natCast,Y1,Y2,Y3,Y4]|(with_reducible first|refine X1 ?_ ?_|refine X2 ?_ ?_|refine X3 ?_ ?_|refine X4 ?_ ?_|refine X5 ?_ ?_|refine X6 ?_ ?_|refine X7 ?_ ?_|refine X8 ?_ ?_|refine X9 ?_ ?_)|refine⟨_,_,_,rfl,?_⟩|refine⟨_,rfl,?_⟩|((with_reducible refine And.intro ?_ ?_);·first|omega|trivial|(show _=_;rfl)|((with_reducible refine And.intro ?_ ?_)<;>first|omega|trivial|(show _=_;rfl)))|refine (hp x hat.m _ hat.r) _ _ ?_|fail
   ·exact Qi (hQ' _ (by omega)) (by rw [if_pos (by assumption)])
   ·rename_i h;exact ih2 _ (by omega) fun N'' h2=>Qi (hQ' _ (by omega)) (by rw [h];simp)
 refine we N a es c ad Q fun _=>?_
 repeat' first|with_reducible intro _|simp only[Y1,Y2,Y3,Y4]|(with_reducible first|refine X1 ?_ ?_|refine X2 ?_ ?_|refine X3 ?_ ?_|refine X4 ?_ ?_|refine X5 ?_ ?_|refine X6 ?_ ?_|refine X7 ?_ ?_|refine X8 ?_ ?_|refine X9 ?_ ?_)|refine⟨_,_,_,rfl,?_⟩|refine⟨_,rfl,?_⟩|((with_reducible refine And.intro ?_ ?_);·first|omega|trivial|(show _=_;rfl)|((with_reducible refine And.intro ?_ ?_)<;>first|omega|trivial|(show _=_;rfl)))|refine hi _ _ ?_|fail
 exact Qb (hQ _ (by omega)) (u3 _ l 0 (by omega)).symm
theorem zBk:∀ l:List Ty,sa l=l.any fun x=>!!x.has4
 | []=>rfl
 | t::ts=>by simp only [sa,List.any_cons,zBk ts];cases t.has4<;>simp
theorem zH2:∀ (t:Ty) (d:D),t.Is d→wU 126 [.dg 2 d,.fn 127 []] (!t.has4):=by
 refine Ty.ind fun k l ih d hd N Q hQ=>?_
 have hd':=hd
 obtain ⟨a,es,c,rfl,hlen,hes⟩:=Ty.is_mk.1 hd
 refine r8 N _ Q fun _=>?_
 simp only [Ty.has4,zBk] at hQ
 have h1:=zBb _ _ hd'
 simp only [Ty.k] at h1
 repeat' first|with_reducible intro _|simp only[Y1,Y2,Y3,Y4]|(with_reducible first|refine X1 ?_ ?_|refine X2 ?_ ?_|refine X3 ?_ ?_|refine X4 ?_ ?_|refine X5 ?_ ?_|refine X6 ?_ ?_|refine X7 ?_ ?_|refine X8 ?_ ?_|refine X9 ?_ ?_)|refine⟨_,_,_,rfl,?_⟩|refine⟨_,rfl,?_⟩|((with_reducible refine And.intro ?_ ?_);·first|omega|trivial|(show _=_;rfl)|((with_reducible refine And.intro ?_ ?_)<;>first|omega|trivial|(show _=_;rfl)))|refine h1 _ _ ?_|refine (zAr hes hlen _ (fun x hx d hd=>fun N Q hQ=>sI N d _ Q fun _ N1 hN1=>ih x hx d hd N1 _ fun N2 hN2 hle N3 hN3=>hQ N3 (by omega)) _ _) _ _ ?_|fail
 all_goals (refine Qb (hQ _ (by omega)) ?_;simp_all)
theorem uJ (t:Ty) (d:D) (hd:t.Is d) (hc:t.cnt≤1073741824):wU 96 [.dg 2 d] (t.valid&&!t.has4):=fun N Q hQ=>by
 refine qT N _ Q fun _=>?_
 repeat' first|with_reducible intro _|simp only[Y1,Y2,Y3,Y4]|(with_reducible first|refine X1 ?_ ?_|refine X2 ?_ ?_|refine X3 ?_ ?_|refine X4 ?_ ?_|refine X5 ?_ ?_|refine X6 ?_ ?_|refine X7 ?_ ?_|refine X8 ?_ ?_|refine X9 ?_ ?_)|refine⟨_,_,_,rfl,?_⟩|refine⟨_,rfl,?_⟩|((with_reducible refine And.intro ?_ ?_);·first|omega|trivial|(show _=_;rfl)|((with_reducible refine And.intro ?_ ?_)<;>first|omega|trivial|(show _=_;rfl)))|refine (xp t d hd hc) _ _ ?_|refine (zH2 t d hd) _ _ ?_|fail
 all_goals (refine Qb (hQ _ (by omega)) ?_;simp [*])
theorem zL1 (k:Int):wU 95 [.int .i64 k] (inB k 10 13):=fun N Q hQ=>by
 refine zC7 N k Q ?_
 repeat' first|with_reducible intro _|simp only[Y1,Y2,Y3,Y4]|(with_reducible first|refine X1 ?_ ?_|refine X2 ?_ ?_|refine X3 ?_ ?_|refine X4 ?_ ?_|refine X5 ?_ ?_|refine X6 ?_ ?_|refine X7 ?_ ?_|refine X8 ?_ ?_|refine X9 ?_ ?_)|refine⟨_,_,_,rfl,?_⟩|refine⟨_,rfl,?_⟩|((with_reducible refine And.intro ?_ ?_);·first|omega|trivial|(show _=_;rfl)|((with_reducible refine And.intro ?_ ?_)<;>first|omega|trivial|(show _=_;rfl)))|refine (xA _ _ _) _ _ ?_|fail
 exact hQ _ (by omega)
def plN (k:Int) (ty re:Ty):Bool:=!inB k 10 13&&(!(k==6||k==9)||((ty.valid&&!ty.has4)&&(k==6||(re.valid&&!re.has4))))
theorem zHr {k n:Int} {nm ot:ByteArray} {ty re:Ty} {t0 t1 r0 r1 x:D} (h:Tm.Hd nm ot ty re t0 t1 r0 r1) (hc:ty.cnt≤1073741824) (hc2:re.cnt≤1073741824) :
  wU 94 [.dg 9 (.ag [.lit (.int .i64 k),.lit (.string nm),.lit (.string ot),.lit (.int .i64 n),t0,t1,r0,r1,x])] (plN k ty re):=fun N Q hQ=>by
 refine zBH N _ Q fun _=>?_
 repeat' first|with_reducible intro _|simp only[Y1,Y2,Y3,Y4]|(with_reducible first|refine X1 ?_ ?_|refine X2 ?_ ?_|refine X3 ?_ ?_|refine X4 ?_ ?_|refine X5 ?_ ?_|refine X6 ?_ ?_|refine X7 ?_ ?_|refine X8 ?_ ?_|refine X9 ?_ ?_)|refine⟨_,_,_,rfl,?_⟩|refine⟨_,rfl,?_⟩|((with_reducible refine And.intro ?_ ?_);·first|omega|trivial|(show _=_;rfl)|((with_reducible refine And.intro ?_ ?_)<;>first|omega|trivial|(show _=_;rfl)))|refine (zL1 _) _ _ ?_|refine (uJ _ _ h.ty hc) _ _ ?_|refine (uJ _ _ h.re hc2) _ _ ?_|fail
 all_goals (refine Qb (hQ _ (by omega)) ?_;simp_all [plN])
theorem zA2 {p:Tm→Bool} {l:List Tm} {es:List D} (h:All2 Tm.Is l es) (hlen:es.length≤4611686018427387904) (ad:Addr) (hp:∀ x∈l,∀ d,x.Is d→wU 124 [.dg 9 d,.pd ad 0 (.fn 94 [])] (p x)) (a:Option Addr) (c:Nat) :
  wU 123 [.sv a 9 es c,.fn 124 [.pd ad 0 (.fn 94 [])]] (l.any p):=fun N Q hQ=>by
 have hi:zAa 156 [.sv a 9 es c,.fn 124 [.pd ad 0 (.fn 94 [])]] (rx p l 0):=fun N Q hQ=>by
  refine vF N a es c ad Q fun _=>?_
  refine up h hlen (fun i xs=>∀ (N':Nat),N≤N'→(∀ N'',N'≤N''→Q (rx p xs i) N'')→za Q N a es c ad es.length i N') ?_ ?_ N (Nat.le_refl _) hQ
  ·intro i hlt _ N' hN' hQ'
   refine xC _ _ _ _ _ _ _ _ _ ?_
   repeat' first|with_reducible intro _|simp only[hlt,Y1,Y2,Y3,Y4]|(with_reducible first|refine X1 ?_ ?_|refine X2 ?_ ?_|refine X3 ?_ ?_|refine X4 ?_ ?_|refine X5 ?_ ?_|refine X6 ?_ ?_|refine X7 ?_ ?_|refine X8 ?_ ?_|refine X9 ?_ ?_)|refine⟨_,_,_,rfl,?_⟩|refine⟨_,rfl,?_⟩|((with_reducible refine And.intro ?_ ?_);·first|omega|trivial|(show _=_;rfl)|((with_reducible refine And.intro ?_ ?_)<;>first|omega|trivial|(show _=_;rfl)))|fail
   exact hQ' _ (by omega)
  ·intro i x xs hat _ ih2 N' hN' hQ'
   have hb:=hat.b
   simp only [rx] at hQ'
   refine xC _ _ _ _ _ _ _ _ _ ?_
   repeat' first|with_reducible intro _|simp only[hat.lt,hat.w,Int.toNat_natCast,Y1,Y2,Y3,Y4]|(with_reducible first|refine X1 ?_ ?_|refine X2 ?_ ?_|refine X3 ?_ ?_|refine X4 ?_ ?_|refine X5 ?_ ?_|refine X6 ?_ ?_|refine X7 ?_ ?_|refine X8 ?_ ?_|refine X9 ?_ ?_)|refine⟨_,_,_,rfl,?_⟩|refine⟨_,rfl,?_⟩|((with_reducible refine And.intro ?_ ?_);·first|omega|trivial|(show _=_;rfl)|((with_reducible refine And.intro ?_ ?_)<;>first|omega|trivial|(show _=_;rfl)))|refine (hp x hat.m _ hat.r) _ _ ?_|fail
   ·exact Qi (hQ' _ (by omega)) (by rw [if_pos (by assumption)])
   ·rename_i h;exact ih2 _ (by omega) fun N'' h2=>Qi (hQ' _ (by omega)) (by rw [h];simp)
 refine wq N a es c ad Q fun _=>?_
 repeat' first|with_reducible intro _|simp only[Y1,Y2,Y3,Y4]|(with_reducible first|refine X1 ?_ ?_|refine X2 ?_ ?_|refine X3 ?_ ?_|refine X4 ?_ ?_|refine X5 ?_ ?_|refine X6 ?_ ?_|refine X7 ?_ ?_|refine X8 ?_ ?_|refine X9 ?_ ?_)|refine⟨_,_,_,rfl,?_⟩|refine⟨_,rfl,?_⟩|((with_reducible refine And.intro ?_ ?_);·first|omega|trivial|(show _=_;rfl)|((with_reducible refine And.intro ?_ ?_)<;>first|omega|trivial|(show _=_;rfl)))|refine hi _ _ ?_|fail
 exact Qb (hQ _ (by omega)) (u3 _ l 0 (by omega)).symm
mutual
def Tm.plI:Tm→Bool
 | .mk k _ _ _ ty re l=>plN k ty re&&zEU l
def zEU:List Tm→Bool
 | []=>true
 | t::ts=>t.plI&&zEU ts
end
theorem zEg:∀ l:List Tm,zEU l=!(l.any fun x=>!x.plI)
 | []=>rfl
 | t::ts=>by simp only [zEU,List.any_cons,zEg ts];cases t.plI<;>simp
theorem zIQ:∀ (t:Tm) (d:D),t.Is d→t.cnt≤1073741824→wU 93 [.dg 9 d,.fn 94 []] t.plI:=by
 refine Tm.ind fun k nm ot n ty re l ih d hd hc N Q hQ=>?_
 obtain ⟨t0,t1,r0,r1,a,es,c,rfl,hh,hlen,hes⟩:=Tm.is_mk.1 hd
 simp only [Tm.cnt] at hc
 have hb:=zHr (k:=k) (n:=n) (x:=.sl a 9 es c) hh (by omega) (by omega)
 refine qD N _ Q fun _=>?_
 simp only [Tm.plI,zEg] at hQ
 repeat' first|with_reducible intro _|simp only[Y1,Y2,Y3,Y4]|(with_reducible first|refine X1 ?_ ?_|refine X2 ?_ ?_|refine X3 ?_ ?_|refine X4 ?_ ?_|refine X5 ?_ ?_|refine X6 ?_ ?_|refine X7 ?_ ?_|refine X8 ?_ ?_|refine X9 ?_ ?_)|refine⟨_,_,_,rfl,?_⟩|refine⟨_,rfl,?_⟩|((with_reducible refine And.intro ?_ ?_);·first|omega|trivial|(show _=_;rfl)|((with_reducible refine And.intro ?_ ?_)<;>first|omega|trivial|(show _=_;rfl)))|refine hb _ _ ?_|refine (zA2 hes hlen _ (fun x hx d hd=>fun N Q hQ=>sQ N d _ Q fun _ N1 hN1=>ih x hx d hd (by have:=yy hx;omega) N1 _ fun N2 hN2 hle N3 hN3=>hQ N3 (by omega)) _ _) _ _ ?_|fail
 all_goals (refine Qb (hQ _ (by omega)) ?_;simp [*])
theorem zJb:∀ t:Tm,t.ok=true→t.plI=t.plainB:=by
 refine Tm.ind fun k nm ot n ty re l ih h=>?_
 have hp:zEU l=xL l:=by
  have hx:∀ x∈l,x.ok=true:=fun x hx=>by
   simp only [Tm.ok,Bool.and_eq_true] at h
   exact wk_of.mk_all' h.1 x hx
  clear h
  induction l with
  | nil=>rfl
  | cons t ts ih2=>simp only [zEU,xL];rw [ih t (by simp) (hx t (by simp)),ih2 (fun x h=>ih x (by simp [h])) fun x h=>hx x (by simp [h])]
 simp only [Tm.plI,Tm.plainB,hp]
 rw [Bool.and_comm]
 congr 1
 simp only [Tm.ok,Bool.and_eq_true,yK,Bool.or_eq_true,beq_iff_eq] at h
 obtain ⟨_,⟨h1,h2,h3,h4,_⟩,h5⟩:=h
 have z4:∀ {t:Ty},t.zero=true→t.has4=false:=fun {t} ht=>by
  cases t with
  | mk k l=>
  simp only [Ty.zero,Ty.as,Ty.k,Bool.and_eq_true,beq_iff_eq] at ht
  have:l=[]:=List.eq_nil_of_length_eq_zero (by omega)
  subst this
  simp [Ty.has4,sa,ht.1]
 have hk13:k≤13:=by
  unfold zGz at h5
  (repeat' split at h5)<;>omega
 have hs:inB k 10 13=!decide (k<10):=by
  rw [Bool.eq_iff_iff,wt]
  simp
  omega
 unfold plN
 rw [hs]
 by_cases h6:k=6
 ·subst h6
  have r4:=z4 (h4.resolve_left (by decide))
  have v1:ty.valid=true:=by rw [←h1];rfl
  simp [r4,v1]
 by_cases h9:k=9
 ·subst h9
  have v1:ty.valid=true:=by rw [←h1];rfl
  have v2:re.valid=true:=by rw [←h3];decide
  simp [v1,v2]
 ·have n1:rZ k=false:=by unfold rZ;simp [h6,h9]
  have r4:=z4 (h4.resolve_left (by simpa using h9))
  have t4:=z4 (h2.resolve_left (by rw [n1];decide))
  simp [r4,t4,h6,h9]
theorem zDt (t:Tm) (d:D) (hd:t.Is d) (hc:t.cnt≤1073741824):wU 60 [.dg 9 d] t.isPl:=fun N Q hQ=>by
 refine zDO N _ Q fun _=>?_
 have h:=zJb t
 repeat' first|with_reducible intro _|simp only[Y1,Y2,Y3,Y4]|(with_reducible first|refine X1 ?_ ?_|refine X2 ?_ ?_|refine X3 ?_ ?_|refine X4 ?_ ?_|refine X5 ?_ ?_|refine X6 ?_ ?_|refine X7 ?_ ?_|refine X8 ?_ ?_|refine X9 ?_ ?_)|refine⟨_,_,_,rfl,?_⟩|refine⟨_,rfl,?_⟩|((with_reducible refine And.intro ?_ ?_);·first|omega|trivial|(show _=_;rfl)|((with_reducible refine And.intro ?_ ?_)<;>first|omega|trivial|(show _=_;rfl)))|refine (zFX t d hd hc) _ _ ?_|refine (zIQ t d hd hc) _ _ ?_|fail
 all_goals (refine Qb (hQ _ (by omega)) ?_;simp_all [Tm.isPl])
theorem zIM (t:Tm) (d:D) (hd:t.Is d) (m:Int):wU 162 [.dg 9 d,.int .i64 m] (t.isI m):=fun N Q hQ=>by
 cases t with
 | mk k nm ot n ty re l=>
 obtain ⟨t0,t1,r0,r1,a,es,c,rfl,hh,hlen,hes⟩:=Tm.is_mk.1 hd
 refine zGF N _ m Q fun _=>?_
 repeat' first|with_reducible intro _|simp only[Y1,Y2,Y3,Y4]|(with_reducible first|refine X1 ?_ ?_|refine X2 ?_ ?_|refine X3 ?_ ?_|refine X4 ?_ ?_|refine X5 ?_ ?_|refine X6 ?_ ?_|refine X7 ?_ ?_|refine X8 ?_ ?_|refine X9 ?_ ?_)|refine⟨_,_,_,rfl,?_⟩|refine⟨_,rfl,?_⟩|((with_reducible refine And.intro ?_ ?_);·first|omega|trivial|(show _=_;rfl)|((with_reducible refine And.intro ?_ ?_)<;>first|omega|trivial|(show _=_;rfl)))|fail
 all_goals (refine Qb (hQ _ (by omega)) ?_;simp [Tm.isI,Tm.kd,Tm.no, *])
theorem qL (t:Tm) (d:D) (hd:t.Is d):wU 129 [.dg 9 d] t.atm:=fun N Q hQ=>by
 cases t with
 | mk k nm ot n ty re l=>
 obtain ⟨t0,t1,r0,r1,a,es,c,rfl,hh,hlen,hes⟩:=Tm.is_mk.1 hd
 exact zFe N _ Q fun _=>⟨_,rfl,Br.beq (fun h N1 hN1=>Qb (hQ _ (by omega)) (by simp [Tm.atm,Tm.kd,h])) fun h2=>⟨_,rfl,Br.beq (fun h N1 hN1=>Qb (hQ _ (by omega)) (by simp [Tm.atm,Tm.kd,h])) fun h3=>⟨_,rfl,fun N3 hN3=>Qb (hQ _ (by omega)) (by simp only [Tm.atm,Tm.kd,show (k==2)=false by simpa using h2,show (k==3)=false by simpa using h3,Bool.false_or])⟩⟩⟩
mutual
/-- calls -/
def Tm.apc:Tm→Nat
 | .mk k _ _ _ _ _ l=>(if k=7 then 1 else 0)+pD l
def pD:List Tm→Nat
 | []=>0
 | t::ts=>t.apc+pD ts
end
mutual
theorem zIY:∀ t:Tm,t.qui=decide (t.apc=0)∧t.apc≤t.cnt
 | .mk k nm ot n ty re l=>by
   obtain ⟨h1,h2⟩:=zD4 l
   refine ⟨?_,by simp only [Tm.apc,Tm.cnt];split<;>omega⟩
   simp only [Tm.qui,Tm.apc,h1]
   by_cases hk:k=7
   ·subst hk;simp
   ·simp [hk]
theorem zD4:∀ l:List Tm,zB1 l=decide (pD l=0)∧pD l≤zX l
 | []=>⟨rfl,Nat.le_refl _⟩
 | t::ts=>by
   obtain ⟨h1,h2⟩:=zIY t
   obtain ⟨h3,h4⟩:=zD4 ts
   refine ⟨?_,by simp only [pD,zX];omega⟩
   simp only [zB1,pD,h1,h3]
   rw [Bool.eq_iff_iff]
   simp
end
theorem zOC:∀ (t:Tm) (d:D),t.Is d→t.cnt≤1073741824→zAa 163 [.dg 9 d,.fn 164 []] t.apc:=by
 refine Tm.ind fun k nm ot n ty re l ih d hd hc N Q hQ=>?_
 obtain ⟨t0,t1,r0,r1,a,es,c,rfl,hh,hlen,hes⟩:=Tm.is_mk.1 hd
 simp only [Tm.cnt] at hc
 have hq1:wU 164 [.dg 9 (.ag [.lit (.int .i64 k),.lit (.string nm),.lit (.string ot),.lit (.int .i64 n),t0,t1,r0,r1,.sl a 9 es c])] (k==7):=fun N Q hQ=>by
  refine zAn N _ Q fun _=>?_
  repeat' first|with_reducible intro _|simp only[Y1,Y2,Y3,Y4]|(with_reducible first|refine X1 ?_ ?_|refine X2 ?_ ?_|refine X3 ?_ ?_|refine X4 ?_ ?_|refine X5 ?_ ?_|refine X6 ?_ ?_|refine X7 ?_ ?_|refine X8 ?_ ?_|refine X9 ?_ ?_)|refine⟨_,_,_,rfl,?_⟩|refine⟨_,rfl,?_⟩|((with_reducible refine And.intro ?_ ?_);·first|omega|trivial|(show _=_;rfl)|((with_reducible refine And.intro ?_ ?_)<;>first|omega|trivial|(show _=_;rfl)))|fail
  exact hQ _ (by omega)
 have key:=up hes hlen (fun i xs=>∀ (m:Int) (N':Nat),N≤N'→0≤m→m≤4000000000→zX xs≤1073741824→m+zX xs≤4000000000→(∀ N'',N'≤N''→Q (m+pD xs) N'')→wY Q N m a es c es.length i N') ?_ ?_
 ·refine zB8 N _ Q fun _ N1 hN1=>hq1 N1 _ fun N2 hN2 _ N3 hN3=>zN0 _ N3 _ fun N4 hN4 _=>⟨_,_,_,rfl,?_⟩
  have hbi:=zBj (k==7)
  refine key _ N4 (by omega) hbi.1 (by omega) (by omega) (by omega) fun N'' hN''=>Qi (hQ _ (by omega)) ?_
  simp only [Tm.apc]
  by_cases hk:k=7
  ·subst hk;simp [bI]
  ·rw [if_neg hk,show (k==7)=false by simpa using hk];simp [bI]
 ·intro i hlt _ m N' hN' h0 h1 h2 h3 hQ'
  refine rW _ _ _ _ _ _ _ _ _ ?_
  repeat' first|with_reducible intro _|simp only[hlt,Y1,Y2,Y3,Y4]|(with_reducible first|refine X1 ?_ ?_|refine X2 ?_ ?_|refine X3 ?_ ?_|refine X4 ?_ ?_|refine X5 ?_ ?_|refine X6 ?_ ?_|refine X7 ?_ ?_|refine X8 ?_ ?_|refine X9 ?_ ?_)|refine⟨_,_,_,rfl,?_⟩|refine⟨_,rfl,?_⟩|((with_reducible refine And.intro ?_ ?_);·first|omega|trivial|(show _=_;rfl)|((with_reducible refine And.intro ?_ ?_)<;>first|omega|trivial|(show _=_;rfl)))|fail
  exact Qi (hQ' _ (by omega)) (by simp [pD])
 ·intro i x xs hat _ ih2 m N' hN' h0 h1 h2 h3 hQ'
  have hb:=hat.b
  have hx:=(zIY x).2
  have hxm:=yy hat.m
  simp only [zX] at h2 h3
  refine rW _ _ _ _ _ _ _ _ _ ?_
  have hw:IntKind.i64.wrap (m+(x.apc:Int))=m+x.apc:=i64_in _ (by omega)
  repeat' first|with_reducible intro _|simp only[hat.lt,hat.w,Int.toNat_natCast,hw,Y1,Y2,Y3,Y4]|(with_reducible first|refine X1 ?_ ?_|refine X2 ?_ ?_|refine X3 ?_ ?_|refine X4 ?_ ?_|refine X5 ?_ ?_|refine X6 ?_ ?_|refine X7 ?_ ?_|refine X8 ?_ ?_|refine X9 ?_ ?_)|refine⟨_,_,_,rfl,?_⟩|refine⟨_,rfl,?_⟩|((with_reducible refine And.intro ?_ ?_);·first|omega|trivial|(show _=_;rfl)|((with_reducible refine And.intro ?_ ?_)<;>first|omega|trivial|(show _=_;rfl)))|refine (ih x hat.m _ hat.r (by omega)) _ _ ?_|fail
  refine ih2 _ _ (by omega) (by omega) (by omega) (by omega) (by omega) fun N'' h=>Qi (hQ' N'' (by omega)) ?_
  simp only [pD];omega
theorem zDH (t:Tm) (d:D) (hd:t.Is d) (hc:t.cnt≤1073741824):wU 130 [.dg 9 d] t.qui:=fun N Q hQ=>by
 refine zDD N _ Q fun _=>?_
 repeat' first|with_reducible intro _|simp only[Y1,Y2,Y3,Y4]|(with_reducible first|refine X1 ?_ ?_|refine X2 ?_ ?_|refine X3 ?_ ?_|refine X4 ?_ ?_|refine X5 ?_ ?_|refine X6 ?_ ?_|refine X7 ?_ ?_|refine X8 ?_ ?_|refine X9 ?_ ?_)|refine⟨_,_,_,rfl,?_⟩|refine⟨_,rfl,?_⟩|((with_reducible refine And.intro ?_ ?_);·first|omega|trivial|(show _=_;rfl)|((with_reducible refine And.intro ?_ ?_)<;>first|omega|trivial|(show _=_;rfl)))|refine (zOC t d hd hc) _ _ ?_|fail
 refine Qb (hQ _ (by omega)) ?_
 rw [(zIY t).1,Bool.eq_iff_iff]
 simp
/-- a call that hands back some term and some number -/
def zDN (f:FuncId) (args:List PV):Prop:=∀ (N:Nat) (Q:QT [.ag 9,.int .i64]),(∀ d n N',N≤N'→(∃ t:Tm,t.Is d)→Q d n N')→ACalls prog f [.ag 9,.int .i64] args N Q
theorem zEJ {e:Tm} {d:D} (he:e.Is d) (hw:e.wk):wU 53 [.dg 9 d] (zKe e.kd):=fun N Q hQ=>by
 cases e with
 | mk k nm ot n0 ty re l=>
 obtain ⟨t0,t1,r0,r1,a,es,c,rfl,hh,hlen,hes⟩:=Tm.is_mk.1 he
 have hk:=hw.1.lt
 refine zBA N _ Q fun _=>⟨_,rfl,?_⟩
 refine Br.beq (fun h2 N1 hN1=>Qb (hQ _ hN1) (by simp [zKe,Tm.kd,h2])) fun h2=>?_
 refine Br.beq (fun h3 N1 hN1=>Qb (hQ _ hN1) (by simp [zKe,Tm.kd,h3])) fun h3=>?_
 refine Br.beq (fun h6 N1 hN1=>Qb (hQ _ hN1) (by simp [zKe,Tm.kd,h6])) fun h6=>?_
 refine Br.beq (fun h9 N1 hN1=>Qb (hQ _ hN1) (by simp [zKe,Tm.kd,h9])) fun h9=>?_
 exact Br.beq (fun h10=>absurd h10 (by omega)) fun h10 N1 hN1=>Qb (hQ _ hN1) (by simp [zKe,Tm.kd,h2,h3,h6,h9])
theorem zFs {k n0:Int} {nm ot:ByteArray} {ty re:Ty} {l:List Tm} {d:D} (h:(Tm.mk k nm ot n0 ty re l).Is d) (hG:(Tm.mk k nm ot n0 ty re l).G) (hS:∀ y∈l,∀ dy,y.Is dy→zDN 36 [.dg 9 dy]) {i:Nat} (hi:i<l.length) :
  zDN 101 [.dg 9 d,.int .i64 (i:Int)]:=fun N Q hQ=>by
 obtain ⟨t0,t1,r0,r1,a,es,c,rfl,hh,hlen,hes⟩:=Tm.is_mk.1 h
 have hl:=hes.len
 refine zG5 N _ _ Q fun _=>⟨_,_,_,rfl,⟨by omega,by omega⟩,fun N1 hN1=>?_⟩
 rw [Int.toNat_natCast]
 refine hS _ (zT hi) _ (zP hes hi) N1 _ fun dx nx N2 hN2 hx _ _=>Br.beq (fun h0 N3 hN3=>hQ _ _ _ (by omega) ⟨_,h⟩) fun h0 N4 hN4=>?_
 obtain ⟨tx,hx⟩:=hx
 exact zLq h hG hx hi N4 _ fun d' N5 hN5 hd' _ _ N6 hN6=>hQ _ _ _ (by omega) ⟨_,hd'⟩
/-- an operation -/
theorem zJP {n0:Int} {nm ot:ByteArray} {ty re:Ty} {l:List Tm} {d:D} (hd:(Tm.mk 4 nm ot n0 ty re l).Is d) (hW:(Tm.mk 4 nm ot n0 ty re l).W) (hS:∀ y∈l,∀ dy,y.Is dy→zDN 36 [.dg 9 dy])
  (N:Nat) (Q:QT [.ag 9,.int .i64]) (hQ:∀ d n N',N≤N'→(∃ t:Tm,t.Is d)→((∀ x∈l,zKe x.kd=true)→((Tm.mk 4 nm ot n0 ty re l).opr l).1.Is d∧n=((Tm.mk 4 nm ot n0 ty re l).opr l).2)→Q d n N') :
  ACalls prog 66 [.ag 9,.int .i64] [.dg 9 d] N Q:=by
 have hd0:=hd
 obtain ⟨t0,t1,r0,r1,a,es,c,rfl,hh,hlen,hes⟩:=Tm.is_mk.1 hd
 have hl:=hes.len
 have hl2:l.length≤2:=by
  have h1:=hW.k.1.ar.2.2.2.2.2 rfl
  have h2:=zIO nm
  omega
 have first:zq Q N (zm nm) 2 2 0 (.ag [.lit (.int .i64 4),.lit (.string nm),.lit (.string ot),.lit (.int .i64 n0),t0,t1,r0,r1,.sl a 9 es c]) 0 (bytes []) (bytes []) 0 0 none [] 0 0 none [] 0 none [] 0 [.lit (.int .i64 0),.lit (.int .i64 0)] 2 N:=by
  refine up hes hlen (fun i xs=>∀ N',N≤N'→zq Q N (zm nm) 2 2 i (.ag [.lit (.int .i64 4),.lit (.string nm),.lit (.string ot),.lit (.int .i64 n0),t0,t1,r0,r1,.sl a 9 es c]) 0 (bytes []) (bytes []) 0 0 none [] 0 0 none [] 0 none [] 0 [.lit (.int .i64 0),.lit (.int .i64 0)] 2 N') ?_ ?_ N (Nat.le_refl _)
  ·intro i hlt hi N' hN'
   refine rS _ _ _ _ _ _ _ _ _ _ _ _ _ _ _ _ _ _ _ _ _ _ _ _ _ ⟨_,_,_,rfl,?_⟩
   rw [hlt]
   exact zMB hd0 hes hlen hl2 (fun d N' h1 h2=>hQ d _ N' h1 ⟨_,h2⟩ fun _=>⟨h2,rfl⟩) N' hN'
  ·intro i x xs hat hxs ih2 N' hN'
   have hb:=hat.b
   have hil:i<l.length:=(List.getElem?_eq_some_iff.1 hat.g).1
   have hwx:=(hW.mem _ hat.m).k
   refine rS _ _ _ _ _ _ _ _ _ _ _ _ _ _ _ _ _ _ _ _ _ _ _ _ _ ⟨_,_,_,rfl,?_⟩
   rw [hat.lt,Int.toNat_natCast,hat.w]
   refine ⟨_,_,_,rfl,⟨by omega,by omega⟩,fun N1 hN1=>zEJ hat.r hwx N1 _ fun N2 hN2 _=>Br.not (fun hv N3 hN3=>?_) fun hv=>ih2 _ (by omega)⟩
   exact zFs hd0 hW.z.g hS hil N3 _ fun dx nx N4 hN4 hx _ _ N5 hN5=>hQ _ _ _ (by omega) hx fun hall=>absurd (hall x hat.m) (by rw [hv];decide)
 refine zGV N _ Q fun _=>⟨_,rfl,Br.str (fun e1=>?_) fun e1=>⟨_,rfl,Br.str (fun e2=>?_) fun e2=>⟨_,rfl,Br.str (fun e3=>?_) fun e3=>?_⟩⟩⟩
 ·have:zm nm=3:=by simp [zm,wa,e1]
  rw [this] at first;exact first
 ·have:zm nm=3:=by simp [zm,wa,e2]
  rw [this] at first;exact first
 ·have:zm nm=3:=by simp [zm,wa,e3]
  rw [this] at first;exact first
 ·have:zm nm=2:=by simp [zm,wa,e1,e2,e3]
  rw [this] at first;exact first
theorem zLr {n0:Int} {nm ot:ByteArray} {ty re:Ty} {l:List Tm} {d:D} (hd:(Tm.mk 7 nm ot n0 ty re l).Is d) (hW:(Tm.mk 7 nm ot n0 ty re l).W) (hS:∀ y∈l,∀ dy,y.Is dy→zDN 36 [.dg 9 dy]) :
  zDN 67 [.dg 9 d]:=fun N Q hQ=>by
 have hd0:=hd
 obtain ⟨t0,t1,r0,r1,a,es,c,rfl,hh,hlen,hes⟩:=Tm.is_mk.1 hd
 have hl:=hes.len
 have hl2:=hW.k.1.ar.2.2.1 (.inl rfl)
 have e2:(es.length:Int)=2:=by omega
 refine zF6 N _ Q fun _=>⟨_,_,_,rfl,⟨by omega,by omega⟩,?_⟩
 refine up hes hlen (fun i xs=>∀ N',N≤N' →
  wB Q N i (.ag [.lit (.int .i64 7),.lit (.string nm),.lit (.string ot),.lit (.int .i64 n0),t0,t1,r0,r1,.sl a 9 es c]) 0 (bytes []) (bytes []) 0 0 none [] 0 0 none [] 0 none [] 0 (List.getD es 0 default) N') ?_ ?_ N (Nat.le_refl _)
 ·intro i hlt hi N' hN'
  refine sS _ _ _ _ _ _ _ _ _ _ _ _ _ _ _ _ _ _ _ _ _ ?_
  rw [←e2,hlt]
  have hp0:=zP hes (j:=0) (by omega)
  have hq0:=zP hes (j:=1) (by omega)
  have hFp:=hW.mem _ (zT (l:=l) (i:=0) (by omega))
  have hFq:=hW.mem _ (zT (l:=l) (i:=1) (by omega))
  generalize l.getD 0 tm0=p at hp0 hFp
  generalize l.getD 1 tm0=q at hq0 hFq
  have hp1:=hp0
  cases p with
  | mk pk pn po pm pt pr pl=>
  obtain ⟨u0,u1,v0,v1,a2,es2,c2,heq,hh2,hlen2,hes2⟩:=Tm.is_mk.1 hp0
  have hl3:=hes2.len
  rw [heq] at hp1 ⊢
  have one:(pk=6∨pk=9)→pl.length=1:=hFp.k.1.ar.2.1
  have hF1:pl.length=1→(pl.getD 0 tm0).W:=fun h=>hFp.mem _ (zT (l:=pl) (i:=0) (by omega))
  refine ⟨_,rfl,Br.beq (fun h6=>?_) fun h6=>Br.beq (fun h9=>?_) fun h9 N14 hN14=>hQ _ _ _ (by omega) ⟨_,hd0⟩⟩
  ·have h1:=one (.inl h6)
   refine ⟨_,_,_,rfl,⟨by omega,by omega⟩,_,rfl,_,_,_,rfl,⟨by omega,by omega⟩,fun N6 hN6=>?_⟩
   exact si (zP hes2 (j:=0) (by omega)) hq0 pn (hF1 h1).z hFq.z N6 _ fun dx N7 hN7 hx _ _ _ N8 hN8=>hQ _ _ _ (by omega) ⟨_,hx⟩
  ·have h1:=one (.inr h9)
   refine ⟨_,_,_,rfl,⟨by omega,by omega⟩,_,rfl,_,rfl,_,_,_,rfl,⟨by omega,by omega⟩,fun N9 hN9=>?_⟩
   refine si (zP hes2 (j:=0) (by omega)) hp1 pn (hF1 h1).z hFp.z N9 _ fun dx N10 hN10 hx _ _ _ N11 hN11=>?_
   exact si hx hq0 po (zP6 (hF1 h1) hFp) hFq.z N11 _ fun dy N12 hN12 hy _ _ _ N13 hN13=>hQ _ _ _ (by omega) ⟨_,hy⟩
 ·intro i x xs hat hxs ih2 N' hN'
  have hb:=hat.b
  have hil:i<l.length:=(List.getElem?_eq_some_iff.1 hat.g).1
  have hwx:=(hW.mem _ hat.m).k
  have hlt:=hat.lt
  rw [e2] at hlt
  refine sS _ _ _ _ _ _ _ _ _ _ _ _ _ _ _ _ _ _ _ _ _ ?_
  rw [hlt,Int.toNat_natCast,hat.w]
  refine ⟨_,_,_,rfl,⟨by omega,by omega⟩,fun N1 hN1=>zEJ hat.r hwx N1 _ fun N2 hN2 _=>Br.not (fun hv N3 hN3=>?_) fun hv=>ih2 _ (by omega)⟩
  exact zFs hd0 hW.z.g hS hil N3 _ fun dx nx N4 hN4 hx _ _ N5 hN5=>hQ _ _ _ (by omega) hx
theorem zLi {k n0:Int} {nm ot:ByteArray} {ty re:Ty} {l:List Tm} {d:D} (hk:k=5∨k=8) (hd:(Tm.mk k nm ot n0 ty re l).Is d) (hW:(Tm.mk k nm ot n0 ty re l).W) (hS:∀ y∈l,∀ dy,y.Is dy→zDN 36 [.dg 9 dy]) :
  zDN 70 [.dg 9 d]:=fun N Q hQ=>by
 have hd0:=hd
 obtain ⟨t0,t1,r0,r1,a,es,c,rfl,hh,hlen,hes⟩:=Tm.is_mk.1 hd
 have hl:=hes.len
 obtain ⟨_,_,a2,a3,_⟩:=hW.k.1.ar
 have hl1:0<l.length:=by
  rcases hk with h | h
  ·have:=a3 h;omega
  ·have:=a2 (.inr h);omega
 have hp0:=zP hes hl1
 have hFp:=hW.mem _ (zT hl1)
 refine zFp N _ Q fun _=>⟨_,_,_,rfl,⟨by omega,by omega⟩,fun N1 hN1=>zEJ hp0 hFp.k N1 _ fun N2 hN2 _=>Br.not (fun hv N3 hN3=>?_) fun hv=>?_⟩
 ·exact zFs hd0 hW.z.g hS hl1 N3 _ fun dx nx N4 hN4 hx _ _ N5 hN5=>hQ _ _ _ (by omega) hx
 generalize hpp:l.getD 0 tm0=p at hp0 hFp hv
 have hp1:=hp0
 cases p with
 | mk pk pn po pm pt pr pl=>
 obtain ⟨u0,u1,v0,v1,a2',es2,c2,heq,hh2,hlen2,hes2⟩:=Tm.is_mk.1 hp0
 rw [heq] at hp1 ⊢
 rcases hk with rfl | rfl
 ·have hl5:=a3 rfl
  refine ⟨_,rfl,Br.beq (fun _=>⟨_,rfl,Br.beq (fun h3=>?_) fun h3=>?_⟩) (fun h=>absurd rfl h)⟩
  ·have hn:=hFp.k.1.b h3
   have hw:IntKind.i64.wrap (2 - pm)=2 - pm:=i64_in _ (by omega)
   refine ⟨_,_,_,rfl,_,rfl,?_⟩
   rw [hw]
   refine ⟨⟨by omega,by omega⟩,fun N6 hN6=>?_⟩
   refine zAS vJ (zP hes (j:=(2 - pm).toNat) (by omega)) (xZ hW.z.g.2.2.2 (zT (by omega))) (N0:=N) (by omega) (fun d N=>Q d 2 N) fun d' N7 hN7 hd' _=>hQ _ _ _ (by omega) ⟨_,hd'⟩
  ·repeat' first | refine ⟨_,rfl,?_⟩ | refine Br.beq (fun h=>absurd h (by decide)) fun _=>?_
   all_goals exact fun N hN=>hQ _ _ _ (by omega) ⟨_,hd0⟩
 ·have hl8:=a2 (.inr rfl)
  have hFq:=hW.mem _ (zT (l:=l) (i:=1) (by omega))
  have hq0:=zP hes (j:=1) (by omega)
  repeat' first | refine ⟨_,rfl,?_⟩ | refine Br.beq (fun h=>absurd h (by decide)) fun _=>?_ | refine Br.beq (fun _=>?_) (fun h=>absurd rfl h)
  all_goals
   refine ⟨_,_,_,rfl,⟨by omega,by omega⟩,_,rfl,fun N6 hN6=>?_⟩
   exact si hq0 hp1 nm hFq.z hFp.z N6 _ fun dx N7 hN7 hx _ _ _ N8 hN8=>hQ _ _ _ (by omega) ⟨_,hx⟩
theorem zKS:∀ (e:Tm) (d:D),e.Is d→e.W→zDN 36 [.dg 9 d]:=by
 refine Tm.ind fun k nm ot n0 ty re l ih d hd hW N Q hQ=>?_
 have hd0:=hd
 have hk:=hW.k.1.lt
 have hS:∀ y∈l,∀ dy,y.Is dy→zDN 36 [.dg 9 dy]:=fun y hy dy h=>ih y hy dy h (hW.mem y hy)
 have c4:=fun (h:k=4)=>zJP (n0:=n0) (nm:=nm) (ot:=ot) (ty:=ty) (re:=re) (l:=l) (d:=d) (by subst h;exact hd0) (by subst h;exact hW) hS
 have c7:=fun (h:k=7)=>zLr (n0:=n0) (nm:=nm) (ot:=ot) (ty:=ty) (re:=re) (l:=l) (d:=d) (by subst h;exact hd0) (by subst h;exact hW) hS
 have c5:=fun (h:k=5∨k=8)=>zLi h hd0 hW hS
 have fin:∀ N',N≤N'→Q d 0 N':=fun N' h=>hQ _ _ _ h ⟨_,hd0⟩
 have hres:=zEJ hd0 hW.k
 obtain ⟨t0,t1,r0,r1,a,es,c,rfl,hh,hlen,hes⟩:=Tm.is_mk.1 hd
 refine zC2 N _ Q fun _ N1 hN1=>hres N1 _ fun N2 hN2 _=>Br.of (fun hv N3 hN3=>fin _ (by omega)) fun hv=>⟨_,rfl,?_⟩
 refine Br.beq (fun h4 N4 hN4=>?_) fun h4=>Br.beq (fun h7 N4 hN4=>?_) fun h7=>Br.beq (fun h10=>absurd h10 (by omega)) fun h10=>Br.beq (fun h5 N4 hN4=>?_) fun h5=>Br.beq (fun h8 N4 hN4=>?_) fun h8=>Br.beq (fun h12=>absurd h12 (by omega)) fun h12=>Br.beq (fun h13=>absurd h13 (by omega)) fun h13 N4 hN4=>fin _ (by omega)
 ·exact c4 h4 N4 _ fun x n N5 hN5 hx _ _ _ N6 hN6=>hQ _ _ _ (by omega) hx
 ·exact c7 h7 N4 _ fun x n N5 hN5 hx _ _ N6 hN6=>hQ _ _ _ (by omega) hx
 ·exact c5 (.inl h5) N4 _ fun x n N5 hN5 hx _ _ N6 hN6=>hQ _ _ _ (by omega) hx
 ·exact c5 (.inr h8) N4 _ fun x n N5 hN5 hx _ _ N6 hN6=>hQ _ _ _ (by omega) hx
end Go.Proofs.YtnpjpplbkoammaaGreatDoor
