/- BigStep: what it comes to (no program in sight). -/
import Derived.Test.YtnpjpplbkoammaaGreatDoorYd
import Derived.Test.YtnpjpplbkoammaaGreatDoorKh
import Derived.Test.YtnpjpplbkoammaaGreatDoorWc
set_option linter.unusedVariables false
set_option linter.unusedSimpArgs false
namespace Go.Proofs.YtnpjpplbkoammaaGreatDoor
open Go Go.Proofs Go.Proofs.Tryz Go.IntWalk
/-- parts evaluated one behind the other -/
def zEW (S:Tm→Nat→Option (Tm × Nat)):List Tm→Nat→Option (List Tm × Nat)
 | [],s=>some ([],s)
 | t :: ts,s=>match S t s with
   | none=>none
   | some (t',s1)=>match zEW S ts s1 with
     | none=>none
     | some (ts',s2)=>some (t'::ts',s2)
/-- a rule's term is counted -/
def zDf (x:Tm) (s:Nat):Option (Tm × Nat):=if s=0∨400<x.sz then none else some (x,s - 1)
mutual
/-- the splices of level 1 evaluated -/
def Tm.codE (S:Tm→Nat→Option (Tm × Nat)):Tm→Int→Nat→Option (Tm × Nat)
 | .mk k nm ot n ty re l,m,s=>if k=11∧m=1 then
    match S (l.getD 0 tm0) s with
    | none=>none
    | some (x,s1)=>if x.kd=10 then zDf (x.pt 0) s1 else none
   else match yX S l (zS k m) s with
    | none=>none
    | some (l',s1)=>some (.mk k nm ot n ty re l',s1)
def yX (S:Tm→Nat→Option (Tm × Nat)):List Tm→Int→Nat→Option (List Tm × Nat)
 | [],_,s=>some ([],s)
 | t :: ts,m,s=>match t.codE S m s with
   | none=>none
   | some (t',s1)=>match yX S ts m s1 with
     | none=>none
     | some (ts',s2)=>some (t'::ts',s2)
end
/-- how many parts the reference evaluates -/
def yY (k:Int) (n:Nat):Nat:=if k=4∨k=7 then n else 1
def evT:Nat→Tm→Nat→Option (Tm × Nat)
 | 0,_,_=>none
 | f+1,.mk k nm ot n ty re l,s=>if (Tm.mk k nm ot n ty re l).res then some (.mk k nm ot n ty re l,s) else
   if k=10 then match (l.getD 0 tm0).codE (evT f) 1 s with
    | none=>none
    | some (b,s1)=>if (Tm.nod 10 [b]).res then some (Tm.nod 10 [b],s1) else none
   else match zEW (evT f) (l.take (yY k l.length)) s with
    | none=>none
    | some (l1,s1)=>if (Tm.mk k nm ot n ty re (l1++l.drop (yY k l.length))).apl.2=0 then none else
      match zDf (Tm.mk k nm ot n ty re (l1++l.drop (yY k l.length))).apl.1 s1 with
      | none=>none
      | some (x,s2)=>evT f x s2
/-- what comes back: a term, a result, of a size -/
structure EvOk (e:Tm) (s:Nat) (v:Tm) (s1:Nat):Prop where
 o:v.ok=true
 r:v.res=true
 l:s1≤s
 z:v.sz+400*s1≤e.sz+400*s
theorem vg {x y:Tm} {s s1:Nat} (h:zDf x s=some (y,s1)):y=x∧s1+1=s∧x.sz≤400:=by
 unfold zDf at h
 split at h
 ·cases h
 ·injection h with h
  injection h with h1 h2
  exact ⟨h1.symm,by omega,by omega⟩
theorem zIn {e:Tm} (h:e.res=true) (hk:e.kd=10):(e.pt 0).made 1=true:=by
 unfold Tm.res at h
 rw [hk] at h
 simp [zIX] at h
 exact h.2
theorem zMf {e:Tm} (h:e.ok=true) (hk:e.kd=10∨e.kd=11∨e.kd=12∨e.kd=13):(e.pt 0).ok=true∧e.as.length=1:=by
 cases e with
 | mk k nm ot n ty re l=>
 have hk:k=10∨k=11∨k=12∨k=13:=hk
 have:=(yv h).1 (by omega)
 exact ⟨zPS h (by simp only [Tm.as];omega),this⟩
theorem ql {b:Tm} (h:b.ok=true):(Tm.nod 10 [b]).ok=true:=Tm.ok_mk.2 ⟨by simpa using h,by decide +kernel,rfl⟩
theorem zCJ {S:Tm→Nat→Option (Tm × Nat)} {f:Nat} (hS:∀ (e:Tm) (s:Nat) (v:Tm) (s1:Nat),e.dp≤f→S e s=some (v,s1)→e.ok=true→EvOk e s v s1) :
  ∀ (t:Tm),t.dp≤f+1→t.ok=true→∀ (m:Int) (s:Nat) (v:Tm) (s1:Nat),t.codE S m s=some (v,s1)→v.ok=true∧v.made m=true∧s1≤s∧v.sz+400*s1≤t.sz+400*s:=by
 refine Tm.ind fun k nm ot n ty re l ih hd ho m s v s1 h=>?_
 obtain ⟨h1,h2,h3⟩:=Tm.ok_mk.1 ho
 simp only [Tm.codE] at h
 split at h
 ·rename_i hk
  have hl:=(yv ho).1 (by omega)
  have hm:=zG (l:=l) (i:=0) (by omega)
  have hdm:=Tm.dp_mem (k:=k) (nm:=nm) (ot:=ot) (n:=n) (ty:=ty) (re:=re) hm
  have hsm:=Tm.sz_mem (k:=k) (nm:=nm) (ot:=ot) (n:=n) (ty:=ty) (re:=re) hm
  cases hg:S (l.getD 0 tm0) s with
  | none=>rw [hg] at h;cases h
  | some p=>
    obtain ⟨x,s2⟩:=p
    rw [hg] at h
    simp only at h
    split at h
    ·rename_i hx
     obtain ⟨rfl,e2,e3⟩:=vg h
     have ev:=hS _ _ _ _ (by omega) hg (h1 _ hm)
     have:=ev.l
     have:=ev.z
     refine ⟨(zMf ev.o (.inl hx)).1,hk.2 ▸ zIn ev.r hx,by omega,by omega⟩
    ·cases h
 ·rename_i hk
  have key:∀ (xs:List Tm),(∀ x∈xs,x∈l)→∀ (s:Nat) (l':List Tm) (s1:Nat),yX S xs (zS k m) s=some (l',s1)→l'.length=xs.length∧(∀ x∈l',x.ok=true)∧yr l' (zS k m)=true∧s1≤s∧zH l'+400*s1≤zH xs+400*s:=by
   intro xs
   induction xs with
   | nil=>
     intro _ s l' s1 h
     simp only [yX,Option.some.injEq,Prod.mk.injEq] at h
     obtain ⟨rfl,rfl⟩:=h
     simp [yr]
   | cons x xs ihx=>
     intro hm s l' s1 h
     simp only [yX] at h
     have hx:=hm x (by simp)
     have hdm:=Tm.dp_mem (k:=k) (nm:=nm) (ot:=ot) (n:=n) (ty:=ty) (re:=re) hx
     cases hg:x.codE S (zS k m) s with
     | none=>rw [hg] at h;cases h
     | some p=>
       obtain ⟨x',s2⟩:=p
       rw [hg] at h
       simp only at h
       cases hg2:yX S xs (zS k m) s2 with
       | none=>rw [hg2] at h;cases h
       | some p=>
         obtain ⟨xs',s3⟩:=p
         rw [hg2] at h
         injection h with h
         injection h with e1 e2
         subst e1 e2
         obtain ⟨a1,a2,a3,a4⟩:=ih x hx (by omega) (h1 x hx) _ _ _ _ hg
         obtain ⟨b1,b2,b3,b4,b5⟩:=ihx (fun y hy=>hm y (by simp [hy])) _ _ _ hg2
         refine ⟨by simp [b1],?_,by simp only [yr,a2,b3,Bool.and_self],by omega,by simp only [zH];omega⟩
         intro y hy
         rcases List.mem_cons.1 hy with rfl | hy
         ·exact a1
         ·exact b2 y hy
  cases hg:yX S l (zS k m) s with
  | none=>rw [hg] at h;cases h
  | some p=>
    obtain ⟨l',s2⟩:=p
    rw [hg] at h
    injection h with h
    injection h with e1 e2
    subst e1 e2
    obtain ⟨b1,b2,b3,b4,b5⟩:=key l (fun x hx=>hx) _ _ _ hg
    refine ⟨Tm.ok_mk.2 ⟨b2,h2,by rw [b1];exact h3⟩,?_,b4,by simp only [Tm.sz];omega⟩
    simp only [Tm.made,b3,Bool.and_true]
    by_cases h11:k=11
    ·have:¬m=1:=fun hm=>hk ⟨h11,hm⟩
     simp [h11,this]
    ·simp [h11]
theorem zKr {S:Tm→Nat→Option (Tm × Nat)} {f:Nat} (hS:∀ (e:Tm) (s:Nat) (v:Tm) (s1:Nat),e.dp≤f→S e s=some (v,s1)→e.ok=true→EvOk e s v s1) :
  ∀ (l:List Tm),(∀ x∈l,x.dp≤f∧x.ok=true)→∀ (s:Nat) (l':List Tm) (s1:Nat),zEW S l s=some (l',s1)→l'.length=l.length∧(∀ x∈l',x.ok=true∧x.res=true)∧s1≤s∧zH l'+400*s1≤zH l+400*s
 | [],_,s,l',s1,h=>by
   simp only [zEW,Option.some.injEq,Prod.mk.injEq] at h
   obtain ⟨rfl,rfl⟩:=h
   simp
 | x :: xs,hm,s,l',s1,h=>by
   simp only [zEW] at h
   obtain ⟨hx1,hx2⟩:=hm x (by simp)
   cases hg:S x s with
   | none=>rw [hg] at h;cases h
   | some p=>
     obtain ⟨x',s2⟩:=p
     rw [hg] at h
     simp only at h
     cases hg2:zEW S xs s2 with
     | none=>rw [hg2] at h;cases h
     | some p=>
       obtain ⟨xs',s3⟩:=p
       rw [hg2] at h
       injection h with h
       injection h with e1 e2
       subst e1 e2
       have ev:=hS _ _ _ _ hx1 hg hx2
       have:=ev.l
       have:=ev.z
       obtain ⟨b1,b2,b3,b4⟩:=zKr hS xs (fun y hy=>hm y (by simp [hy])) _ _ _ hg2
       refine ⟨by simp [b1],?_,by omega,by simp only [zH];omega⟩
       intro y hy
       rcases List.mem_cons.1 hy with rfl | hy
       ·exact ⟨ev.o,ev.r⟩
       ·exact b2 y hy
theorem xH:∀ (a b:List Tm),zH (a++b)=zH a+zH b
 | [],b=>by simp [zH]
 | x::a,b=>by simp only [List.cons_append,zH,xH a b];omega
theorem Tm.dp_sz:∀ t:Tm,t.dp≤t.sz:=by
 refine Tm.ind fun k nm ot n ty re l ih=>?_
 simp only [Tm.dp,Tm.sz]
 have:w5 l≤zH l:=wH.2 fun x hx=>Nat.le_trans (ih x hx) (xQ hx)
 omega
theorem zMd {k:Int} {nm ot:ByteArray} {n:Int} {ty re:Ty} {l l1:List Tm} {j:Nat} (h:(Tm.mk k nm ot n ty re l).ok=true) (hl:l1.length=(l.take j).length) (h1:∀ x∈l1,x.ok=true) :
  (Tm.mk k nm ot n ty re (l1++l.drop j)).ok=true:=by
 obtain ⟨g1,g2,g3⟩:=Tm.ok_mk.1 h
 refine Tm.ok_mk.2 ⟨fun x hx=>?_,g2,?_⟩
 ·rcases List.mem_append.1 hx with hx | hx
  ·exact h1 x hx
  ·exact g1 x (List.mem_of_mem_drop hx)
 ·rw [←g3]
  have:=congrArg List.length (List.take_append_drop j l)
  simp only [List.length_append] at this ⊢
  rw [hl];exact_mod_cast this
theorem uq:∀ (f:Nat) (e:Tm) (s:Nat) (v:Tm) (s1:Nat),evT f e s=some (v,s1)→e.ok=true→EvOk e s v s1
 | 0,e,s,v,s1,h,_=>by cases h
 | f + 1, .mk k nm ot n ty re l,s,v,s1,h,ho=>by
   have ih:=uq f
   obtain ⟨h1,h2,h3⟩:=Tm.ok_mk.1 ho
   simp only [evT] at h
   split at h
   ·rename_i hr
    injection h with h
    injection h with e1 e2
    subst e1 e2
    exact ⟨ho,hr,Nat.le_refl _,Nat.le_refl _⟩
   ·split at h
    ·rename_i hk
     have hl:=(yv ho).1 (by omega)
     have hm:=zG (l:=l) (i:=0) (by omega)
     have hsm:=Tm.sz_mem (k:=k) (nm:=nm) (ot:=ot) (n:=n) (ty:=ty) (re:=re) hm
     cases hg:(l.getD 0 tm0).codE (evT f) 1 s with
     | none=>rw [hg] at h;cases h
     | some p=>
       obtain ⟨b,s2⟩:=p
       rw [hg] at h
       simp only at h
       split at h
       ·rename_i hr
        injection h with h
        injection h with e1 e2
        subst e1 e2
        obtain ⟨a1,a2,a3,a4⟩:=zCJ (f:=(l.getD 0 tm0).dp) (fun e s v s1 _=>ih e s v s1) _ (by omega) (h1 _ hm) _ _ _ _ hg
        exact ⟨ql a1,hr,a3,by simp only [Tm.nod,Tm.sz,zH] at hsm ⊢;omega⟩
       ·cases h
    ·cases hg:zEW (evT f) (l.take (yY k l.length)) s with
     | none=>rw [hg] at h;cases h
     | some p=>
       obtain ⟨l1,s2⟩:=p
       rw [hg] at h
       simp only at h
       split at h
       ·cases h
       ·obtain ⟨b1,b2,b3,b4⟩:=zKr (f:=w5 l) (fun e s v s1 _=>ih e s v s1) _ (fun x hx=>⟨wH.1 (Nat.le_refl _) x (List.mem_of_mem_take hx),h1 x (List.mem_of_mem_take hx)⟩) _ _ _ hg
        have ho2:=zMd ho b1 fun x hx=>(b2 x hx).1
        generalize Tm.mk k nm ot n ty re (l1++l.drop (yY k l.length))=out at h ho2
        cases hc:zDf out.apl.1 s2 with
        | none=>rw [hc] at h;cases h
        | some p=>
          obtain ⟨x,s3⟩:=p
          rw [hc] at h
          obtain ⟨rfl,e2,e3⟩:=vg hc
          have ev:=ih _ _ _ _ h (zMV ho2 e3)
          have:=ev.l
          have:=ev.z
          have h5:1+zH l=(Tm.mk k nm ot n ty re l).sz:=rfl
          have h6:=xH (l.take (yY k l.length)) (l.drop (yY k l.length))
          rw [List.take_append_drop] at h6
          exact ⟨ev.o,ev.r,by omega,by omega⟩
mutual
/-- the first splice of level 1 -/
def Tm.fs:Tm→Int→Option Tm
 | .mk k nm ot n ty re l,m=>if k=11∧m=1 then some (.mk k nm ot n ty re l) else wU l (zS k m)
def wU:List Tm→Int→Option Tm
 | [],_=>none
 | t::ts,m=>match t.fs m with
   | some p=>some p
   | none=>wU ts m
end
mutual
/-- another term in its place -/
def Tm.rpl:Tm→Int→Tm→Tm
 | .mk k nm ot n ty re l,m,x=>if k=11∧m=1 then x else .mk k nm ot n ty re (xJ l (zS k m) x)
def xJ:List Tm→Int→Tm→List Tm
 | [],_,_=>[]
 | t::ts,m,x=>match t.fs m with
   | some _=>t.rpl m x::ts
   | none=>t::xJ ts m x
end
theorem zKj:∀ (t:Tm) (m:Int),t.fs m=none↔t.made m=true:=by
 refine Tm.ind fun k nm ot n ty re l ih m=>?_
 simp only [Tm.fs,Tm.made]
 have key:∀ xs:List Tm,(∀ x∈xs,x∈l)→∀ m,wU xs m=none↔yr xs m=true:=by
  intro xs
  induction xs with
  | nil=>intro _ m;simp [wU,yr]
  | cons x xs ihx=>
    intro hm m
    have h1:=ih x (hm x (by simp)) m
    have h2:=ihx (fun y hy=>hm y (by simp [hy])) m
    simp only [wU,yr,Bool.and_eq_true]
    cases hf:x.fs m with
    | none=>rw [hf] at h1;simp only [h2,h1.1 rfl,true_and]
    | some p=>
      rw [hf] at h1
      have:¬x.made m=true:=fun h=>by have:=h1.2 h;cases this
      simp [this]
 split
 ·rename_i h;simp [h]
 ·rename_i h
  rw [key l (fun x hx=>hx)]
  have:(k==11&&m==1)=false:=by
   by_cases h11:k=11
   ·have:¬m=1:=fun hm=>h ⟨h11,hm⟩
    simp [h11,this]
   ·simp [h11]
  simp [this]
theorem sP {S:Tm→Nat→Option (Tm × Nat)}:∀ (t:Tm) (m:Int) (s:Nat),t.made m=true→t.codE S m s=some (t,s):=by
 refine Tm.ind fun k nm ot n ty re l ih m s h=>?_
 simp only [Tm.made,Bool.and_eq_true,Bool.not_eq_true'] at h
 have key:∀ xs:List Tm,(∀ x∈xs,x∈l)→∀ m s,yr xs m=true→yX S xs m s=some (xs,s):=by
  intro xs
  induction xs with
  | nil=>intro _ m s _;rfl
  | cons x xs ihx=>
    intro hm m s h
    simp only [yr,Bool.and_eq_true] at h
    simp only [yX]
    rw [ih x (hm x (by simp)) m s h.1]
    simp only
    rw [ihx (fun y hy=>hm y (by simp [hy])) m s h.2]
 simp only [Tm.codE]
 rw [if_neg (fun hk=>by simp [hk] at h),key l (fun x hx=>hx) _ _ h.2]
/-- what the first splice is -/
theorem zQB:∀ (t:Tm) (m:Int) (p:Tm),t.fs m=some p→p.kd=11:=by
 refine Tm.ind fun k nm ot n ty re l ih m p h=>?_
 simp only [Tm.fs] at h
 have key:∀ xs:List Tm,(∀ x∈xs,x∈l)→∀ m,wU xs m=some p→p.kd=11:=by
  intro xs
  induction xs with
  | nil=>intro _ m h;cases h
  | cons x xs ihx=>
    intro hm m h
    simp only [wU] at h
    cases hf:x.fs m with
    | none=>rw [hf] at h;exact ihx (fun y hy=>hm y (by simp [hy])) m h
    | some q=>rw [hf] at h;cases h;exact ih x (hm x (by simp)) m _ hf
 split at h
 ·rename_i hk;cases h;exact hk.1
 ·exact key l (fun x hx=>hx) _ h
/-- what holds of a term's parts holds of its first splice -/
theorem zOJ {P:Tm→Prop} (hP:∀ k nm ot n ty re l,P (.mk k nm ot n ty re l)→∀ x∈l,P x):∀ (t:Tm) (m:Int) (p:Tm),t.fs m=some p→P t→P p:=by
 refine Tm.ind fun k nm ot n ty re l ih m p h hp=>?_
 simp only [Tm.fs] at h
 have hl:=hP _ _ _ _ _ _ _ hp
 have key:∀ xs:List Tm,(∀ x∈xs,x∈l)→∀ m,wU xs m=some p→P p:=by
  intro xs
  induction xs with
  | nil=>intro _ m h;cases h
  | cons x xs ihx=>
    intro hm m h
    simp only [wU] at h
    cases hf:x.fs m with
    | none=>rw [hf] at h;exact ihx (fun y hy=>hm y (by simp [hy])) m h
    | some q=>rw [hf] at h;cases h;exact ih x (hm x (by simp)) m _ hf (hl x (hm x (by simp)))
 split at h
 ·cases h;exact hp
 ·exact key l (fun x hx=>hx) _ h
theorem zO0 {t p:Tm} {m:Int} (h:t.fs m=some p) (ho:t.ok=true):p.ok=true:=zOJ (P:=fun t=>t.ok=true) (fun _ _ _ _ _ _ _ h=>(Tm.ok_mk.1 h).1) t m p h ho
theorem zRA {t p:Tm} {m:Int} (h:t.fs m=some p):p.dp≤t.dp:=zOJ (P:=fun x=>x.dp≤t.dp) (fun _ _ _ _ _ _ l h x hx=>by have:=wH.1 (Nat.le_refl (w5 l)) x hx;simp only [Tm.dp] at h;omega) t m p h (Nat.le_refl _)
theorem zLO:∀ (t:Tm) (m:Int) (p x:Tm),t.fs m=some p→(t.rpl m x).sz+p.sz=t.sz+x.sz:=by
 refine Tm.ind fun k nm ot n ty re l ih m p x h=>?_
 simp only [Tm.fs] at h
 have key:∀ xs:List Tm,(∀ x∈xs,x∈l)→∀ m,wU xs m=some p→zH (xJ xs m x)+p.sz=zH xs+x.sz:=by
  intro xs
  induction xs with
  | nil=>intro _ m h;cases h
  | cons y xs ihx=>
    intro hm m h
    simp only [wU] at h
    simp only [xJ]
    cases hf:y.fs m with
    | none=>rw [hf] at h;have:=ihx (fun z hz=>hm z (by simp [hz])) m h;simp only [zH];omega
    | some q=>rw [hf] at h;cases h;have:=ih y (hm y (by simp)) m _ x hf;simp only [zH];omega
 simp only [Tm.rpl]
 split at h
 ·rename_i hk;cases h;rw [if_pos hk];omega
 ·rename_i hk
  rw [if_neg hk]
  have:=key l (fun x hx=>hx) _ h
  simp only [Tm.sz];omega
theorem zPm:∀ (t:Tm) (m:Int) (x:Tm),(t.rpl m x).dp≤t.dp+x.dp:=by
 refine Tm.ind fun k nm ot n ty re l ih m x=>?_
 have key:∀ xs:List Tm,(∀ x∈xs,x∈l)→∀ m,w5 (xJ xs m x)≤w5 xs+x.dp:=by
  intro xs
  induction xs with
  | nil=>intro _ m;simp [xJ,w5]
  | cons y xs ihx=>
    intro hm m
    have a1:=ihx (fun z hz=>hm z (by simp [hz])) m
    have a2:=ih y (hm y (by simp)) m x
    simp only [xJ]
    cases hf:y.fs m with
    | none=>simp only [w5];omega
    | some q=>simp only [w5];omega
 simp only [Tm.rpl]
 split
 ·omega
 ·have:=key l (fun x hx=>hx) (zS k m)
  simp only [Tm.dp];omega
theorem zOT:∀ (t:Tm) (m:Int) (x:Tm),t.ok=true→x.ok=true→(t.rpl m x).ok=true:=by
 refine Tm.ind fun k nm ot n ty re l ih m x ho hx=>?_
 obtain ⟨h1,h2,h3⟩:=Tm.ok_mk.1 ho
 have key:∀ xs:List Tm,(∀ x∈xs,x∈l)→∀ m,(xJ xs m x).length=xs.length∧∀ y∈xJ xs m x,y.ok=true:=by
  intro xs
  induction xs with
  | nil=>intro _ m;simp [xJ]
  | cons y xs ihx=>
    intro hm m
    obtain ⟨a1,a2⟩:=ihx (fun z hz=>hm z (by simp [hz])) m
    simp only [xJ]
    cases hf:y.fs m with
    | none=>
      refine ⟨by simp [a1],fun z hz=>?_⟩
      rcases List.mem_cons.1 hz with rfl | hz
      ·exact h1 _ (hm _ (by simp))
      ·exact a2 z hz
    | some q=>
      refine ⟨by simp,fun z hz=>?_⟩
      rcases List.mem_cons.1 hz with rfl | hz
      ·exact ih y (hm y (by simp)) m x (h1 y (hm y (by simp))) hx
      ·exact h1 z (hm z (by simp [hz]))
 simp only [Tm.rpl]
 split
 ·exact hx
 ·obtain ⟨a1,a2⟩:=key l (fun x hx=>hx) (zS k m)
  exact Tm.ok_mk.2 ⟨a2,h2,by rw [a1];exact h3⟩
/-- the first splice evaluated first -/
theorem zKC {S:Tm→Nat→Option (Tm × Nat)}:∀ (t:Tm) (m:Int) (s:Nat) (p:Tm),t.fs m=some p→(∀ x s1,p.codE S 1 s=some (x,s1)→x.made 1=true) →
  t.codE S m s=match p.codE S 1 s with
   | none=>none
   | some (x,s1)=>(t.rpl m x).codE S m s1:=by
 refine Tm.ind fun k nm ot n ty re l ih m s p h hx=>?_
 have key:∀ xs:List Tm,(∀ x∈xs,x∈l)→∀ m,wU xs m=some p→yX S xs m s=match p.codE S 1 s with
   | none=>none
   | some (x,s1)=>yX S (xJ xs m x) m s1:=by
  intro xs
  induction xs with
  | nil=>intro _ m h;cases h
  | cons y xs ihx=>
    intro hm m h
    simp only [wU] at h
    simp only [xJ,yX]
    cases hf:y.fs m with
    | none=>
      rw [hf] at h
      have hy:=(zKj y m).1 hf
      rw [sP y m s hy]
      simp only
      rw [ihx (fun z hz=>hm z (by simp [hz])) m h]
      cases hp:p.codE S 1 s with
      | none=>rfl
      | some r=>
        obtain ⟨x,s1⟩:=r
        simp only [yX]
        rw [sP y m s1 hy]
    | some q=>
      rw [hf] at h
      cases h
      rw [ih y (hm y (by simp)) m s _ hf hx]
      cases hp:p.codE S 1 s with
      | none=>rfl
      | some r=>
        obtain ⟨x,s1⟩:=r
        simp only [yX]
 simp only [Tm.fs] at h
 split at h
 ·rename_i hk
  cases h
  obtain ⟨rfl,rfl⟩:=hk
  cases hp:(Tm.mk 11 nm ot n ty re l).codE S 1 s with
  | none=>rfl
  | some r=>
    obtain ⟨x,s1⟩:=r
    simp only [Tm.rpl,and_self,if_true]
    rw [sP x 1 s1 (hx x s1 hp)]
 ·rename_i hk
  have e1:∀ (l:List Tm) (s:Nat),(Tm.mk k nm ot n ty re l).codE S m s=match yX S l (zS k m) s with
   | none=>none
   | some (l',s1)=>some (.mk k nm ot n ty re l',s1):=fun l s=>by simp only [Tm.codE];rw [if_neg hk]<;>cases yX S l (zS k m) s<;>rfl
  rw [e1,key l (fun x hx=>hx) _ h]
  cases hp:p.codE S 1 s with
  | none=>rfl
  | some r=>
    obtain ⟨x,s1⟩:=r
    simp only [Tm.rpl]
    rw [if_neg hk,e1]
theorem zJK {S:Tm→Tm × Int}:∀ (t:Tm) (m:Int),t.fs m=none→t.cod S m=(t,0,false):=by
 refine Tm.ind fun k nm ot n ty re l ih m h=>?_
 have key:∀ xs:List Tm,(∀ x∈xs,x∈l)→∀ m,wU xs m=none→zn S xs m=none:=by
  intro xs
  induction xs with
  | nil=>intro _ m _;rfl
  | cons y xs ihx=>
    intro hm m h
    simp only [wU] at h
    simp only [zn]
    cases hf:y.fs m with
    | none=>
      rw [hf] at h
      rw [ih y (hm y (by simp)) m hf]
      simp only [Bool.false_eq_true,if_false]
      rw [ihx (fun z hz=>hm z (by simp [hz])) m h]
    | some r=>rw [hf] at h;cases h
 simp only [Tm.fs] at h
 split at h
 ·cases h
 ·rename_i hk
  simp only [Tm.cod]
  rw [if_neg hk,key l (fun x hx=>hx) _ h]
theorem zGa {q:Tm}:∀ (t:Tm) (m:Int) (p:Tm),t.fs m=some p→(p.pt 0).res=false→t.cod (fun _=>(q,0)) m=(t.rpl m (p.wth 0 q),0,true):=by
 refine Tm.ind fun k nm ot n ty re l ih m p h hr=>?_
 have key:∀ xs:List Tm,(∀ x∈xs,x∈l)→∀ m,wU xs m=some p→zn (fun _=>(q,0)) xs m=some (xJ xs m (p.wth 0 q),0):=by
  intro xs
  induction xs with
  | nil=>intro _ m h;cases h
  | cons y xs ihx=>
    intro hm m h
    simp only [wU] at h
    simp only [xJ,zn]
    cases hf:y.fs m with
    | none=>
      rw [hf] at h
      rw [zJK y m hf]
      simp only [Bool.false_eq_true,if_false]
      rw [ihx (fun z hz=>hm z (by simp [hz])) m h]
    | some r=>
      rw [hf] at h
      cases h
      rw [ih y (hm y (by simp)) m _ hf hr]
      rfl
 simp only [Tm.fs] at h
 simp only [Tm.cod,Tm.rpl]
 split at h
 ·rename_i hk
  cases h
  rw [if_pos hk,if_pos hk]
  unfold zPI
  rw [if_neg (by rw [hr];decide)]
 ·rename_i hk
  rw [if_neg hk,if_neg hk,key l (fun x hx=>hx) _ h]
theorem zHo {S:Tm→Tm × Int}:∀ (t:Tm) (m:Int) (p:Tm),t.fs m=some p→(p.pt 0).res=true→(p.pt 0).kd=10→t.cod S m=(t.rpl m ((p.pt 0).pt 0),6,true):=by
 refine Tm.ind fun k nm ot n ty re l ih m p h hr hkd=>?_
 have key:∀ xs:List Tm,(∀ x∈xs,x∈l)→∀ m,wU xs m=some p→zn S xs m=some (xJ xs m ((p.pt 0).pt 0),6):=by
  intro xs
  induction xs with
  | nil=>intro _ m h;cases h
  | cons y xs ihx=>
    intro hm m h
    simp only [wU] at h
    simp only [xJ,zn]
    cases hf:y.fs m with
    | none=>
      rw [hf] at h
      rw [zJK y m hf]
      simp only [Bool.false_eq_true,if_false]
      rw [ihx (fun z hz=>hm z (by simp [hz])) m h]
    | some r=>
      rw [hf] at h
      cases h
      rw [ih y (hm y (by simp)) m _ hf hr hkd]
      rfl
 simp only [Tm.fs] at h
 simp only [Tm.cod,Tm.rpl]
 split at h
 ·rename_i hk
  cases h
  rw [if_pos hk,if_pos hk]
  unfold zPI
  rw [if_pos hr,if_pos hkd]
 ·rename_i hk
  rw [if_neg hk,if_neg hk,key l (fun x hx=>hx) _ h]
/-- a splice in the place of the first is the first -/
theorem zQD {q:Tm} (hq:q.kd=11):∀ (t:Tm) (m:Int) (p:Tm),t.fs m=some p→(t.rpl m q).fs m=some q∧∀ x,(t.rpl m q).rpl m x=t.rpl m x:=by
 have hq1:q.fs 1=some q∧∀ x,q.rpl 1 x=x:=by
  cases q with
  | mk k nm ot n ty re l=>
  have hq:k=11:=hq
  subst hq
  simp [Tm.fs,Tm.rpl]
 refine Tm.ind fun k nm ot n ty re l ih m p h=>?_
 have key:∀ xs:List Tm,(∀ x∈xs,x∈l)→∀ m,wU xs m=some p→wU (xJ xs m q) m=some q∧∀ x,xJ (xJ xs m q) m x=xJ xs m x:=by
  intro xs
  induction xs with
  | nil=>intro _ m h;cases h
  | cons y xs ihx=>
    intro hm m h
    simp only [wU] at h
    cases hf:y.fs m with
    | none=>
      rw [hf] at h
      obtain ⟨a1,a2⟩:=ihx (fun z hz=>hm z (by simp [hz])) m h
      simp only [xJ,hf,wU,a1,a2,true_and]
      intro x;trivial
    | some r=>
      rw [hf] at h
      cases h
      obtain ⟨a1,a2⟩:=ih y (hm y (by simp)) m _ hf
      simp only [xJ,hf,wU,a1,a2,true_and]
      intro x;trivial
 simp only [Tm.fs] at h
 split at h
 ·rename_i hk
  simp only [Tm.rpl,if_pos hk]
  rw [hk.2]
  exact ⟨hq1.1,hq1.2⟩
 ·rename_i hk
  obtain ⟨a1,a2⟩:=key l (fun x hx=>hx) _ h
  simp only [Tm.rpl,if_neg hk,Tm.fs,a1,a2,true_and]
  intro x;trivial
theorem zGR (k:Int) {l:List Tm} {es:List D} (hes:All2 Tm.Is l es) (hlen:es.length≤1073741824) (hc:∀ x∈l,x.G) (a:Option Addr) (c:Nat) (N:Nat) (Q:QT [.ag 9])
  (hQ:∀ d' N',N≤N'→(Tm.mk k (bytes []) (bytes []) 0 (.mk 0 []) (.mk 0 []) l).Is d'→Own N N' d'→Q d' N') :
  ACalls prog 86 [.ag 9] [.int .i64 k,.sv a 9 es c] N Q:=by
 have hl:=hes.len
 refine qn N _ a es c Q fun _=>?_
 refine up hes (by omega) (fun i xs=>∀ (done:List D) (q N':Nat),N≤N'→All2 Tm.Is (l.take i) done→done.length=i→OwnL N N' done →
  xD Q N a es c i 0 (bytes []) (bytes []) 0 0 none [] 0 0 none [] 0 none [] 0 k (bytes []) (bytes []) 0 0 none [] 0 0 none [] 0 done.length q done q N') ?_ ?_ [] 0 N (Nat.le_refl _) rfl rfl rU
 ·intro i hlt hi done q N' hN' hd hdl ho
  refine wV _ _ _ _ _ _ _ _ _ _ _ _ _ _ _ _ _ _ _ _ _ _ _ _ _ _ _ _ _ _ _ _ _ _ _ _ _ _ ?_
  rw [List.take_of_length_le (by omega)] at hd
  rw [hlt]
  refine ⟨⟨rfl,rfl⟩,⟨rfl,rfl⟩,⟨rfl,rfl⟩,fun a1 N4 hN4 hf N5 hN5=>hQ _ _ (by omega) (Tm.is_mk.2 ⟨_,_,_,_,_,_,_,rfl,⟨by decide,by decide,sF _,sF _⟩,by omega,hd⟩) ?_⟩
  exact zCN (zY (zY (zY (zY (zY (zFt (zY (zFt (xP ((zBd ho hf hN4).mono (Nat.le_refl _) hN5))))))))))
 ·intro i x xs hat _ ih2 done q N' hN' hd hdl ho
  have hb:=hat.b
  have hxc:=hc x hat.m
  refine wV _ _ _ _ _ _ _ _ _ _ _ _ _ _ _ _ _ _ _ _ _ _ _ _ _ _ _ _ _ _ _ _ _ _ _ _ _ _ ?_
  rw [hat.lt]
  refine ⟨⟨by omega,by omega⟩,fun N5 hN5=>?_⟩
  rw [Int.toNat_natCast,hat.w]
  refine w4 x _ hat.r hxc _ _ ?_
  cases x with
  | mk k2 nm2 ot2 n2 ty2 re2 l2=>
    intro x4 x5 x6 x7 es2 c2 N6 hN6 hh2 hes2 ho2 _ _
    have hl2:=hes2.len
    have hlc2:=hxc.2.2.1
    refine ⟨⟨rfl,rfl⟩,fun a2 N7 hN7 hf=>⟨⟨rfl,rfl⟩,by unfold zL;rw [List.length_append];simp only [List.length_cons,List.length_nil];omega,fun c3=>?_⟩⟩
    refine ih2 _ _ _ (by omega) (by rw [yu hat.g];exact hd.snoc (Tm.is_mk.2 ⟨_,_,_,_,_,_,_,rfl,hh2,by omega,hes2⟩)) (by simp [hdl]) ?_
    refine zGg (hd:=[]) (xs:=[x4,x5,x6,x7]) (ho.mono (Nat.le_refl _) hN5) ho2 hf (by omega) (by omega) (by omega) ?_ ?_
    ·intro ad h hc
     have hap:=hf.ap ad h (.ag done) (by simp)
     exact hap (by simpa only [D.foot,List.nil_append] using hc)
    ·intro ad h hc
     have hap:=hf.ap ad h
     simp only [List.cons_append,List.nil_append,zB,List.mem_append] at hc
     rcases hc with hc | hc | hc | hc | hc
     ·exact hap x4 (by simp) hc
     ·exact hap x5 (by simp) hc
     ·exact hap x6 (by simp) hc
     ·exact hap x7 (by simp) hc
     ·exact hap (.ag es2) (by simp) (by simpa only [D.foot] using hc)
theorem zKb {e:Tm} (h:e.ok=true) (hs:e.sz≤1300000):e.F e.dp:=⟨h,Nat.le_refl _,by have:=zKg e h;omega,by have:=Tm.vc_sz e;omega⟩
theorem zPc {e:Tm} (h:e.ok=true) (hs:e.sz≤1300000):e.G:=(zKb h hs).z.g
theorem zMe (e:Tm) (h:e.sz≤1300000):e.apl.1.sz≤2300000000000000000:=by
 have big:∀ (t b:Tm) (x:ByteArray) (m:Nat),t.sz≤m→b.sz≤1300000→(t.sb x b).sz≤m*1300001:=fun t b x m h1 h2=>
  Nat.le_trans (zLl _ t x b) (Nat.mul_le_mul h1 (by omega))
 cases e with
 | mk k nm ot n ty re l=>
 have g:∀ i,(l.getD i tm0).sz≤1300000:=fun i=>Nat.le_trans (zPP (e:=.mk k nm ot n ty re l)) h
 have gp:∀ i j,((l.getD i tm0).pt j).sz≤1300000:=fun i j=>Nat.le_trans zPP (g i)
 have g0:=g 0
 have g1:=g 1
 have gp0:=gp 0 0
 simp only [Tm.apl,Tm.opr]
 have k1:=big ((l.getD 0 tm0).pt 0) (l.getD 1 tm0) (l.getD 0 tm0).nm 1300000 gp0 g1
 have k2:=big ((l.getD 0 tm0).pt 0) (l.getD 0 tm0) (l.getD 0 tm0).nm 1300000 gp0 g0
 have k3:=big _ (l.getD 1 tm0) (l.getD 0 tm0).ot _ k2 g1
 have k4:=big (l.getD 1 tm0) (l.getD 0 tm0) nm 1300000 g1 g0
 have k5:=g (2 - (l.getD 0 tm0).no).toNat
 (repeat' split)<;>first | (simp only;omega) | (simp only [zMl,Tm.nod,Tm.sz,zH];omega)
theorem zLe {S:Tm→Tm × Int} {e:Tm}:∀ (xs:List Tm) (i:Nat),(∀ x∈xs,x.res=true)→goS S e xs i=none
 | [],i,_=>rfl
 | x::xs,i,h=>by rw [qj (h x (by simp))];exact zLe xs (i+1) fun y hy=>h y (by simp [hy])
/-- a step of a form whose parts are results -/
theorem zPO {k:Int} {nm ot:ByteArray} {n:Int} {ty re:Ty} {l:List Tm} {f:Nat} (hr:¬(Tm.mk k nm ot n ty re l).res=true) (hk:¬k=10) (h:∀ x∈l.take (wA k l.length),x.res=true) :
  (Tm.mk k nm ot n ty re l).stp (f+1)=(Tm.mk k nm ot n ty re l).apl:=by
 simp only [Tm.stp]
 rw [if_neg hr,if_neg (show ¬(Tm.mk k nm ot n ty re l).kd=10 from hk),zLe _ _ h]
/-- how an evaluation ends, as the caller finds it -/
def EvP (o:Option (Tm × Nat)) (F:Nat) (d:D) (fu st:Int) (b:Bool):Prop:=match o with
 | none=>b=true
 | some (v,s1)=>b=false∧fu=F∧st=F - s1∧v.Is d
def CoP (o:Option (Tm × Nat)) (F:Nat) (d:D) (fu st:Int) (b:Bool):Prop:=match o with
 | none=>b=true∧∃ v:Tm,v.Is d∧v.G
 | some (v,s1)=>b=false∧fu=F∧st=F - s1∧v.Is d
def EvC (fn:FuncId) (f F:Nat):Prop:=∀ (e:Tm) (d:D) (s:Nat),e.Is d→e.ok=true→e.sz+400*s≤1300000→e.dp+401*s≤f→s≤F→∀ (N:Nat) (Q:QT [.ag 9,.int .i64,.int .i64,.bool]),
 (∀ d' fu st b N',N≤N'→EvP (evT f e s) F d' fu st b→Q d' fu st b N')→BCalls prog fn [.ag 9,.int .i64,.int .i64,.bool] [.pb 0 0 0 0,.dg 9 d] [.var [.int .i64 F,.int .i64 ((F:Int) - s),.bool false]] N Q
theorem zLP (d:D) (m x y:Int) (N:Nat) (Q:QT [.ag 9,.int .i64,.int .i64,.bool]) (hQ:∀ N',N≤N'→Q d x y true N'):BCalls prog 87 [.ag 9,.int .i64,.int .i64,.bool] [.pb 0 0 0 0,.dg 9 d,.int .i64 m] [.var [.int .i64 x,.int .i64 y,.bool true]] N Q:=
 uo N d m x y true Q fun E _=>⟨sA,fun N1 h=>hQ _ h⟩
theorem zAf (d:D) (x y:Int) (N:Nat) (Q:QT [.ag 9,.int .i64,.int .i64,.bool]) (hQ:∀ N',N≤N'→Q d x y true N'):BCalls prog 88 [.ag 9,.int .i64,.int .i64,.bool] [.pb 0 0 0 0,.dg 9 d] [.var [.int .i64 x,.int .i64 y,.bool true]] N Q:=
 uW N d x y true Q fun E _=>⟨sA,fun N1 h=>hQ _ h⟩
/-- a rule is counted -/
theorem zOA {x:Tm} {d:D} (hd:x.Is d) (hs:x.sz≤9223372036854775807) {F s:Nat} (hF:F≤200) (hsF:s≤F) (N:Nat) (Q:QT [.ag 9,.int .i64,.int .i64,.bool])
  (hQ:∀ st b N',N≤N'→(match zDf x s with | none=>b=true | some (_,s1)=>b=false∧st=(F:Int) - s1)→Q d F st b N') :
  BCalls prog 114 [.ag 9,.int .i64,.int .i64,.bool] [.pb 0 0 0 0,.dg 9 d] [.var [.int .i64 F,.int .i64 ((F:Int) - s),.bool false]] N Q:=by
 unfold zDf at hQ
 refine zAQ N d F _ false Q fun E _=>?_
 rw [i64_in _ (by omega)]
 refine Br.dec (fun h=>⟨sA,fun N1 h1=>hQ _ _ _ h1 ?_⟩) fun h N1 hN1=>zJv x d hd hs N1 _ fun N2 hN2 _=>⟨sA,fun N3 hN3=>hQ _ _ _ (by omega) ?_⟩
 ·rw [if_pos (.inl (by omega))]
 ·by_cases h4:400<x.sz
  ·rw [if_pos (.inr h4)];exact decide_eq_true (by omega)
  ·rw [if_neg (by omega)];exact ⟨decide_eq_false (by omega),by omega⟩
/-- a rule is applied to a form whose parts are results -/
theorem zBc {f F:Nat} (hF:F≤200) (hE:EvC 55 f F) {k n:Int} {nm ot:ByteArray} {ty re:Ty} {l:List Tm} {d:D} {s:Nat} (hd:(Tm.mk k nm ot n ty re l).Is d) (ho:(Tm.mk k nm ot n ty re l).ok=true)
  (hs:(Tm.mk k nm ot n ty re l).sz+400*s≤1300000) (hr:¬(Tm.mk k nm ot n ty re l).res=true) (hk:¬k=10) (hl:∀ x∈l.take (wA k l.length),x.res=true) (hf:401*s≤f) (hsF:s≤F) (N:Nat) (Q:QT [.ag 9,.int .i64,.int .i64,.bool])
  (hQ : ∀ d' fu st b N',N≤N'→EvP (if (Tm.mk k nm ot n ty re l).apl.2=0 then none else match zDf (Tm.mk k nm ot n ty re l).apl.1 s with
      | none=>none
      | some (x,s2)=>evT f x s2) F d' fu st b→Q d' fu st b N') :
  BCalls prog 88 [.ag 9,.int .i64,.int .i64,.bool] [.pb 0 0 0 0,.dg 9 d] [.var [.int .i64 F,.int .i64 ((F:Int) - s),.bool false]] N Q:=by
 have hb:=zMe _ (show (Tm.mk k nm ot n ty re l).sz≤1300000 by omega)
 have ha:=zMV ho
 have hst:=zPO (f:=(Tm.mk k nm ot n ty re l).dp - 1) hr hk hl
 have hdp:=Tm.dp_pos (Tm.mk k nm ot n ty re l)
 rw [show (Tm.mk k nm ot n ty re l).dp - 1+1=(Tm.mk k nm ot n ty re l).dp by omega] at hst
 refine uW N d F _ false Q fun E _=>?_
 rw [vL]
 intro N2 hN2
 refine zGr _ _ _ hd (zKb ho (by omega)) N2 _ fun dx N3 hN3 hx _ _=>?_
 rw [hst] at hx ⊢
 generalize (Tm.mk k nm ot n ty re l).apl=r at hx hQ hb ha
 refine Br.beq (fun h0=>⟨sA,fun N4 hN4=>hQ _ _ _ _ _ (by omega) (by rw [if_pos h0];rfl)⟩) fun h0 N5 hN5=>?_
 rw [if_neg h0] at hQ
 refine zOA hx (by omega) hF hsF N5 _ fun st b N6 hN6 hc _ _=>?_
 cases hce:zDf r.1 s with
 | none=>
   rw [hce] at hc hQ
   refine Br.of (fun _=>⟨sA,fun N7 hN7=>hQ _ _ _ _ _ (by omega) hc⟩) fun h=>absurd hc (by rw [h];simp)
 | some p=>
   obtain ⟨y,s2⟩:=p
   rw [hce] at hc hQ
   obtain ⟨e1,e2,e3⟩:=vg hce
   obtain ⟨c1,c2⟩:=hc
   subst c1 c2 e1
   have hdy:=Tm.dp_sz r.1
   refine Br.of (fun h=>by cases h) fun _ N8 hN8=>hE r.1 dx s2 hx (ha e3) (by omega) (by omega) (by omega) N8 _ fun d' fu st b N9 hN9 hp _ _=>⟨sA,fun N10 hN10=>hQ _ _ _ _ _ (by omega) hp⟩
theorem zIa {α:Type} (a:List α) (x:α) (b:List α) (v:α):(a++x::b).set a.length v=(a++[v])++b:=by
 rw [List.set_append_right _ _ (Nat.le_refl _)];simp
/-- the rest of a part, once the evaluation has failed -/
theorem zNU {k n0:Int} {nm ot:ByteArray} {ty re:Ty} {l:List Tm} {t0 t1 r0 r1:D} {a:Option Addr} {es:List D} {c:Nat} (hG:(Tm.mk k nm ot n0 ty re l).G) (hlen:es.length≤4611686018427387904) (hes:All2 Tm.Is l es)
  {m:Int} (hm:LvIn m (Tm.mk k nm ot n0 ty re l).dp) {y4 y5 y6 y7:D} (hH:Tm.Hd nm ot ty re y4 y5 y6 y7) (E:Env) (Q:QT [.ag 9,.int .i64,.int .i64,.bool]) (N:Nat) (fu st:Int)
  (hQ:∀ d' N',N≤N'→(∃ v:Tm,v.Is d'∧v.G)→Q d' fu st true N') :
  ∀ (j i:Nat) (ys:List Tm) (r:List D) (q N':Nat),N≤N'→i+j=l.length→All2 Tm.Is ys r→ys.length=l.length→(∀ y∈ys,y.G) →
    zk E Q N m i fu st true (.ag [.lit (.int .i64 k),.lit (.string nm),.lit (.string ot),.lit (.int .i64 n0),t0,t1,r0,r1,.sl a 9 es c]) 0 (bytes []) (bytes []) 0 0 none [] 0 0 none [] 0 none [] 0 k nm ot n0 y4 y5 y6 y7 r.length q r q N':=by
 have hl:=hes.len
 have hll:=hG.2.2.1
 intro j
 induction j with
 | zero=>
   intro i ys r q N' hN' hi hA hy hg
   have hrl:=hA.len
   refine xM _ _ _ _ _ _ _ _ _ _ _ _ _ _ _ _ _ _ _ _ _ _ _ _ _ _ _ _ _ _ _ _ _ _ _ _ _ ⟨_,_,_,rfl,Br.dec (fun h=>by omega) fun _=>⟨⟨rfl,rfl⟩,⟨rfl,rfl⟩,⟨rfl,rfl⟩,fun a2 N5 hN5 hf=>⟨sA,fun N6 hN6=>hQ _ _ (by omega) ⟨.mk k nm ot n0 ty re ys,Tm.is_mk.2 ⟨_,_,_,_,_,_,_,rfl,hH,by omega,hA⟩,?_⟩⟩⟩⟩
   exact ⟨hG.1,hG.2.1,by omega,zM2.2 hg⟩
 | succ j ih=>
   intro i ys r q N' hN' hi hA hy hg
   have hrl:=hA.len
   have hil:i<l.length:=by omega
   refine xM _ _ _ _ _ _ _ _ _ _ _ _ _ _ _ _ _ _ _ _ _ _ _ _ _ _ _ _ _ _ _ _ _ _ _ _ _ ⟨_,_,_,rfl,Br.dec (fun _=>⟨_,_,_,rfl,⟨by omega,by omega⟩,fun N1 hN1=>qx hm.b N1 _ fun N2 hN2 _ N3 hN3=>?_⟩) fun h=>absurd (by omega) h⟩
   rw [Int.toNat_natCast]
   refine zLP _ _ _ _ N3 _ fun N4 hN4 _ _=>⟨⟨by omega,by omega,by omega⟩,by omega,?_⟩
   rw [i64_in _ (by omega),Nat.zero_add]
   have hm:=zG hil
   have:=ih (i+1) (ys.set i (l.getD i tm0)) (r.set i (es.getD i default)) q N4 (by omega) (by omega) (xO hA (zZ hes hil)) (by simpa using hy) (fun y hy2=>by
    rcases List.mem_or_eq_of_mem_set hy2 with h | rfl
    ·exact hg y h
    ·exact yU hG.2.2.2 hm)
   simpa using this
theorem zD3 {f F:Nat} (hF:F≤200) (hE:EvC 55 f F):∀ (t:Tm) (d:D) (m:Int) (s:Nat),t.Is d→t.ok=true→LvIn m t.dp→t.sz+400*s≤1300000→t.dp+401*s≤f+1→s≤F→∀ (N:Nat) (Q:QT [.ag 9,.int .i64,.int .i64,.bool]),
  (∀ d' fu st b N',N≤N'→CoP (t.codE (evT f) m s) F d' fu st b→Q d' fu st b N')→BCalls prog 87 [.ag 9,.int .i64,.int .i64,.bool] [.pb 0 0 0 0,.dg 9 d,.int .i64 m] [.var [.int .i64 F,.int .i64 ((F:Int) - s),.bool false]] N Q:=by
 refine Tm.ind fun k nm ot n0 ty re l ih d m s hd ho hm hs hf hsF N Q hQ=>?_
 have hd0:=hd
 have hG:=zPc ho (by omega)
 obtain ⟨h1,h2,h3⟩:=Tm.ok_mk.1 ho
 obtain ⟨t0,t1,r0,r1,a,es,c,rfl,hh,hlen,hes⟩:=Tm.is_mk.1 hd
 have hl:=hes.len
 have hll:=hG.2.2.1
 have szl:(Tm.mk k nm ot n0 ty re l).sz=1+zH l:=rfl
 have loop:∀ E:Env,¬(k=11∧m=1)→∀ N9,N≤N9→ACalls prog 35 [.pk,.int .i64,.str,.str,.int .i64,.dc,.dc,.dc,.dc,.row 34 9] [.dg 9 (.ag [.lit (.int .i64 k),.lit (.string nm),.lit (.string ot),.lit (.int .i64 n0),t0,t1,r0,r1,.sl a 9 es c])] N9 (fun n_6 s_ s_1 n_7 x_2 x_3 x_4 x_5 es_2 c_2 N10=>N9≤N10→Bel N10 (D.ag es_2) →
   zk E Q N m 0 F ((F:Int) - s) false (.ag [.lit (.int .i64 k),.lit (.string nm),.lit (.string ot),.lit (.int .i64 n0),t0,t1,r0,r1,.sl a 9 es c]) 0 (bytes []) (bytes []) 0 0 none [] 0 0 none [] 0 none [] 0 n_6 s_ s_1 n_7 x_2 x_3 x_4 x_5 es_2.length c_2 es_2 c_2 N10):=fun E hne N9 hN9=>by
  simp only [Tm.codE] at hQ
  rw [if_neg hne] at hQ
  refine w4 _ _ hd0 hG N9 _ ?_
  intro x4 x5 x6 x7 es' c' N10 hN10 hH hes' _ _ _
  have key:=up hes hlen (fun i xs=>∀ (don:List Tm) (r:List D) (q s' N':Nat),N≤N'→don.length=i→All2 Tm.Is (don++xs) r→(∀ y∈don,y.G)→s'≤s→(∀ d' fu st b N',N≤N'→CoP (match (match yX (evT f) xs (zS k m) s' with
   | none=>none
   | some (xs',s1)=>some (don++xs',s1)) with
   | none=>none
   | some (l',s1)=>some (Tm.mk k nm ot n0 ty re l',s1)) F d' fu st b→Q d' fu st b N') →
   zk E Q N m i F ((F:Int) - s') false (.ag [.lit (.int .i64 k),.lit (.string nm),.lit (.string ot),.lit (.int .i64 n0),t0,t1,r0,r1,.sl a 9 es c]) 0 (bytes []) (bytes []) 0 0 none [] 0 0 none [] 0 none [] 0 k nm ot n0 x4 x5 x6 x7 r.length q r q N') ?_ ?_
  ·exact key [] es' c' s N10 (by omega) rfl hes' (by simp) (Nat.le_refl _) (fun d' fu st b N' hN' hc=>hQ _ _ _ _ _ hN' (by
    cases hx:yX (evT f) l (zS k m) s with
    | none=>rw [hx] at hc;exact hc
    | some p=>rw [hx] at hc;exact hc))
  ·intro i hlt hi don r q s' N' hN' hdl hA hdg hs' hq
   have hrl:=hA.len
   rw [List.append_nil] at hA hrl
   simp only [yX,List.append_nil] at hq
   refine xM _ _ _ _ _ _ _ _ _ _ _ _ _ _ _ _ _ _ _ _ _ _ _ _ _ _ _ _ _ _ _ _ _ _ _ _ _ ⟨_,_,_,rfl,?_⟩
   rw [hlt]
   exact ⟨⟨rfl,rfl⟩,⟨rfl,rfl⟩,⟨rfl,rfl⟩,fun a2 N5 hN5 hf=>⟨sA,fun N6 hN6=>hq _ _ _ _ _ (by omega) ⟨rfl,rfl,rfl,Tm.is_mk.2 ⟨_,_,_,_,_,_,_,rfl,hH,by omega,hA⟩⟩⟩⟩
  ·intro i x xs hat hxs ih2 don r q s' N' hN' hdl hA hdg hs' hq
   have hb:=hat.b
   have hrl:=hA.len
   have hxm:=hat.m
   have hil:i<l.length:=(List.getElem?_eq_some_iff.1 hat.g).1
   have hxl:xs.length=l.length - (i+1):=by rw [←hxs];simp
   have hdm:=Tm.dp_mem (k:=k) (nm:=nm) (ot:=ot) (n:=n0) (ty:=ty) (re:=re) hxm
   have hsm:=Tm.sz_mem (k:=k) (nm:=nm) (ot:=ot) (n:=n0) (ty:=ty) (re:=re) hxm
   simp only [List.length_append,List.length_cons] at hrl
   refine xM _ _ _ _ _ _ _ _ _ _ _ _ _ _ _ _ _ _ _ _ _ _ _ _ _ _ _ _ _ _ _ _ _ _ _ _ _ ⟨_,_,_,rfl,?_⟩
   rw [hat.lt,hat.w,Int.toNat_natCast,Nat.zero_add]
   refine ⟨_,_,_,rfl,⟨by omega,by omega⟩,fun N1 hN1=>qx hm.b N1 _ fun N2 hN2 _ N3 hN3=>?_⟩
   refine ih x hxm _ _ s' hat.r (h1 x hxm) (hm.next (dp_mem hxm)) (by omega) (by omega) (by omega) N3 _ fun dx fu st b N4 hN4 hp _ _=>⟨⟨by omega,by omega,by omega⟩,by omega,?_⟩
   simp only [yX] at hq
   cases hc:x.codE (evT f) (zS k m) s' with
   | none=>
     rw [hc] at hp hq
     obtain ⟨rfl,v,hv,hvG⟩:=hp
     have hA2:=xO (j:=i) hA hv
     have:=zNU (t0:=t0) (t1:=t1) (r0:=r0) (r1:=r1) (a:=a) (c:=c) hG hlen hes hm hH E Q N fu st (fun d' N' h h2=>hq _ _ _ _ _ h ⟨rfl,h2⟩) (l.length - (i+1)) (i+1) _ _ q N4 (by omega) (by omega) hA2 (by simp;omega) (fun y hy=>by
      rcases List.mem_or_eq_of_mem_set hy with h | rfl
      ·rcases List.mem_append.1 h with h | h
       ·exact hdg y h
       ·rcases List.mem_cons.1 h with rfl | h
        ·exact yU hG.2.2.2 hxm
        ·exact yU hG.2.2.2 (List.mem_of_mem_drop (hxs ▸ h))
      ·exact hvG)
     simpa using this
   | some p=>
     obtain ⟨x',s1⟩:=p
     rw [hc] at hp hq
     simp only at hq
     obtain ⟨rfl,rfl,rfl,hx'⟩:=hp
     obtain ⟨o1,o2,o3,o4⟩:=zCJ (f:=x.dp) (fun e s v s1 _=>uq f e s v s1) x (by omega) (h1 x hxm) _ _ _ _ hc
     have hA2:=xO (j:=i) hA hx'
     have e1:=zIa don x xs x'
     rw [hdl] at e1
     rw [e1] at hA2
     have:=ih2 (don++[x']) (r.set i dx) q s1 N4 (by omega) (by simp [hdl]) hA2 (fun y hy=>by
      rcases List.mem_append.1 hy with h | h
      ·exact hdg y h
      ·rw [List.mem_singleton] at h;subst h;exact zPc o1 (by omega)) (by omega) (fun d' fu st b N' hN' hcc=>hq _ _ _ _ _ hN' (by
      cases hx:yX (evT f) xs (zS k m) s1 with
      | none=>rw [hx] at hcc;exact hcc
      | some p=>obtain ⟨l',s2⟩:=p;rw [hx] at hcc;simpa using hcc))
     simpa using this
 refine uo N _ m F _ false Q fun E _=>⟨_,rfl,Br.beq (fun h11=>Br.beq (fun hm1=>?_) fun hm1 N9 hN9=>loop E (fun h=>hm1 h.2) N9 hN9) fun h11 N9 hN9=>loop E (fun h=>h11 h.1) N9 hN9⟩
 have hl1:=(yv ho).1 (by omega)
 have hi0:0<l.length:=by omega
 have hm0:=zG hi0
 have hdm:=Tm.dp_mem (k:=k) (nm:=nm) (ot:=ot) (n:=n0) (ty:=ty) (re:=re) hm0
 have hsm:=Tm.sz_mem (k:=k) (nm:=nm) (ot:=ot) (n:=n0) (ty:=ty) (re:=re) hm0
 simp only [Tm.codE] at hQ
 rw [if_pos ⟨h11,hm1⟩] at hQ
 refine ⟨_,_,_,rfl,⟨by omega,by omega⟩,fun N2 hN2=>hE (l.getD 0 tm0) _ s (zZ hes hi0) (h1 _ hm0) (by omega) (by omega) hsF N2 _ fun dx fu st b N3 hN3 hp _ _=>?_⟩
 cases hev:evT f (l.getD 0 tm0) s with
 | none=>
   rw [hev] at hp hQ
   have hp:b=true:=hp
   subst hp
   exact ⟨sA,fun N4 hN4=>hQ _ _ _ _ _ (by omega) ⟨rfl,_,hd0,hG⟩⟩
 | some p=>
   obtain ⟨x,s1⟩:=p
   rw [hev] at hp hQ
   obtain ⟨rfl,rfl,rfl,hx⟩:=hp
   have ev:=uq f _ _ _ _ hev (h1 _ hm0)
   have ev1:=ev.l
   have ev2:=ev.z
   have ev3:=ev.o
   simp only at hQ
   cases x with
   | mk kx nx ox mx tx rx lx=>
   obtain ⟨u0,u1,v0,v1,a2,es2,c2,rfl,hh2,hlen2,hes2⟩:=Tm.is_mk.1 hx
   have hl2:=hes2.len
   refine ⟨_,rfl,Br.bne (fun h10=>⟨sA,fun N5 hN5=>hQ _ _ _ _ _ (by omega) ?_⟩) fun h10=>?_⟩
   ·rw [if_neg (show ¬(Tm.mk kx nx ox mx tx rx lx).kd=10 from h10)];exact ⟨rfl,_,hd0,hG⟩
   ·rw [if_pos (show (Tm.mk kx nx ox mx tx rx lx).kd=10 from h10)] at hQ
    have hl3:=(yv ev3).1 (by omega)
    have hmx:=zG (l:=lx) (i:=0) (by omega)
    have hsx:=Tm.sz_mem (k:=kx) (nm:=nx) (ot:=ox) (n:=mx) (ty:=tx) (re:=rx) hmx
    have hox:=(Tm.ok_mk.1 ev3).1 _ hmx
    have hpx:=zZ hes2 (j:=0) (by omega)
    refine ⟨_,_,_,rfl,⟨by omega,by omega⟩,fun N6 hN6=>zOA hpx (by omega) hF (by omega) N6 _ fun st b N7 hN7 hc _ _=>⟨sA,fun N8 hN8=>hQ _ _ _ _ _ (by omega) ?_⟩⟩
    show CoP (zDf (lx.getD 0 tm0) s1) F _ F st b
    cases hce:zDf (lx.getD 0 tm0) s1 with
    | none=>rw [hce] at hc;exact ⟨hc,_,hpx,zPc hox (by omega)⟩
    | some p=>
      obtain ⟨y,s2⟩:=p
      obtain ⟨e1,e2,e3⟩:=vg hce
      rw [hce] at hc
      subst e1
      exact ⟨hc.1,rfl,hc.2,hpx⟩
theorem zOv {α:Type} {l:List α} {i n:Nat} (h:l.length≤i):(l.drop i).take n=[]:=by rw [List.drop_of_length_le h];simp
theorem zOR {t:Tm} {d:D} (h:t.Is d):All2 Tm.Is [t] [d]:=⟨d,[],rfl,h,rfl⟩
theorem zIz {α:Type} {l:List α} {i n:Nat} {x:α} (h:l[i]?=some x):(l.drop i).take (n+1)=x::(l.drop (i+1)).take n:=by
 obtain ⟨h1,h2⟩:=List.getElem?_eq_some_iff.1 h
 rw [List.drop_eq_getElem_cons h1,List.take_succ_cons,h2]
theorem qD {F:Nat} (hF:F≤200):∀ f,EvC 55 f F
 | 0=>fun e d s _ _ _ h=>absurd (Tm.dp_pos e) (by omega)
 | f + 1 => fun e d s hd ho hs hf hsF N Q hQ=>by
   have hE:=qD hF f
   have hFF:=zKb ho (by omega)
   have hG:=hFF.z.g
   have hdp:=hFF.dp
   have hd0:=hd
   cases e with
   | mk k nm ot n0 ty re l=>
   obtain ⟨h1,h2,h3⟩:=Tm.ok_mk.1 ho
   obtain ⟨t0,t1,r0,r1,a,es,c,rfl,hh,hlen,hes⟩:=Tm.is_mk.1 hd
   have hl:=hes.len
   have hll:=hG.2.2.1
   have szl:(Tm.mk k nm ot n0 ty re l).sz=1+zH l:=rfl
   simp only [evT] at hQ
   refine zAg N _ F _ false Q fun E _=>?_
   rw [vL]
   intro N2 hN2
   refine zw hd0 ho hdp N2 _ fun N3 hN3 _=>Br.of (fun hr=>⟨sA,fun N4 hN4=>?_⟩) fun hr=>⟨_,rfl,Br.beq (fun h10=>?_) fun h10 N13 hN13=>?_⟩
   ·rw [if_pos hr] at hQ
    exact hQ _ _ _ _ _ (by omega) ⟨rfl,rfl,rfl,hd0⟩
   ·-- a quotation
    rw [if_neg (by rw [hr];decide),if_pos h10] at hQ
    have hl1:=(yv ho).1 (by omega)
    have hi0:0<l.length:=by omega
    have hm0:=zG hi0
    have hdm:=Tm.dp_mem (k:=k) (nm:=nm) (ot:=ot) (n:=n0) (ty:=ty) (re:=re) hm0
    have hsm:=Tm.sz_mem (k:=k) (nm:=nm) (ot:=ot) (n:=n0) (ty:=ty) (re:=re) hm0
    refine ⟨_,_,_,rfl,⟨by omega,by omega⟩,fun N5 hN5=>zD3 hF hE (l.getD 0 tm0) _ 1 s (zZ hes hi0) (h1 _ hm0) (by unfold LvIn;omega) (by omega) (by omega) hsF N5 _ fun dx fu st b N6 hN6 hp _ _=>⟨by simp,fun a1 hap N7 hN7 hb1=>?_⟩⟩
    cases hc:(l.getD 0 tm0).codE (evT f) 1 s with
    | none=>
      rw [hc] at hp hQ
      obtain ⟨rfl,v,hv,hvG⟩:=hp
      refine zGR 10 (zOR hv) (by simp) (by simpa using hvG) a1 1 N7 _ fun dy N8 hN8 hy ho2 _=>⟨zAS hb1 ho2,fun _=>⟨sA,fun N9 hN9=>hQ _ _ _ _ _ (by omega) rfl⟩⟩
    | some p=>
      obtain ⟨bb,s1⟩:=p
      rw [hc] at hp hQ
      obtain ⟨rfl,rfl,rfl,hx⟩:=hp
      obtain ⟨o1,o2,o3,o4⟩:=zCJ (f:=(l.getD 0 tm0).dp) (fun e s v s1 _=>uq f e s v s1) _ (by omega) (h1 _ hm0) _ _ _ _ hc
      have hno:=ql o1
      have hsz:(Tm.nod 10 [bb]).sz=1+(bb.sz+0):=rfl
      refine zGR 10 (zOR hx) (by simp) (by simpa using zPc o1 (by omega)) a1 1 N7 _ fun dy N8 hN8 hy ho2 _=>⟨zAS hb1 ho2,fun _ N9 hN9=>zw hy hno (zKb hno (by omega)).dp N9 _ fun N10 hN10 _=>⟨sA,fun N11 hN11=>hQ _ _ _ _ _ (by omega) ?_⟩⟩
      have hy2:(Tm.nod 10 [bb]).Is dy:=hy
      change EvP (if (Tm.nod 10 [bb]).res=true then some (Tm.nod 10 [bb],s1) else none) F dy F ((F:Int) - s1) (!(Tm.nod 10 [bb]).res)
      by_cases hrr:(Tm.nod 10 [bb]).res=true
      ·rw [if_pos hrr,hrr];exact ⟨rfl,rfl,rfl,hy2⟩
      ·rw [if_neg hrr];simp only [EvP];simpa using hrr
   ·-- another form
    rw [if_neg (by rw [hr];decide),if_neg h10] at hQ
    have hrf:¬(Tm.mk k nm ot n0 ty re l).res=true:=by rw [hr];decide
    refine w4 _ _ hd0 hG N13 _ ?_
    intro x4 x5 x6 x7 es' c' N14 hN14 hH hes' _ _ _
    have bad:∀ (fu st:Int) (n7 n8:Int) (r:List D) (q N':Nat),N≤N'→(∀ d' fu st N',N≤N'→Q d' fu st true N') →
      zh E Q N n7 n8 fu st true (.ag [.lit (.int .i64 k),.lit (.string nm),.lit (.string ot),.lit (.int .i64 n0),t0,t1,r0,r1,.sl a 9 es c]) 0 (bytes []) (bytes []) 0 0 none [] 0 0 none [] 0 none [] 0 k nm ot n0 x4 x5 x6 x7 r.length q r q N':=fun fu st n7 n8 r q N' hN' hq=>
     xL _ _ _ _ _ _ _ _ _ _ _ _ _ _ _ _ _ _ _ _ _ _ _ _ _ _ _ _ _ _ _ _ _ _ _ _ _
      (Br.of (fun _=>⟨_,_,_,rfl,Br.of (fun _=>⟨⟨rfl,rfl⟩,⟨rfl,rfl⟩,fun a2 N3 hN3 _ N4 hN4=>zAf _ _ _ N4 _ fun N5 hN5 _ _=>⟨sA,fun N6 hN6=>hq _ _ _ _ (by omega)⟩⟩)
       fun _=>⟨⟨rfl,rfl⟩,⟨rfl,rfl⟩,fun a2 N3 hN3 _ N4 hN4=>zAf _ _ _ N4 _ fun N5 hN5 _ _=>⟨sA,fun N6 hN6=>hq _ _ _ _ (by omega)⟩⟩⟩)
       fun _=>⟨⟨rfl,rfl⟩,⟨rfl,rfl⟩,fun a2 N3 hN3 _ N4 hN4=>zAf _ _ _ N4 _ fun N5 hN5 _ _=>⟨sA,fun N6 hN6=>hq _ _ _ _ (by omega)⟩⟩)
    have hcl:wA k l.length≤yY k l.length:=by unfold wA yY;(repeat' split)<;>omega
    have fin:∀ (don:List Tm) (xs:List Tm) (a2:Option Addr) (r:List D) (q s' N':Nat),N≤N'→don.length=(l.take (yY k l.length)).length→All2 Tm.Is (don++l.drop (yY k l.length)) r→(∀ y∈don,y.ok=true∧y.res=true)→s'≤s→zH don+400*s'≤zH (l.take (yY k l.length))+400*s →
      (∀ d' fu st b N',N≤N'→EvP (if (Tm.mk k nm ot n0 ty re (don++l.drop (yY k l.length))).apl.2=0 then none else match zDf (Tm.mk k nm ot n0 ty re (don++l.drop (yY k l.length))).apl.1 s' with
       | none=>none
       | some (x,s2)=>evT f x s2) F d' fu st b→Q d' fu st b N') →
      BCalls prog 88 [.ag 9,.int .i64,.int .i64,.bool] [.pb 0 0 0 0,.dg 9 (.ag [.lit (.int .i64 k),.lit (.string nm),.lit (.string ot),.lit (.int .i64 n0),x4,x5,x6,x7,.sl a2 9 r q])] [.var [.int .i64 F,.int .i64 ((F:Int) - s'),.bool false]] N'
       (fun x_1 n_2 n_3 b_1 N5=>N'≤N5→Bel N5 x_1→ud E [.var [.int .i64 0,.int .i64 0,.bool false]]∧∀ N6,N5≤N6→Q x_1 n_2 n_3 b_1 N6):=fun don xs a2 r q s' N' hN' hdl hA hdo hs' hz hq=>by
     have hdpp:=Tm.dp_pos (Tm.mk k nm ot n0 ty re l)
     have hol:=zMd ho hdl fun x hx=>(hdo x hx).1
     have hrl:=hA.len
     have h6:=xH (l.take (yY k l.length)) (l.drop (yY k l.length))
     rw [List.take_append_drop] at h6
     have h7:=xH don (l.drop (yY k l.length))
     have h8:(Tm.mk k nm ot n0 ty re (don++l.drop (yY k l.length))).sz=1+zH (don++l.drop (yY k l.length)):=rfl
     have hlen3:(don++l.drop (yY k l.length)).length=l.length:=by
      rw [List.length_append,hdl,←List.length_append,List.take_append_drop]
     have hrl2:r.length=l.length:=by rw [hrl,hlen3]
     refine zBc hF hE (Tm.is_mk.2 ⟨_,_,_,_,_,_,_,rfl,hH,by omega,hA⟩) hol (by omega) ?_ h10 ?_ (by omega) (by omega) N' _ fun d' fu st b N5 hN5 hp _ _=>⟨sA,fun N6 hN6=>hq _ _ _ _ _ (by omega) hp⟩
     ·intro hc
      apply hrf
      unfold Tm.res at hc ⊢
      simp only [Tm.kd] at hc ⊢
      have:(k==10)=false:=by simpa using h10
      rw [this] at hc ⊢
      simpa using hc
     ·intro x hx
      rw [hlen3] at hx
      have h9:wA k l.length≤don.length∨don.length=l.length:=by
       rw [hdl,List.length_take];omega
      have hx2:x∈don:=by
       rcases h9 with h9 | h9
       ·rw [List.take_append_of_le_length h9] at hx
        exact List.mem_of_mem_take hx
       ·have hlk:l.length≤yY k l.length:=by rw [hdl,List.length_take] at h9;omega
        rw [List.drop_of_length_le hlk,List.append_nil] at hx
        exact List.mem_of_mem_take hx
      exact (hdo x hx2).2
    have key:∀ (j i:Nat) (don:List Tm) (r:List D) (q s' N':Nat),N≤N'→i+j=yY k l.length→i≤l.length→don.length=i→All2 Tm.Is (don++l.drop i) r→(∀ y∈don,y.ok=true∧y.res=true)→s'≤s→zH don+400*s'≤zH (l.take i)+400*s →
      (∀ d' fu st b N',N≤N'→EvP (match zEW (evT f) ((l.drop i).take j) s' with
       | none=>none
       | some (l1,s1)=>if (Tm.mk k nm ot n0 ty re ((don++l1)++l.drop (yY k l.length))).apl.2=0 then none else match zDf (Tm.mk k nm ot n0 ty re ((don++l1)++l.drop (yY k l.length))).apl.1 s1 with
         | none=>none
         | some (x,s2)=>evT f x s2) F d' fu st b→Q d' fu st b N') →
      zh E Q N (yY k l.length:Nat) i F ((F:Int) - s') false (.ag [.lit (.int .i64 k),.lit (.string nm),.lit (.string ot),.lit (.int .i64 n0),t0,t1,r0,r1,.sl a 9 es c]) 0 (bytes []) (bytes []) 0 0 none [] 0 0 none [] 0 none [] 0 k nm ot n0 x4 x5 x6 x7 r.length q r q N':=by
     intro j
     induction j with
     | zero=>
       intro i don r q s' N' hN' hij hil hdl hA hdo hs' hz hq
       simp only [List.take_zero,zEW,List.append_nil] at hq
       have hi:i=yY k l.length:=by omega
       subst hi
       refine xL _ _ _ _ _ _ _ _ _ _ _ _ _ _ _ _ _ _ _ _ _ _ _ _ _ _ _ _ _ _ _ _ _ _ _ _ _ (Br.dec (fun h=>by omega) fun _=>⟨⟨rfl,rfl⟩,⟨rfl,rfl⟩,fun a2 N3 hN3 _ N4 hN4=>fin don [] a2 r q s' N4 (by omega) (by rw [List.length_take];omega) hA hdo hs' hz hq⟩)
     | succ j ih=>
       intro i don r q s' N' hN' hij hil hdl hA hdo hs' hz hq
       have hrl:=hA.len
       simp only [List.length_append,List.length_drop] at hrl
       by_cases hlt:i<l.length
       ·have hgi:=zU hlt
        have hmi:=zG hlt
        rw [zIz hgi] at hq
        simp only [zEW] at hq
        have hdm:=Tm.dp_mem (k:=k) (nm:=nm) (ot:=ot) (n:=n0) (ty:=ty) (re:=re) hmi
        have hsm:=Tm.sz_mem (k:=k) (nm:=nm) (ot:=ot) (n:=n0) (ty:=ty) (re:=re) hmi
        refine xL _ _ _ _ _ _ _ _ _ _ _ _ _ _ _ _ _ _ _ _ _ _ _ _ _ _ _ _ _ _ _ _ _ _ _ _ _ (Br.dec (fun _=>⟨_,_,_,rfl,Br.dec (fun _=>?_) fun h=>absurd (by omega) h⟩) fun h=>absurd (by omega) h)
        rw [Bool.not_false,zAJ,Int.toNat_natCast]
        refine ⟨_,_,_,rfl,⟨by omega,by omega⟩,fun N1 hN1=>hE (l.getD i tm0) _ s' (zZ hes hlt) (h1 _ hmi) (by omega) (by omega) (by omega) N1 _ fun dx fu st b N2 hN2 hp _ _=>⟨⟨by omega,by omega,by omega⟩,by omega,?_⟩⟩
        rw [i64_in _ (by unfold yY at hij;split at hij<;>omega),Nat.zero_add]
        cases hev:evT f (l.getD i tm0) s' with
        | none=>
          rw [hev] at hp hq
          have hp:b=true:=hp
          subst hp
          have:=bad fu st (yY k l.length:Nat) ((i+1:Nat):Int) (r.set i dx) q N2 (by omega) (fun d' fu st N' h=>hq _ _ _ _ _ h rfl)
          simpa using this
        | some p=>
          obtain ⟨x',s1⟩:=p
          rw [hev] at hp hq
          obtain ⟨rfl,rfl,rfl,hx'⟩:=hp
          have ev:=uq f _ _ _ _ hev (h1 _ hmi)
          have ev1:=ev.l
          have ev2:=ev.z
          have hA2:=xO (j:=i) hA hx'
          have hdr:l.drop i=l.getD i tm0::l.drop (i+1):=by
           obtain ⟨g1,g2⟩:=List.getElem?_eq_some_iff.1 hgi
           rw [List.drop_eq_getElem_cons g1,g2]
          have e1:=zIa don (l.getD i tm0) (l.drop (i+1)) x'
          rw [hdl] at e1
          rw [hdr,e1] at hA2
          have hst:zH (l.take (i+1))=zH (l.take i)+(l.getD i tm0).sz:=by
           rw [yu hgi,xH];simp [zH]
          have:=ih (i+1) (don++[x']) (r.set i dx) q s1 N2 (by omega) (by omega) (by omega) (by simp [hdl]) hA2 (fun y hy=>by
           rcases List.mem_append.1 hy with h | h
           ·exact hdo y h
           ·rw [List.mem_singleton] at h;subst h;exact ⟨ev.o,ev.r⟩) (by omega) (by rw [xH,hst];simp only [zH];omega) (fun d' fu st b N' hN' hcc=>hq _ _ _ _ _ hN' (by
           simp only
           cases hx:zEW (evT f) ((l.drop (i+1)).take j) s1 with
           | none=>rw [hx] at hcc;exact hcc
           | some p=>obtain ⟨l',s2⟩:=p;rw [hx] at hcc;simpa using hcc))
          simpa using this
       ·have hi:i=l.length:=by omega
        subst hi
        rw [zOv (Nat.le_refl _)] at hq
        simp only [zEW,List.append_nil] at hq
        have hdr:l.drop (yY k l.length)=[]:=List.drop_of_length_le (by omega)
        have htk:l.take (yY k l.length)=l:=List.take_of_length_le (by omega)
        rw [List.drop_of_length_le (Nat.le_refl _)] at hA
        rw [List.take_of_length_le (Nat.le_refl _)] at hz
        refine xL _ _ _ _ _ _ _ _ _ _ _ _ _ _ _ _ _ _ _ _ _ _ _ _ _ _ _ _ _ _ _ _ _ _ _ _ _ (Br.dec (fun _=>⟨_,_,_,rfl,Br.dec (fun h=>by omega) fun _=>?_⟩) fun h=>absurd (by omega) h)
        exact ⟨⟨rfl,rfl⟩,⟨rfl,rfl⟩,fun a2 N3 hN3 _ N4 hN4=>fin don [] a2 r q s' N4 (by omega) (by rw [htk];exact hdl) (by rw [hdr];exact hA) hdo hs' (by rw [htk];exact hz) hq⟩
    have start:=key (yY k l.length) 0 [] es' c' s N14 (by omega) (by omega) (by omega) rfl hes' (by simp) (Nat.le_refl _) (by simp [zH]) (fun d' fu st b N' hN' hc=>hQ _ _ _ _ _ hN' hc)
    refine ⟨_,rfl,Br.beq (fun h4=>⟨_,_,_,rfl,?_⟩) fun h4=>⟨_,rfl,Br.beq (fun h7=>⟨_,_,_,rfl,?_⟩) fun h7=>?_⟩⟩
    ·have:yY k l.length=es.length:=by unfold yY;rw [if_pos (.inl h4)];exact hl.symm
     rw [this] at start;exact start
    ·have:yY k l.length=es.length:=by unfold yY;rw [if_pos (.inr h7)];exact hl.symm
     rw [this] at start;exact start
    ·have:yY k l.length=1:=by unfold yY;rw [if_neg (by omega)]
     rw [this] at start;exact start
end Go.Proofs.YtnpjpplbkoammaaGreatDoor
