/- Substitution: how deep, how great (no program in sight). -/
import Derived.Test.YtnpjpplbkoammaaGreatDoorXa
import Derived.Test.YtnpjpplbkoammaaGreatDoorXf
import Derived.Test.YtnpjpplbkoammaaGreatDoorKf
set_option linter.unusedVariables false
set_option linter.unusedSimpArgs false
namespace Go.Proofs.YtnpjpplbkoammaaGreatDoor
open Go Go.Proofs Go.Proofs.Tryz Go.IntWalk
mutual
/-- variables have no parts -/
def Tm.V:Tm→Prop
 | .mk k _ _ _ _ _ l=>(k=1→l=[])∧zNb l
def zNb:List Tm→Prop
 | []=>True
 | t::ts=>t.V∧zNb ts
end
theorem uO:∀ {l:List Tm},zNb l↔∀ x∈l,x.V
 | []=>by simp [zNb]
 | t::ts=>by simp only [zNb,uO (l:=ts),List.mem_cons,forall_eq_or_imp]
theorem zBL:∀ {l:List Tm} {n:Nat},zA8 l≤n↔∀ x∈l,x.dp≤n
 | [],n=>by simp [zA8]
 | t::ts,n=>by simp only [zA8,Nat.max_le,zBL (l:=ts),List.mem_cons,forall_eq_or_imp]
theorem Tm.dp_pos (t:Tm):1≤t.dp:=by cases t;simp only [Tm.dp];omega
/-- no greater, no deeper -/
structure LeT (t' t:Tm):Prop where
 c:t'.vc≤t.vc
 d:t'.dp≤t.dp
 v:t.V→t'.V
 g:t.G→t'.G
 s:t'.sz≤t.sz
 n:t'.cnt≤t.cnt
theorem LeT.rfl {t:Tm}:LeT t t:=⟨Nat.le_refl _,Nat.le_refl _,id,id,Nat.le_refl _,Nat.le_refl _⟩
theorem LeT.trans {a b c:Tm} (h:LeT a b) (h':LeT b c):LeT a c:=⟨Nat.le_trans h.c h'.c,Nat.le_trans h.d h'.d,fun hv=>h.v (h'.v hv),fun hv=>h.g (h'.g hv),Nat.le_trans h.s h'.s,Nat.le_trans h.n h'.n⟩
theorem zJO:∀ {l' l:List Tm},l'.length=l.length→(∀ (i:Nat) (t' t:Tm),l'[i]?=some t'→l[i]?=some t→LeT t' t)→wL l'≤wL l∧zA8 l'≤zA8 l∧(zNb l→zNb l')∧(zLt l→zLt l')∧zDj l'≤zDj l∧zX l'≤zX l
 | [],[],_,_=>⟨Nat.le_refl _,Nat.le_refl _,id,id,Nat.le_refl _,Nat.le_refl _⟩
 | [],_::_,h,_=>by simp at h
 | _::_,[],h,_=>by simp at h
 | t'::ts',t::ts,h,hr=>by
   obtain ⟨h1,h2,h3,h4,h5,h6⟩:=zJO (l':=ts') (l:=ts) (by simpa using h) fun i a b ha hb=>hr (i+1) a b (by simpa using ha) (by simpa using hb)
   have h0:=hr 0 t' t (by simp) (by simp)
   have:=h0.c
   have:=h0.d
   have:=h0.s
   have:=h0.n
   refine ⟨by simp only [wL];omega,by simp only [zA8];omega,fun hv=>⟨h0.v hv.1,h3 hv.2⟩,fun hv=>⟨h0.g hv.1,h4 hv.2⟩,by simp only [zDj];omega,by simp only [zX];omega⟩
theorem zFx {l:List Tm} {g:Tm→Tm} {j:Nat} {v t' t:Tm} {i:Nat} (h:((l.map g).set j v)[i]?=some t') (ht:l[i]?=some t):(i=j∧t'=v)∨(i≠j∧t'=g t):=by
 rw [List.getElem?_set] at h
 split at h
 ·rename_i hj
  split at h
  ·exact .inl ⟨hj.symm,(Option.some.inj h).symm⟩
  ·cases h
 ·rename_i hj
  rw [List.getElem?_map,ht] at h
  exact .inr ⟨fun hc=>hj hc.symm,(Option.some.inj h).symm⟩
theorem zCK {k:Int} {nm ot nm' ot':ByteArray} {n:Int} {ty re:Ty} {l l':List Tm} (hk:k≠1) (h:l'.length=l.length) (hr:∀ (i:Nat) (t' t:Tm),l'[i]?=some t'→l[i]?=some t→LeT t' t):LeT (.mk k nm' ot' n ty re l') (.mk k nm ot n ty re l):=by
 obtain ⟨h1,h2,h3,h4,h5,h6⟩:=zJO h hr
 exact ⟨by simp only [Tm.vc,if_neg hk];omega,by simp only [Tm.dp];omega,fun hv=>⟨fun hc=>absurd hc hk,h3 hv.2⟩,fun hv=>⟨hv.1,hv.2.1,h ▸ hv.2.2.1,h4 hv.2.2.2⟩,by simp only [Tm.sz];omega,by simp only [Tm.cnt];omega⟩
theorem zOT {S:Tm→ByteArray→Tm→Tm} (hS:∀ t x y,LeT (S t x (zAQ y)) t) (k:Int) (n:Nat) (fb:List ByteArray) (x old:ByteArray) (s:ByteArray × ByteArray × Tm):LeT (rn1 S k n fb x old s).2.2 s.2.2:=by
 unfold rn1
 split
 ·split
  ·exact hS _ _ _
  ·exact hS _ _ _
 ·exact LeT.rfl
theorem pw {S:Tm→ByteArray→Tm→Tm} (hS:∀ t x y,LeT (S t x (zAQ y)) t) (k:Int) (n:Nat) (fb:List ByteArray) (x:ByteArray):∀ (l:List ByteArray) (s:ByteArray × ByteArray × Tm),LeT (rns S k n fb x l s).2.2 s.2.2
 | [],s=>LeT.rfl
 | old::l,s=>(pw hS k n fb x l _).trans (zOT hS k n fb x old s)
/-- a name put for a name -/
theorem sR:∀ (f:Nat) (t:Tm) (x y:ByteArray),LeT (t.sub f x (zAQ y)) t
 | 0,t,x,y=>by simp only [Tm.sub];exact LeT.rfl
 | f + 1,.mk k nm ot n ty re l,x,y=>by
   have ih:=sR f
   simp only [Tm.sub]
   split
   ·rename_i hk
    split
    ·exact ⟨by simp only [zAQ,Tm.vc,if_pos hk,if_true];exact Nat.le_refl _,by simp only [zAQ,Tm.dp,zA8];omega,fun _=>⟨fun _=>rfl,trivial⟩,fun _=>by simp [zAQ,Tm.G,zLt,Ty.cnt,zG],by simp only [zAQ,Tm.sz,zDj];omega,by have:=Ty.cnt_pos ty;have:=Ty.cnt_pos re;simp only [zAQ,Tm.cnt,zX,Ty.cnt,zG];omega⟩
    ·exact LeT.rfl
   ·rename_i hk
    split
    ·refine zCK hk (by simp) fun i t' t ht' ht=>?_
     rw [List.getElem?_map,ht] at ht'
     cases ht'
     exact ih t x y
    ·rename_i hb
     obtain ⟨g1,g2⟩:=vM hb
     split
     ·refine zCK hk (by simp) fun i t' t ht' ht=>?_
      rcases zFx ht' ht with ⟨h1,h2⟩ | ⟨h1,h2⟩
      ·rw [h1,yV g1] at ht
       rw [h2,←Option.some.inj ht]
       exact LeT.rfl
      ·rw [h2];exact ih t x y
     ·refine zCK hk (by simp) fun i t' t ht' ht=>?_
      rcases zFx ht' ht with ⟨h1,h2⟩ | ⟨h1,h2⟩
      ·rw [h1,yV g1] at ht
       rw [h2,←Option.some.inj ht]
       exact (ih _ x y).trans (pw ih _ _ _ _ _ _)
      ·rw [h2];exact ih t x y
/-- what holds of each node of what is put in -/
theorem zOF:∀ (f:Nat) (t:Tm) (x:ByteArray) (b:Tm),t.G→b.G→(t.sub f x b).G
 | 0,t,x,b,h,_=>by simp only [Tm.sub];exact h
 | f + 1,.mk k nm ot n ty re l,x,b,h,hb=>by
   have ih:=zOF f
   obtain ⟨h1,h2,h3,h4⟩:=h
   have vG:∀ y,(zAQ y).G:=fun y=>by simp [zAQ,Tm.G,zLt,Ty.cnt,zG]
   simp only [Tm.sub]
   split
   ·split
    ·exact hb
    ·exact ⟨h1,h2,h3,h4⟩
   ·split
    ·refine ⟨h1,h2,by simpa using h3,zFP fun y hy=>?_⟩
     obtain ⟨z,hz,rfl⟩:=List.mem_map.1 hy
     exact ih z x b (xZ h4 hz) hb
    ·rename_i hbd
     obtain ⟨g1,g2⟩:=vM hbd
     have hpt:=xZ h4 (List.mem_of_getElem? (yV g1))
     have key:∀ v:Tm,v.G→zLt ((l.map fun t=>Tm.sub f t x b).set (xk k l.length).toNat v):=fun v hv=>zFP fun y hy=>by
      rcases List.mem_or_eq_of_mem_set hy with hy | rfl
      ·obtain ⟨z,hz,rfl⟩:=List.mem_map.1 hy
       exact ih z x b (xZ h4 hz) hb
      ·exact hv
     split
     ·exact ⟨h1,h2,by simpa using h3,key _ hpt⟩
     ·refine ⟨h1,h2,by simpa using h3,key _ (ih _ x b ?_ hb)⟩
      have r1:∀ (old:ByteArray) (s:ByteArray × ByteArray × Tm),s.2.2.G→(rn1 (Tm.sub f) k l.length b.fv x old s).2.2.G:=fun old s hs=>by
       unfold rn1
       split
       ·split
        ·exact ih _ _ _ hs (vG _)
        ·exact ih _ _ _ hs (vG _)
       ·exact hs
      have rs:∀ (ns:List ByteArray) (s:ByteArray × ByteArray × Tm),s.2.2.G→(rns (Tm.sub f) k l.length b.fv x ns s).2.2.G:=by
       intro ns
       induction ns with
       | nil=>exact fun s hs=>hs
       | cons o os ih2=>exact fun s hs=>ih2 _ (r1 o s hs)
      exact rs _ _ hpt
theorem zPH:∀ (f:Nat) (t:Tm) (x:ByteArray) (b:Tm),t.V→b.V→(t.sub f x b).V
 | 0,t,x,b,h,_=>by simp only [Tm.sub];exact h
 | f + 1,.mk k nm ot n ty re l,x,b,h,hb=>by
   have ih:=zPH f
   obtain ⟨h1,h2⟩:=h
   have h2:=uO.1 h2
   simp only [Tm.sub]
   split
   ·split
    ·exact hb
    ·exact ⟨h1,uO.2 h2⟩
   ·rename_i hk
    have hk1:∀ l':List Tm,k=1→l'=[]:=fun _ hc=>absurd hc hk
    split
    ·refine ⟨hk1 _,uO.2 fun y hy=>?_⟩
     obtain ⟨z,hz,rfl⟩:=List.mem_map.1 hy
     exact ih z x b (h2 z hz) hb
    ·rename_i hbd
     obtain ⟨g1,g2⟩:=vM hbd
     have hpt:=h2 _ (List.mem_of_getElem? (yV g1))
     have key:∀ v:Tm,v.V→zNb ((l.map fun t=>Tm.sub f t x b).set (xk k l.length).toNat v):=fun v hv=>uO.2 fun y hy=>by
      rcases List.mem_or_eq_of_mem_set hy with hy | rfl
      ·obtain ⟨z,hz,rfl⟩:=List.mem_map.1 hy
       exact ih z x b (h2 z hz) hb
      ·exact hv
     split
     ·exact ⟨hk1 _,key _ hpt⟩
     ·exact ⟨hk1 _,key _ (ih _ x b ((pw (sR f) _ _ _ _ _ _).v hpt) hb)⟩
theorem zBx {g:Tm→Tm} {m:Nat}:∀ {l:List Tm},(∀ t∈l,(g t).vc≤t.vc*m)→wL (l.map g)≤wL l*m
 | [],_=>by simp [wL]
 | t::l,h=>by
   have h1:=zBx (l:=l) fun x hx=>h x (by simp [hx])
   have h2:=h t (by simp)
   simp only [List.map_cons,wL,Nat.add_mul]
   omega
theorem zCY {g:Tm→Tm} {m:Nat} {v:Tm}:∀ {l:List Tm} {j:Nat},(∀ t∈l,(g t).vc≤t.vc*m)→(∀ t,l[j]?=some t→v.vc≤t.vc*m)→wL ((l.map g).set j v)≤wL l*m
 | [],_,_,_=>by simp [wL]
 | t::l,0,h,hv=>by
   have h1:=zBx (l:=l) fun x hx=>h x (by simp [hx])
   have h2:=hv t rfl
   simp only [List.map_cons,List.set_cons_zero,wL,Nat.add_mul]
   omega
 | t::l,j+1,h,hv=>by
   have h1:=zCY (l:=l) (j:=j) (v:=v) (fun x hx=>h x (by simp [hx])) fun x hx=>hv x (by simpa using hx)
   have h2:=h t (by simp)
   simp only [List.map_cons,List.set_cons_succ,wL,Nat.add_mul]
   omega
/-- how many variables: each may become what is put in -/
theorem zNt:∀ (f:Nat) (t:Tm) (x:ByteArray) (b:Tm),(t.sub f x b).vc≤t.vc*(b.vc+1)
 | 0,t,x,b=>by simp only [Tm.sub];exact Nat.le_mul_of_pos_right _ (by omega)
 | f + 1,.mk k nm ot n ty re l,x,b=>by
   have ih:=zNt f
   simp only [Tm.sub]
   split
   ·rename_i hk
    split
    ·simp only [Tm.vc,if_pos hk];omega
    ·exact Nat.le_mul_of_pos_right _ (by omega)
   ·rename_i hk
    split
    ·simp only [Tm.vc,if_neg hk]
     exact zBx fun t _=>ih t x b
    ·rename_i hbd
     obtain ⟨g1,g2⟩:=vM hbd
     split
     ·simp only [Tm.vc,if_neg hk]
      refine zCY (fun t _=>ih t x b) fun t ht=>?_
      rw [yV g1] at ht
      rw [←Option.some.inj ht]
      exact Nat.le_mul_of_pos_right _ (by omega)
     ·simp only [Tm.vc,if_neg hk]
      refine zCY (fun t _=>ih t x b) fun t ht=>?_
      rw [yV g1] at ht
      rw [←Option.some.inj ht]
      exact Nat.le_trans (ih _ x b) (Nat.mul_le_mul_right _ (pw (sR f) _ _ _ _ _ _).c)
/-- not too great to be copied, its free names to be listed -/
structure Tm.Z (t:Tm):Prop where
 g:t.G
 c:t.vc≤2199023255552
 v:t.V
theorem Tm.Z.mem {k:Int} {nm ot:ByteArray} {n:Int} {ty re:Ty} {l:List Tm} (h:(Tm.mk k nm ot n ty re l).Z):∀ y∈l,y.Z:=fun y hy=>by
 have hc:=h.c
 have:=pZ hy
 simp only [Tm.vc] at hc
 split at hc
 ·rename_i hk
  rw [h.v.1 hk] at hy
  simp at hy
 ·exact ⟨xZ h.g.2.2.2 hy,by omega,uO.1 h.v.2 y hy⟩
theorem LeT.z {t' t:Tm} (h:LeT t' t) (hz:t.Z):t'.Z:=⟨h.g hz.g,Nat.le_trans h.c hz.c,h.v hz.v⟩
theorem zNm (s:ByteArray):(zAQ s).Z:=⟨by simp [zAQ,Tm.G,zLt,Ty.cnt,zG],by simp only [zAQ,Tm.vc,if_true];omega,fun _=>rfl,trivial⟩
theorem zHU:∀ {l:List D} {j:Nat} {x:D} {b:Nat},b∈zB (l.set j x)→b∈zB l∨b∈x.foot
 | [],j,x,b,h=>by simp [zB] at h
 | a::l,0,x,b,h=>by
   simp only [List.set_cons_zero,zB,List.mem_append] at h ⊢
   rcases h with h | h
   ·exact .inr h
   ·exact .inl (.inr h)
 | a::l,j+1,x,b,h=>by
   simp only [List.set_cons_succ,zB,List.mem_append] at h ⊢
   rcases h with h | h
   ·exact .inl (.inl h)
   ·rcases zHU h with h | h
    ·exact .inl (.inr h)
    ·exact .inr h
theorem zJN {N N1 N2 N3:Nat} {x:D} (hx:Own N2 N3 x) (h1:N≤N2) (h2:N1≤N2) (h3:N2≤N3):∀ {l:List D} {j:Nat},OwnL N N1 l→OwnL N N3 (l.set j x)
 | [],j,h=>by simp only [List.set_nil];exact h.mono (Nat.le_refl _) (by omega)
 | a::l,0,h=>by
   have hn:=h.nd
   simp only [zB,List.nodup_append] at hn
   simp only [List.set_cons_zero]
   refine ⟨?_,⟨hx.fl,h.fl.2⟩,fun b hb=>?_,fun b hb=>?_⟩
   ·simp only [zB,List.nodup_append]
    refine ⟨hx.nd,hn.2.1,fun u hu v hv huv=>?_⟩
    have:=hx.lo u hu
    have:=h.hi v (by simp only [zB,List.mem_append];exact .inr hv)
    omega
   ·simp only [zB,List.mem_append] at hb
    rcases hb with hb | hb
    ·have:=hx.lo b hb;omega
    ·exact h.lo b (by simp only [zB,List.mem_append];exact .inr hb)
   ·simp only [zB,List.mem_append] at hb
    rcases hb with hb | hb
    ·exact hx.hi b hb
    ·have:=h.hi b (by simp only [zB,List.mem_append];exact .inr hb);omega
 | a :: l,j+1,h=>by
   have hn:=h.nd
   simp only [zB,List.nodup_append] at hn
   have hl:OwnL N N1 l:=⟨hn.2.1,h.fl.2,fun b hb=>h.lo b (by simp only [zB,List.mem_append];exact .inr hb),fun b hb=>h.hi b (by simp only [zB,List.mem_append];exact .inr hb)⟩
   have ih:=zJN hx h1 h2 h3 (l:=l) (j:=j) hl
   simp only [List.set_cons_succ]
   refine ⟨?_,⟨h.fl.1,ih.fl⟩,fun b hb=>?_,fun b hb=>?_⟩
   ·simp only [zB,List.nodup_append]
    refine ⟨hn.1,ih.nd,fun u hu v hv huv=>?_⟩
    rcases zHU hv with hv | hv
    ·exact hn.2.2 u hu v hv huv
    ·have:=hx.lo v hv
     have:=h.hi u (by simp only [zB,List.mem_append];exact .inl hu)
     omega
   ·simp only [zB,List.mem_append] at hb
    rcases hb with hb | hb
    ·exact h.lo b (by simp only [zB,List.mem_append];exact .inl hb)
    ·exact ih.lo b hb
   ·simp only [zB,List.mem_append] at hb
    rcases hb with hb | hb
    ·have:=h.hi b (by simp only [zB,List.mem_append];exact .inl hb);omega
    ·exact ih.hi b hb
/-- behind four cells -/
theorem sL {N N1 N2 N3:Nat} {x x4 x5 x6 x7:D} {es:List D} {j:Nat} (h:OwnL N N1 ([x4,x5,x6,x7]++es)) (hx:Own N2 N3 x) (h1:N≤N2) (h2:N1≤N2) (h3:N2≤N3):OwnL N N3 ([x4,x5,x6,x7]++es.set j x):=
 zJN hx h1 h2 h3 (l:=[x4,x5,x6,x7]++es) (j:=j+4) h
theorem pW:∀ {u v:List D},yw (u++v)→yw u∧yw v
 | [],v,h=>⟨trivial,h⟩
 | x::u,v,h=>⟨⟨h.1,(pW h.2).1⟩,(pW h.2).2⟩
theorem zMn {N0 N1 N3:Nat} {hd es ds:List D} {a:Option Addr} {z c:Nat} (h:OwnL N0 N1 (hd++es)) (hf:Fresh N0 N3 a (.ag es::(hd++ds))) (hN:N1≤N3):OwnL N0 N3 (hd++[.sl a z es c]):=by
 obtain ⟨fl1,fl2⟩:=pW h.fl
 have hn:=h.nd
 rw [zC,List.nodup_append] at hn
 have e:zB (hd++[D.sl a z es c])=zB hd++(D.sl a z es c).foot:=by simp only [zC,zB,List.append_nil]
 have hE:∀ ad,a=some ad→ad.block∉zB es:=fun ad h=>hf.ap ad h (.ag es) (by simp)
 have hH:∀ ad,a=some ad→ad.block∉zB hd:=fun ad h hc=>by
  obtain ⟨d,hd',hb⟩:=zD.1 hc
  exact hf.ap ad h d (by simp [hd']) hb
 refine ⟨?_,yd fl1 ⟨⟨fun ad h=>hf.off ad h,fl2⟩,trivial⟩,fun b hb=>?_,fun b hb=>?_⟩
 ·rw [e,List.nodup_append]
  refine ⟨hn.1,zIl hn.2.1 hE,fun x hx y hy hxy=>?_⟩
  subst hxy
  rcases vb x hy with h9 | ⟨ad,h9,h'⟩
  ·exact hn.2.2 x hx x h9 rfl
  ·subst h';exact hH ad h9 hx
 ·rw [e] at hb
  rcases List.mem_append.1 hb with hb | hb
  ·exact h.lo b (by rw [zC];exact List.mem_append_left _ hb)
  ·rcases vb b hb with h9 | ⟨ad,h9,h'⟩
   ·exact h.lo b (by rw [zC];exact List.mem_append_right _ h9)
   ·subst h';exact hf.lo ad h9
 ·rw [e] at hb
  rcases List.mem_append.1 hb with hb | hb
  ·have:=h.hi b (by rw [zC];exact List.mem_append_left _ hb);omega
  ·rcases vb b hb with h9 | ⟨ad,h9,h'⟩
   ·have:=h.hi b (by rw [zC];exact List.mem_append_right _ h9);omega
   ·subst h';exact hf.hi ad h9
theorem ux {N N1 N2:Nat} {v0 v1 v2 v3:Value} {x4 x5 x6 x7:D} {es:List D} {a:Option Addr} {c:Nat} (h:OwnL N N1 ([x4,x5,x6,x7]++es)) (hf:Fresh N N2 a [.ag es,x4,x5,x6,x7]) (hN:N1≤N2):Own N N2 (.ag [.lit v0,.lit v1,.lit v2,.lit v3,x4,x5,x6,x7,.sl a 9 es c]):=
 zGY (xv (xv (xv (xv (zMn (hd:=[x4,x5,x6,x7]) (ds:=[]) h hf hN)))))
theorem uI {α:Type} {R:α→D→Prop}:∀ {l:List α} {es:List D} {t:α} {d:D} {j:Nat},All2 R l es→R t d→All2 R (l.set j t) (es.set j d)
 | [],es,t,d,j,h,_=>by cases h;exact rfl
 | x::l,es,t,d,0,h,ht=>by
   obtain ⟨y,ys,rfl,h1,h2⟩:=h
   exact ⟨_,_,rfl,ht,h2⟩
 | x::l,es,t,d,j+1,h,ht=>by
   obtain ⟨y,ys,rfl,h1,h2⟩:=h
   exact ⟨_,_,rfl,h1,uI h2 ht⟩
theorem zHp {α:Type} {T l:List α} {i:Nat} {t:α} (hT:T.length=l.length) (hi:i<l.length) (ht:T[i]?=some t):(T.take i++l.drop i).set i t=T.take (i+1)++l.drop (i+1):=by
 have h1:(T.take i).length=i:=by rw [List.length_take];omega
 rw [List.set_append_right _ _ (by omega),h1,Nat.sub_self,List.drop_eq_getElem_cons hi,List.set_cons_zero,wv ht,List.append_assoc]
 rfl
theorem zJF {α:Type} {T l:List α} {i:Nat} {t:α} (hi:i<l.length) (hl:l[i]?=some t) (ht:T[i]?=some t):T.take i++l.drop i=T.take (i+1)++l.drop (i+1):=by
 rw [List.drop_eq_getElem_cons hi,wv ht,List.append_assoc]
 rw [List.getElem?_eq_getElem hi] at hl
 rw [Option.some.inj hl]
 rfl
theorem zP {l:List Tm} {es:List D} (h:All2 Tm.Is l es) {j:Nat} (hj:j<l.length):(l.getD j tm0).Is (es.getD j default):=by
 have:=h.get (yV hj)
 exact this
def zMp (f:FuncId) (args:List PV) (t:Tm):Prop:=∀ (N:Nat) (Q:QT [.ag 9]),(∀ d N',N≤N'→t.Is d→Own N N' d→Q d N')→ACalls prog f [.ag 9] args N Q
/-- puts b for x, at terms of some depth -/
def zOo (F:FuncId) (f:Nat):Prop:=∀ (e:Tm) (d:D) (x:ByteArray) (b:Tm) (db:D),e.Is d→b.Is db→e.dp≤f→e.Z→b.Z→zMp F [.dg 9 d,.str x,.dg 9 db] (e.sub f x b)
theorem zKX {s:ByteArray} (hs:s.size≤4611686018427387904):(zAQ s).Is (.ag [.lit (.int .i64 1),.lit (.string s),.lit (.string (bytes [])),.lit (.int .i64 0),.lit (.int .i64 0),.sl none 2 [] 0,.lit (.int .i64 0),.sl none 2 [] 0,.sl none 9 [] 0]):=
 Tm.is_mk.2 ⟨_,_,_,_,_,_,_,rfl,⟨hs,by decide,Ty.is_mk.2 ⟨_,_,_,rfl,by simp,rfl⟩,Ty.is_mk.2 ⟨_,_,_,rfl,by simp,rfl⟩⟩,by simp,rfl⟩
theorem zEF {l:List ByteArray} (h:l.length≤8796093022208):(fresh l).size≤4611686018427387904:=by
 obtain ⟨k,e,_,h2,_,_⟩:=rB l
 rw [e]
 have:=zJv k (by omega)
 omega
theorem zK3 {f:Nat} (hS:zOo 112 f) {k n0:Int} {nm ot:ByteArray} {ty re:Ty} {l:List Tm} {d:D} (hd:(Tm.mk k nm ot n0 ty re l).Is d) (hG:(Tm.mk k nm ot n0 ty re l).G) {n j:Nat} (hn:l.length=n) (hat:xk k n=(j:Int))
  {p:Tm} (hp:l.getD j tm0=p) (hdp:p.dp≤f) (hc:p.Z) (old x:ByteArray) (fb:List ByteArray) (hfb:fb.length≤2199023255552) (a:Option Addr) (c:Nat) {now:ByteArray} (hnow:fresh (fb++(p.fv++([x]++bdN k nm ot n)))=now) (N:Nat)
  (Q:QT [.pk,.int .i64,.str,.str,.int .i64,.dc,.dc,.dc,.dc,.row 34 9]) (hQ:vr (.mk k (if nm=old then now else nm) (if nm=old then ot else now) n0 ty re (l.set j (p.sub f old (zAQ now)))) N Q) :
  ACalls prog 151 [.pk,.int .i64,.str,.str,.int .i64,.dc,.dc,.dc,.dc,.row 34 9] [.dg 9 d,.int .i64 (j:Int),.str old,.sv a 0 (zA fb) c,.str x] N Q:=by
 subst hn
 obtain ⟨t0,t1,r0,r1,a8,es,c8,rfl,hh,hlen,hes⟩:=Tm.is_mk.1 hd
 have hl:=hes.len
 obtain ⟨g1,_⟩:=vM (k:=k) (n:=l.length) (by omega)
 rw [hat,Int.toNat_natCast] at g1
 have hpi:=zP hes g1
 rw [hp] at hpi
 have hfv:=Tm.fv_len p
 have hvc:=hc.c
 have hns:=rt k nm ot l.length
 have hcl:(fb++(p.fv++([x]++bdN k nm ot l.length))).length≤8796093022208:=by simp only [List.length_append,List.length_cons,List.length_nil];omega
 have hcat:zHi [fb,p.fv,[x],bdN k nm ot l.length]=fb++(p.fv++([x]++bdN k nm ot l.length)):=by simp [zHi]
 have hns2:now.size≤4611686018427387904:=hnow ▸ zEF hcl
 refine zDU N _ _ old a _ c x Q fun _ _ N1 hN1=>zIb (n:=l.length) (by omega) N1 _ fun a1 c1 N2 hN2 _ _ _=>⟨_,_,_,rfl,⟨by omega,by omega⟩,fun N3 hN3=>?_⟩
 rw [Int.toNat_natCast]
 refine xu p _ hpi hvc N3 _ fun c2 N4 hN4 _ _=>⟨⟨rfl,rfl⟩,fun a2 N5 hN5 _=>⟨⟨rfl,rfl⟩,fun a3 N6 hN6 _=>⟨⟨rfl,rfl⟩,fun a4 _ N7 hN7 hbel=>?_⟩⟩⟩
 have hws:All2 IsW [fb,p.fv,[x],bdN k nm ot l.length] [.sl a 0 (zA fb) c,.sl a2 0 (zA p.fv) c2,.sl a3 0 [.lit (.string x)] 1,.sl a1 0 (zA (bdN k nm ot l.length)) c1]:=
  ⟨_,_,rfl,⟨_,_,rfl⟩,_,_,rfl,⟨_,_,rfl⟩,_,_,rfl,⟨_,_,rfl⟩,_,_,rfl,⟨_,_,rfl⟩,rfl⟩
 refine zIn hws (by simp) (by rw [hcat];exact hcl) a4 4 N7 _ fun a5 c5 N8 hN8 ho8 _=>⟨zIG hbel ho8,fun _ N9 hN9=>?_⟩
 rw [hcat]
 refine zAs _ hcl a5 c5 N9 _ fun N10 hN10 _ N11 hN11=>?_
 rw [hnow]
 refine zEB _ _ hd hG N11 _ ?_
 simp only [vr] at hQ ⊢
 intro x4 x5 x6 x7 es' c' N12 hN12 hh' hes' ho' _ _
 have hl':=hes'.len
 refine ⟨_,_,_,rfl,⟨by omega,by omega⟩,fun N13 hN13=>zHO N13 now _ fun N14 hN14 _ _ N15 hN15=>?_⟩
 refine hS p _ old (zAQ now) _ hpi (zKX hns2) hdp hc (zNm _) N15 _ fun dx N16 hN16 hx hox _ _=>⟨⟨by omega,by omega,by omega⟩,by omega,_,rfl,?_⟩
 have hset:All2 Tm.Is (l.set j (p.sub f old (zAQ now))) (es'.set (0+j) dx):=by rw [Nat.zero_add];exact uI hes' hx
 have hown:OwnL N N16 ([x4,x5,x6,x7]++es'.set (0+j) dx):=sL (ho'.mono (by omega) (Nat.le_refl _)) hox (by omega) (by omega) (by omega)
 refine Br.str (fun h=>⟨⟨by simp,trivial⟩,fun N17 hN17=>?_⟩) fun h=>⟨⟨by simp,trivial⟩,fun N17 hN17=>?_⟩
 ·rw [if_pos h,if_pos h] at hQ
  exact hQ _ _ _ _ _ _ _ (by omega) ⟨hns2,hh'.ot,hh'.ty,hh'.re⟩ hset (hown.mono (Nat.le_refl _) hN17)
 ·rw [if_neg h,if_neg h] at hQ
  exact hQ _ _ _ _ _ _ _ (by omega) ⟨hh'.nm,hns2,hh'.ty,hh'.re⟩ hset (hown.mono (Nat.le_refl _) hN17)
/-- a node's parts, each put through; the node anew -/
theorem zLs {f:Nat} (hS:zOo 112 f) {k n0:Int} {nm ot:ByteArray} {ty re:Ty} {l:List Tm} {d:D} (hd:(Tm.mk k nm ot n0 ty re l).Is d) (hc:(Tm.mk k nm ot n0 ty re l).Z) (hp:∀ y∈l,y.dp≤f)
  (x:ByteArray) {b:Tm} {db:D} (hb:b.Is db) (hcb:b.Z) (ad ad1:Addr) (N:Nat) (Q:QT [.pk,.int .i64,.str,.str,.int .i64,.dc,.dc,.dc,.dc,.row 34 9])
  (hQ:vr (.mk k nm ot n0 ty re (l.map fun t=>t.sub f x b)) N Q) :
  ACalls prog 75 [.pk,.int .i64,.str,.str,.int .i64,.dc,.dc,.dc,.dc,.row 34 9] [.dg 9 d,.fn 150 [.pd ad 0 (.lit (.string x)),.pd ad1 9 db]] N Q:=by
 obtain ⟨t0,t1,r0,r1,a,es,c,rfl,hh,hlen,hes⟩:=Tm.is_mk.1 hd
 have hl:=hes.len
 obtain ⟨q1,q2,q3,_⟩:=hc.g
 simp only [vr] at hQ
 refine tf N _ ad _ ad1 _ Q fun _=>⟨_,_,_,rfl,?_⟩
 refine up hes hlen (fun i xs=>∀ (done:List D) (q N':Nat),N≤N'→All2 Tm.Is ((l.map fun t=>t.sub f x b).take i) done→done.length=i→OwnL N N' done →
  yL Q N ad (.lit (.string x)) ad1 db done.length q a es c es.length i (.ag [.lit (.int .i64 k),.lit (.string nm),.lit (.string ot),.lit (.int .i64 n0),t0,t1,r0,r1,.sl a 9 es c]) 0 (bytes []) (bytes []) 0 0 none [] 0 0 none [] 0 none [] 0 done q N') ?_ ?_ [] 0 N (Nat.le_refl _) rfl rfl zBO
 ·intro i hlt hi done q N' hN' hd hdl ho
  refine wo _ _ _ _ _ _ _ _ _ _ _ _ _ _ _ _ _ _ _ _ _ _ _ _ _ _ _ _ _ _ _ _ ?_
  rw [List.take_of_length_le (by simp;omega)] at hd
  rw [hlt]
  refine ⟨⟨rfl,rfl⟩,fun a1 hap _ N4 hN4 hbel=>?_⟩
  refine zIc hh q1 q2 a1 done q N4 _ fun x4 x5 x6 x7 N5 hN5 hh5 ho5 _=>⟨rfl,?_⟩
  have off:∀ y∈[x4,x5,x6,x7],Off [a1] y:=fun y hy a' ha' ad had hc=>by
   have h1:=hbel a' ha' ad had
   have h2:=ho5.lo _ (zD.2 ⟨y,hy,hc⟩)
   omega
  refine ⟨off x4 (by simp),off x5 (by simp),off x6 (by simp),off x7 (by simp),⟨rfl,rfl⟩,fun N6 hN6=>?_⟩
  exact hQ _ _ _ _ _ _ _ (by omega) hh5 hd (zAT (N1:=N4) (ho5.mono (Nat.le_refl _) (by omega)) (ho.mono (Nat.le_refl _) hN4) (by omega) (by omega))
 ·intro i y xs hat _ ih2 done q N' hN' hd hdl ho
  have hbd:=hat.b
  have hdp:=hp y hat.m
  have hcy:=hc.mem y hat.m
  have hat2:(l.map fun t=>t.sub f x b)[i]?=some (y.sub f x b):=by rw [List.getElem?_map,hat.g];rfl
  refine wo _ _ _ _ _ _ _ _ _ _ _ _ _ _ _ _ _ _ _ _ _ _ _ _ _ _ _ _ _ _ _ _ ?_
  rw [hat.lt,Int.toNat_natCast,hat.w]
  refine ⟨⟨by omega,by omega⟩,fun N5 hN5=>sM N5 _ ad _ ad1 db _ fun _=>⟨_,rfl,fun N6 hN6=>hS y _ x b db hat.r hb hdp hcy hcb N6 _ fun dx N7 hN7 hx hox _ _ N8 hN8 _ _=>⟨⟨rfl,rfl⟩,by unfold zK;rw [List.length_append];simp only [List.length_cons,List.length_nil];omega,fun c3=>?_⟩⟩⟩
  refine ih2 _ _ _ (by omega) (by rw [wv hat2];exact hd.snoc hx) (by simp [hdl]) ?_
  exact (yc ho (wH (hox.mono (by omega) (Nat.le_refl _))) (N1:=N') (by omega) (by omega)).mono (Nat.le_refl _) (by omega)
theorem zD5:∀ f,zOo 112 f
 | 0=>fun e d x b db _ _ hdp=>absurd (Tm.dp_pos e) (by omega)
 | f + 1 => fun e d x b db he hb hdp hc hcb N Q hQ=>by
   have ih:=zD5 f
   have hG:=hc.g
   have hGb:=hcb.g
   have hvb:=hcb.c
   cases e with
   | mk k nm ot n0 ty re l=>
   have hc0:=hc
   simp only [Tm.dp] at hdp
   have hp:∀ y∈l,y.dp≤f:=fun y hy=>zBL.1 (Nat.le_of_succ_le_succ hdp) y hy
   have hpz:=hc.mem
   obtain ⟨t0,t1,r0,r1,a,es,c,rfl,hh,hlen,hes⟩:=Tm.is_mk.1 he
   have hl:=hes.len
   have htl:=hG.2.2.1
   simp only [Tm.sub] at hQ
   refine zA1 N _ x db Q fun _ _=>⟨_,rfl,Br.beq (fun h1=>⟨_,rfl,Br.str (fun h2 N1 hN1=>?_) fun h2 N1 hN1=>?_⟩) fun h1 N1 hN1=>zIb (n:=l.length) (by omega) N1 _ fun a1 c1 N2 hN2 _ _ _=>Br.dec (fun hlt=>?_) fun hge N3 hN3=>?_⟩
   ·rw [if_pos h1,if_pos h2] at hQ
    refine zEB b db hb hGb N1 _ ?_
    cases b with
    | mk k2 nm2 ot2 n2 ty2 re2 l2=>
    simp only [vr]
    intro x4 x5 x6 x7 es' c' N2 hN2 hh' hes' ho' _ _
    have hl':=hes'.len
    have hgl:=hGb.2.2.1
    exact ⟨⟨trivial,trivial⟩,⟨trivial,trivial⟩,fun a2 N3 hN3 hf N4 hN4=>hQ _ _ (by omega) (Tm.is_mk.2 ⟨_,_,_,_,_,_,_,rfl,hh',by omega,hes'⟩) ((ux (ho'.mono hN1 (Nat.le_refl _)) hf hN3).mono (Nat.le_refl _) hN4)⟩
   ·rw [if_pos h1,if_neg h2] at hQ
    refine zEB _ _ he hG N1 _ ?_
    simp only [vr]
    intro x4 x5 x6 x7 es' c' N2 hN2 hh' hes' ho' _ _
    have hl':=hes'.len
    exact ⟨⟨trivial,trivial⟩,⟨trivial,trivial⟩,fun a2 N3 hN3 hf N4 hN4=>hQ _ _ (by omega) (Tm.is_mk.2 ⟨_,_,_,_,_,_,_,rfl,hh',by omega,hes'⟩) ((ux (ho'.mono hN1 (Nat.le_refl _)) hf hN3).mono (Nat.le_refl _) hN4)⟩
   ·rw [if_neg h1,if_pos hlt] at hQ
    refine fun ad _ _ ad1 _ _ N3 hN3 hbel=>zLs ih he hc0 hp x hb hcb ad ad1 N3 _ ?_
    simp only [vr]
    intro x4 x5 x6 x7 es' c' N4 hN4 hh' hes' ho' _
    have hl':=hes'.len
    simp only [List.length_map] at hl'
    have off:∀ y∈[x4,x5,x6,x7],Off [some ad,some ad1] y:=fun y hy a' ha' ad' had hc=>by
     have h1:=hbel a' ha' ad' had
     have h2:=ho'.lo _ (zD.2 ⟨y,List.mem_append_left _ hy,hc⟩)
     omega
    have off2:Off [some ad,some ad1] (.ag es'):=fun a' ha' ad' had hc=>by
     have h1:=hbel a' ha' ad' had
     have h2:=ho'.lo ad'.block (by rw [zC];exact List.mem_append_right _ (by simpa only [D.foot] using hc))
     omega
    refine ⟨off x4 (by simp),off x5 (by simp),off x6 (by simp),off x7 (by simp),off2,fun _=>⟨⟨trivial,trivial⟩,⟨trivial,trivial⟩,fun a2 N5 hN5 hf N6 hN6=>hQ _ _ (by omega) (Tm.is_mk.2 ⟨_,_,_,_,_,_,_,rfl,hh',by omega,hes'⟩) ((ux (ho'.mono (by omega) (Nat.le_refl _)) hf hN5).mono (Nat.le_refl _) hN6)⟩⟩
   ·rw [if_neg h1,if_neg hge] at hQ
    refine zEB _ _ he hG N3 _ ?_
    simp only [vr]
    intro x4 x5 x6 x7 es' c' N4 hN4 hh' hes' ho' _ _
    have hl':=hes'.len
    obtain ⟨g1,g2⟩:=vM hge
    have hns:=rt k nm ot l.length
    obtain ⟨j,hat⟩:∃ j:Nat,xk k l.length=(j:Int):=⟨_,g2.symm⟩
    rw [hat] at g1 hQ ⊢
    rw [Int.toNat_natCast] at g1 hQ
    generalize hpp:l.getD j tm0=p at hQ
    have hpl:l[j]?=some p:=hpp ▸ yV g1
    have hpd:=hp p (List.mem_of_getElem? hpl)
    have hpc:=hpz p (List.mem_of_getElem? hpl)
    have hpvc:=hpc.c
    have hpi:=zP hes g1
    rw [hpp] at hpi
    generalize hg:(fun t:Tm=>t.sub f x b)=g at hQ
    have hgG:∀ y∈l,(g y).G:=fun y hy=>by rw [←hg];exact zOF f y x b (xZ hG.2.2.2 hy) hGb
    have hnw:=zH (bdN k nm ot l.length)
    refine ⟨_,_,_,rfl,?_⟩
    have fin:∀ (nm' ot':ByteArray) (y4 y5 y6 y7:D) (L:List Tm) (r:List D) (q N':Nat),N≤N'→L.length=l.length→Tm.Hd nm' ot' ty re y4 y5 y6 y7→All2 Tm.Is L r→OwnL N N' ([y4,y5,y6,y7]++r) →
      (∀ d' N'',N≤N''→(Tm.mk k nm' ot' n0 ty re L).Is d'→Own N N'' d'→Q d' N'')→∀ a2 N5,N'≤N5→Fresh N N5 a2 [.ag r,y4,y5,y6,y7]→∀ N6,N5≤N6→Q (.ag [.lit (.int .i64 k),.lit (.string nm'),.lit (.string ot'),.lit (.int .i64 n0),y4,y5,y6,y7,.sl a2 9 r q]) N6:=
     fun nm' ot' y4 y5 y6 y7 L r q N' hN' hL hH hA hO hq a2 N5 hN5 hf N6 hN6=>by
      have hrl:=hA.len
      exact hq _ _ (by omega) (Tm.is_mk.2 ⟨_,_,_,_,_,_,_,rfl,hH,by omega,hA⟩) ((ux hO hf hN5).mono (Nat.le_refl _) hN6)
    refine up hes hlen (fun i xs=>∀ (r:List D) (q N':Nat),N≤N'→All2 Tm.Is (((l.map g).set j p).take i++l.drop i) r→r.length=l.length→OwnL N N' ([x4,x5,x6,x7]++r) →
     zx Q N a1 (zA (bdN k nm ot l.length)) c1 (j:Int) a es c es.length i (.ag [.lit (.int .i64 k),.lit (.string nm),.lit (.string ot),.lit (.int .i64 n0),t0,t1,r0,r1,.sl a 9 es c]) x db 0 (bytes []) (bytes []) 0 0 none [] 0 0 none [] 0 none [] 0 k nm ot n0 x4 x5 x6 x7 r.length q r q N') ?_ ?_ es' c' N4 (by omega) (by simpa using hes') hl' (ho'.mono (by omega) (Nat.le_refl _))
    ·intro i hlt hi r q N' hN' hA hrl hO
     rw [List.take_of_length_le (by simp;omega),List.drop_eq_nil_of_le (by omega),List.append_nil] at hA
     refine vW _ _ _ _ _ _ _ _ _ _ _ _ _ _ _ _ _ _ _ _ _ _ _ _ _ _ _ _ _ _ _ _ _ _ _ _ _ _ _ _ _ _ ?_
     rw [hlt]
     refine fun N5 hN5=>zr _ (by omega) a1 c1 x N5 _ fun N6 hN6 _=>?_
     rw [qB]
     refine Br.dec (fun hx=>⟨⟨rfl,rfl⟩,⟨rfl,rfl⟩,⟨rfl,rfl⟩,fun a2 N7 hN7 hf N8 hN8=>?_⟩) fun hx=>⟨_,_,_,rfl,⟨by omega,by omega⟩,fun N7 hN7=>?_⟩
     ·rw [if_pos (.inl hx)] at hQ
      exact fin _ _ _ _ _ _ _ _ _ N' hN' (by simp) hh' hA hO hQ a2 N7 (by omega) hf N8 hN8
     ·rw [Int.toNat_natCast]
      have hfv:=Tm.fv_len p
      refine xu p _ hpi hpvc N7 _ fun c8 N8 hN8 _ _=>⟨⟨rfl,rfl⟩,fun a9 _ N9 hN9 _=>zr _ (by omega) a9 c8 x N9 _ fun N10 hN10 _=>?_⟩
      rw [qB]
      refine Br.ndec (fun hx2=>⟨⟨rfl,rfl⟩,⟨rfl,rfl⟩,⟨rfl,rfl⟩,fun a2 N11 hN11 hf N12 hN12=>?_⟩) fun hx2 N11 hN11=>?_
      ·rw [if_pos (.inr hx2)] at hQ
       exact fin _ _ _ _ _ _ _ _ _ N' hN' (by simp) hh' hA hO hQ a2 N11 (by omega) hf N12 hN12
      ·rw [if_neg (by rintro (h | h);exact hx h;exact h hx2)] at hQ
       have hfvb:=Tm.fv_len b
       refine xu b _ hb hvb N11 _ fun c12 N12 hN12 _ _=>?_
       have hfw:=zH b.fv
       generalize hT:rns (Tm.sub f) k l.length b.fv x (bdN k nm ot l.length) (nm,ot,p)=T at hQ
       refine up (yr (bdN k nm ot l.length)) (by omega) (fun i xs=>∀ (s:ByteArray × ByteArray × Tm) (y4 y5 y6 y7:D) (r:List D) (q N':Nat),N≤N'→Tm.Hd s.1 s.2.1 ty re y4 y5 y6 y7→All2 Tm.Is ((l.map g).set j s.2.2) r→r.length=l.length→OwnL N N' ([y4,y5,y6,y7]++r)→LeT s.2.2 p→rns (Tm.sub f) k l.length b.fv x xs s=T →
        zu Q N (j:Int) (zA b.fv).length c12 a1 (zA (bdN k nm ot l.length)) c1 ((zA (bdN k nm ot l.length)).length:Int) i x db 0 (bytes []) (bytes []) 0 0 none [] 0 0 none [] 0 none [] 0 k s.1 s.2.1 n0 y4 y5 y6 y7 r.length q (zA b.fv) c12 r q N') ?_ ?_ (nm,ot,p) x4 x5 x6 x7 r q N12 (by omega) hh' hA hrl (hO.mono (Nat.le_refl _) (by omega)) LeT.rfl hT
       ·intro i hlt hi s y4 y5 y6 y7 r q N' hN' hH hA hrl hO hle hs
        simp only [rns] at hs
        subst hs
        refine vL _ _ _ _ _ _ _ _ _ _ _ _ _ _ _ _ _ _ _ _ _ _ _ _ _ _ _ _ _ _ _ _ _ _ _ _ _ _ _ _ _ _ ?_
        rw [hlt]
        refine ⟨⟨by omega,by omega,by omega⟩,by omega,fun N13 hN13=>?_⟩
        have hpi2:=zP hA (j:=j) (by simpa using g1)
        have hgd:((l.map g).set j s.2.2).getD j tm0=s.2.2:=by rw [List.getD_eq_getElem?_getD,List.getElem?_set_self (by simpa using g1)];rfl
        rw [hgd] at hpi2
        have hle1:=hle.c
        have hle2:=hle.d
        rw [Int.toNat_natCast,Nat.zero_add]
        refine ih s.2.2 _ x b db hpi2 hb (by omega) (hle.z hpc) hcb N13 _ fun dx N14 hN14 hx hox _ _=>?_
        have hset:All2 Tm.Is ((l.map g).set j (s.2.2.sub f x b)) (r.set j dx):=by have:=uI (j:=j) hA hx;rwa [List.set_set] at this
        have hown:OwnL N N14 ([y4,y5,y6,y7]++r.set j dx):=sL hO hox (by omega) (by omega) (by omega)
        exact ⟨⟨by omega,by omega,by omega⟩,by omega,⟨by simp,rfl⟩,⟨by simp,rfl⟩,⟨by simp,rfl⟩,⟨by simp,rfl⟩,⟨by simp,rfl⟩,fun a2 N15 hN15 hf N16 hN16=>fin _ _ _ _ _ _ _ _ _ N14 (by omega) (by simp) hH hset hown hQ a2 N15 hN15 hf N16 hN16⟩
       ·intro i old xs hat2 _ ih2 s y4 y5 y6 y7 r q N' hN' hH hA hrl hO hle hs
        have hbd:=hat2.b
        have hr:=hat2.r
        simp only [rns] at hs
        refine vL _ _ _ _ _ _ _ _ _ _ _ _ _ _ _ _ _ _ _ _ _ _ _ _ _ _ _ _ _ _ _ _ _ _ _ _ _ _ _ _ _ _ ?_
        rw [hat2.lt,Int.toNat_natCast,hat2.w,hr]
        refine ⟨⟨by omega,by omega⟩,old,rfl,⟨rfl,rfl⟩,fun a13 _ N13 hN13 _=>zr _ (by omega) a13 c12 old N13 _ fun N14 hN14 _=>?_⟩
        rw [qB]
        refine Br.dec (fun ho=>⟨⟨rfl,rfl⟩,⟨rfl,rfl⟩,fun a14 N15 hN15 _=>⟨⟨rfl,rfl⟩,fun a15 _ N16 hN16 hbel=>?_⟩⟩) fun ho=>?_
        ·have hle1:=hle.c
         have hle2:=hle.d
         have hd2:(Tm.mk k s.1 s.2.1 n0 ty re ((l.map g).set j s.2.2)).Is (.ag [.lit (.int .i64 k),.lit (.string s.1),.lit (.string s.2.1),.lit (.int .i64 n0),y4,y5,y6,y7,.sl a14 9 r q]):=Tm.is_mk.2 ⟨_,_,_,_,_,_,_,rfl,hH,by omega,hA⟩
         have hgd:((l.map g).set j s.2.2).getD j tm0=s.2.2:=by rw [List.getD_eq_getElem?_getD,List.getElem?_set_self (by simpa using g1)];rfl
         have hG2:(Tm.mk k s.1 s.2.1 n0 ty re ((l.map g).set j s.2.2)).G:=⟨hG.1,hG.2.1,by simpa using hG.2.2.1,zFP fun y hy=>by
          rcases List.mem_or_eq_of_mem_set hy with hy | rfl
          ·obtain ⟨z,hz,rfl⟩:=List.mem_map.1 hy
           exact hgG z hz
          ·exact hle.g hpc.g⟩
         refine zK3 ih hd2 hG2 (n:=l.length) (by simp) hat hgd (by omega) (hle.z hpc) old x b.fv (by omega) a15 c12 rfl N16 _ ?_
         simp only [vr]
         intro z4 z5 z6 z7 es9 c9 N17 hN17 hh9 hes9 ho9 _
         have off:∀ y∈[z4,z5,z6,z7],Off [a15] y:=fun y hy a' ha' ad' had hc=>by
          have h1:=hbel a' ha' ad' had
          have h2:=ho9.lo _ (zD.2 ⟨y,List.mem_append_left _ hy,hc⟩)
          omega
         have off2:Off [a15] (.ag es9):=fun a' ha' ad' had hc=>by
          have h1:=hbel a' ha' ad' had
          have h2:=ho9.lo ad'.block (by rw [zC];exact List.mem_append_right _ (by simpa only [D.foot] using hc))
          omega
         rw [List.set_set] at hes9
         have hl9:=hes9.len
         simp only [List.length_set,List.length_map] at hl9
         refine ⟨off z4 (by simp),off z5 (by simp),off z6 (by simp),off z7 (by simp),off2,fun _=>?_⟩
         have e1:rn1 (Tm.sub f) k l.length b.fv x old s=(if s.1=old then fresh (b.fv++(s.2.2.fv++([x]++bdN k s.1 s.2.1 l.length))) else s.1,if s.1=old then s.2.1 else fresh (b.fv++(s.2.2.fv++([x]++bdN k s.1 s.2.1 l.length))),s.2.2.sub f old (zAQ (fresh (b.fv++(s.2.2.fv++([x]++bdN k s.1 s.2.1 l.length)))))):=by
          unfold rn1
          rw [if_pos ho]
          split<;>rfl
         rw [e1] at hs
         exact ih2 _ _ _ _ _ _ _ _ (by omega) hh9 hes9 hl9 (ho9.mono (by omega) (Nat.le_refl _)) ((sR f _ _ _).trans hle) hs
        ·have e1:rn1 (Tm.sub f) k l.length b.fv x old s=s:=by unfold rn1;rw [if_neg ho]
         rw [e1] at hs
         exact ih2 _ _ _ _ _ _ _ _ (by omega) hH hA hrl (hO.mono (Nat.le_refl _) (by omega)) hle hs
    ·intro i y xs hat2 _ ih2 r q N' hN' hA hrl hO
     have hbd:=hat2.b
     have hyd:=hp y hat2.m
     have hyc:=hpz y hat2.m
     have hil:i<l.length:=(List.getElem?_eq_some_iff.1 hat2.g).1
     refine vW _ _ _ _ _ _ _ _ _ _ _ _ _ _ _ _ _ _ _ _ _ _ _ _ _ _ _ _ _ _ _ _ _ _ _ _ _ _ _ _ _ _ ?_
     rw [hat2.lt,Int.toNat_natCast,hat2.w]
     refine ⟨⟨by omega,by omega⟩,Br.bne (fun hne N5 hN5=>ih y _ x b db hat2.r hb hyd hyc hcb N5 _ fun dx N6 hN6 hx hox _ _=>⟨⟨by omega,by omega,by omega⟩,by omega,?_⟩) fun heq=>?_⟩
     ·have hT:((l.map g).set j p)[i]?=some (y.sub f x b):=by
       rw [List.getElem?_set_ne (by omega),List.getElem?_map,hat2.g,←hg];rfl
      rw [Nat.zero_add]
      have h2:=uI (j:=i) hA hx
      rw [zHp (by simp) hil hT] at h2
      have h3:=ih2 (r.set i dx) q N6 (by omega) h2 (by simpa using hrl) (sL hO hox (by omega) (by omega) (by omega))
      simpa using h3
     ·have hij:i=j:=by omega
      have hyp:y=p:=by
       have:=hat2.g
       rw [hij,hpl] at this
       exact (Option.some.inj this).symm
      have hT:((l.map g).set j p)[i]?=some y:=by rw [hij,hyp,List.getElem?_set_self (by simpa using g1)]
      rw [zJF hil hat2.g hT] at hA
      exact ih2 r q N' hN' hA hrl hO
theorem zF2 (s:ByteArray) (l:List ByteArray):decide (rx (fun x=>decide (x=s)) l 0≥0)=decide (s∈l):=by
 have h:=zBh s l
 rw [Bool.eq_iff_iff,decide_eq_true_iff,decide_eq_true_iff] at h ⊢
 constructor
 ·intro h2;exact Decidable.not_not.1 fun h3=>by have:=h.2 h3;omega
 ·intro h2;exact Int.not_lt.1 fun h3=>h.1 h3 h2
/-- what a node binds, away from some names -/
theorem zLX {f:Nat} (hS:zOo 105 f) {k n0:Int} {nm ot:ByteArray} {ty re:Ty} {l:List Tm} {d:D} (hd:(Tm.mk k nm ot n0 ty re l).Is d) (hG:(Tm.mk k nm ot n0 ty re l).G) {j:Nat} (hat:xk k l.length=(j:Int))
  {p:Tm} (hp:l.getD j tm0=p) (hdp:p.dp≤f) (hc:p.Z) (x:ByteArray) (fb:List ByteArray) (hfb:fb.length≤2199023255552) (a:Option Addr) (c:Nat) (N:Nat) {T:ByteArray × ByteArray × Tm} (hT:rns (Tm.sub f) k l.length fb x (bdN k nm ot l.length) (nm,ot,p)=T)
  (Q:QT [.pk,.int .i64,.str,.str,.int .i64,.dc,.dc,.dc,.dc,.row 34 9]) (hQ:vr (.mk k T.1 T.2.1 n0 ty re (l.set j T.2.2)) N Q) :
  ACalls prog 140 [.pk,.int .i64,.str,.str,.int .i64,.dc,.dc,.dc,.dc,.row 34 9] [.dg 9 d,.int .i64 (j:Int),.str x,.sv a 0 (zA fb) c] N Q:=by
 obtain ⟨t0,t1,r0,r1,a8,es,c8,rfl,hh,hlen,hes⟩:=Tm.is_mk.1 hd
 have hl:=hes.len
 obtain ⟨g1,_⟩:=vM (k:=k) (n:=l.length) (by omega)
 rw [hat,Int.toNat_natCast] at g1
 have hns:=rt k nm ot l.length
 have hnw:=zH (bdN k nm ot l.length)
 have htl:=hG.2.2.1
 refine zDZ N _ _ x a _ c Q fun _ _ N1 hN1=>vJ _ _ hd hG N1 _ ?_
 simp only [vr] at hQ ⊢
 intro x4 x5 x6 x7 es' c' N2 hN2 hh' hes' ho' _ _ N3 hN3
 refine qR (n:=l.length) (by omega) N3 _ fun a1 c1 N4 hN4 _ _ _=>?_
 have hl':=hes'.len
 have hset0:l.set j p=l:=by
  apply List.ext_getElem?
  intro i
  rw [List.getElem?_set]
  split
  ·rename_i hi
   subst hi
   rw [yV g1,hp]
  ·rfl
 refine up (yr (bdN k nm ot l.length)) (by omega) (fun i xs=>∀ (s:ByteArray × ByteArray × Tm) (y4 y5 y6 y7:D) (r:List D) (q N':Nat),N≤N'→Tm.Hd s.1 s.2.1 ty re y4 y5 y6 y7→All2 Tm.Is (l.set j s.2.2) r→OwnL N N' ([y4,y5,y6,y7]++r)→LeT s.2.2 p→rns (Tm.sub f) k l.length fb x xs s=T →
  (i=0→s=(nm,ot,p))→(0<i→∀ o∈xs,o∈fb→s.1≠o) →
  yE Q N j x a (zA fb) c a1 (zA (bdN k nm ot l.length)) c1 i 0 (bytes []) (bytes []) 0 0 none [] 0 0 none [] 0 none [] 0 k s.1 s.2.1 n0 y4 y5 y6 y7 r.length q r q N') ?_ ?_ (nm,ot,p) x4 x5 x6 x7 es' c' N4 (by omega) hh' (by rw [hset0];exact hes') (ho'.mono hN1 (by omega)) LeT.rfl hT (fun _=>rfl) (fun h=>absurd h (by omega))
 ·intro i hlt hi s y4 y5 y6 y7 r q N' hN' hH hA hO hle hs _ _
  simp only [rns] at hs
  subst hs
  refine tN _ _ _ _ _ _ _ _ _ _ _ _ _ _ _ _ _ _ _ _ _ _ _ _ _ _ _ _ _ _ _ _ _ _ _ _ _ _ _ ?_
  rw [hlt]
  exact ⟨⟨rfl,rfl⟩,fun N5 hN5=>hQ _ _ _ _ _ _ _ (by omega) hH hA (hO.mono (Nat.le_refl _) hN5)⟩
 ·intro i old xs hat2 hxs ih2 s y4 y5 y6 y7 r q N' hN' hH hA hO hle hs h0 h1
  have hbd:=hat2.b
  have hr:=hat2.r
  have hrl:=hA.len
  simp only [List.length_set] at hrl
  simp only [rns] at hs
  refine tN _ _ _ _ _ _ _ _ _ _ _ _ _ _ _ _ _ _ _ _ _ _ _ _ _ _ _ _ _ _ _ _ _ _ _ _ _ _ _ ?_
  rw [hat2.lt,Int.toNat_natCast,hat2.w,hr]
  refine ⟨⟨by omega,by omega⟩,old,rfl,fun N5 hN5=>yO fb (by omega) a c old N5 _ fun N6 hN6 _=>?_⟩
  rw [zBh]
  have hold:i=0→s.1=old:=fun hi=>by
   subst hi
   have h2:=hat2.g
   rw [h0 rfl]
   unfold bdN at h2
   (repeat' split at h2)<;>simp at h2<;>exact h2
  have hne:0<i→old∈fb→s.1≠old:=fun hi ho=>h1 hi old (by simp) ho
  have hnext:∀ s':ByteArray × ByteArray × Tm,rn1 (Tm.sub f) k l.length fb x old s=s'→0<i+1→∀ o∈xs,o∈fb→s'.1≠o:=fun s' hs' _ o ho hof=>by
   have hi0:i=0:=by
    have h3:=List.mem_iff_getElem?.1 ho
    obtain ⟨m,hm⟩:=h3
    rw [←hxs,List.getElem?_drop] at hm
    have:=(List.getElem?_eq_some_iff.1 hm).1
    omega
   have hs0:=h0 hi0
   subst hi0
   have hom:o∈bdN k nm ot l.length:=by rw [←hxs] at ho;exact List.mem_of_mem_drop ho
   have hold':=hold rfl
   subst hs'
   unfold rn1
   by_cases hof2:old∈fb
   ·have hfr:=zKk (fb++(s.2.2.fv++([x]++bdN k s.1 s.2.1 l.length)))
    rw [if_pos hof2,if_pos hold']
    intro hc
    refine hfr ?_
    simp only at hc
    rw [hc,hs0]
    simp [hom]
   ·rw [if_neg hof2]
    intro hc
    exact hof2 (by rw [←hold',hc];exact hof)
  refine Br.dec (fun ho=>?_) fun ho=>?_
  ·have e1:rn1 (Tm.sub f) k l.length fb x old s=s:=by unfold rn1;rw [if_neg ho]
   have hnx:=hnext s e1
   rw [e1] at hs
   exact ih2 _ _ _ _ _ _ _ _ (by omega) hH hA (hO.mono (Nat.le_refl _) (by omega)) hle hs (fun h=>absurd h (by omega)) hnx
  ·have ho:old∈fb:=Decidable.not_not.1 ho
   have hpi2:=zP hA (j:=j) (by simpa using g1)
   have hgd:(l.set j s.2.2).getD j tm0=s.2.2:=by rw [List.getD_eq_getElem?_getD,List.getElem?_set_self (by simpa using g1)];rfl
   rw [hgd] at hpi2
   have hz2:=hle.z hc
   have hvc:=hz2.c
   have hfv:=Tm.fv_len s.2.2
   have hul:=zCU fb s.2.2.fv
   have hns2:=rt k s.1 s.2.1 l.length
   have hnw2:=zH (bdN k s.1 s.2.1 l.length)
   have hled:=hle.d
   refine ⟨⟨rfl,rfl⟩,fun a5 _ N7 hN7 hbel=>qR (n:=l.length) (by omega) N7 _ fun a6 c6 N8 hN8 ho8 _=>⟨zIG hbel ho8,fun _=>⟨⟨by omega,by omega,by omega⟩,by omega,fun N9 hN9=>?_⟩⟩⟩
   rw [Int.toNat_natCast,Nat.zero_add]
   refine wE s.2.2 _ hpi2 (by omega) N9 _ fun a7 c7 N10 hN10 _ _ _ N11 hN11=>?_
   refine uX fb s.2.2.fv (by omega) (by omega) a a7 c c7 N11 _ fun c8 N12 hN12 _ _=>?_
   rw [wO,zD7]
   have hcl:(sJ fb s.2.2.fv++[x]++bdN k s.1 s.2.1 l.length).length≤8796093022208:=by simp only [List.length_append,List.length_cons,List.length_nil];omega
   have hnow:fresh (sJ fb s.2.2.fv++[x]++bdN k s.1 s.2.1 l.length)=fresh (fb++(s.2.2.fv++([x]++bdN k s.1 s.2.1 l.length))):=zMX fun y=>by simp [zHA,or_assoc]
   refine ⟨⟨rfl,rfl⟩,qx (by omega),fun c9=>⟨⟨rfl,rfl⟩,by unfold zK;rw [List.length_append,zH,zH,List.length_append,List.length_cons,List.length_nil];omega,fun c10=>⟨⟨rfl,rfl⟩,fun a11 _ N13 hN13 _=>?_⟩⟩⟩
   refine zAe _ hcl a11 c10 N13 _ fun N14 hN14 _=>⟨⟨by omega,by omega,by omega⟩,by omega,⟨by omega,by omega⟩,old,rfl,fun N15 hN15=>?_⟩
   have hsz:=zEF hcl
   rw [hnow] at hsz ⊢
   have e1:rn1 (Tm.sub f) k l.length fb x old s=(if s.1=old then fresh (fb++(s.2.2.fv++([x]++bdN k s.1 s.2.1 l.length))) else s.1,if s.1=old then s.2.1 else fresh (fb++(s.2.2.fv++([x]++bdN k s.1 s.2.1 l.length))),s.2.2.sub f old (zAQ (fresh (fb++(s.2.2.fv++([x]++bdN k s.1 s.2.1 l.length)))))):=by
    unfold rn1
    rw [if_pos ho]
    split<;>rfl
   have hnx:=hnext _ e1
   rw [e1] at hs
   generalize fresh (fb++(s.2.2.fv++([x]++bdN k s.1 s.2.1 l.length)))=now at hsz hs hnx ⊢
   refine zG2 N15 now _ fun N16 hN16 _ _ N17 hN17=>?_
   refine hS s.2.2 _ old (zAQ now) _ hpi2 (zKX hsz) (by omega) hz2 (zNm _) N17 _ fun dx N18 hN18 hx hox _ _=>⟨⟨by omega,by omega,by omega⟩,by omega,?_⟩
   have hset:All2 Tm.Is (l.set j (s.2.2.sub f old (zAQ now))) (r.set j dx):=by have:=uI (j:=j) hA hx;rwa [List.set_set] at this
   have hown:OwnL N N18 ([y4,y5,y6,y7]++r.set j dx):=sL hO hox (by omega) (by omega) (by omega)
   have hrs:(r.set j dx).length=r.length:=List.length_set
   refine Br.beq (fun hi=>?_) fun hi=>?_
   ·have hi:i=0:=by omega
    rw [if_pos (hold hi),if_pos (hold hi)] at hs hnx
    have:=ih2 (now,s.2.1,s.2.2.sub f old (zAQ now)) y4 y5 y6 y7 (r.set j dx) q N18 (by omega) ⟨hsz,hH.ot,hH.ty,hH.re⟩ hset hown ((sR f _ _ _).trans hle) hs (fun h=>absurd h (by omega)) hnx
    rwa [hrs] at this
   ·have hi:0<i:=by omega
    rw [if_neg (hne hi ho),if_neg (hne hi ho)] at hs hnx
    have:=ih2 (s.1,now,s.2.2.sub f old (zAQ now)) y4 y5 y6 y7 (r.set j dx) q N18 (by omega) ⟨hH.nm,hsz,hH.ty,hH.re⟩ hset hown ((sR f _ _ _).trans hle) hs (fun h=>absurd h (by omega)) hnx
    rwa [hrs] at this
/-- the parts, each put through, but for one -/
theorem qO {f:Nat} (hS:zOo 105 f) {k n0:Int} {nm ot:ByteArray} {ty re:Ty} {L Lf:List Tm} {x:ByteArray} {b:Tm} {db:D} (hb:b.Is db) (hbz:b.Z) (hL:∀ y∈L,y.dp≤f∧y.Z) (hLl:L.length≤1073741824) {at_:Int} {hid:Bool}
  (hlf:Lf.length=L.length) (hf:∀ (i:Nat) (y:Tm),L[i]?=some y→Lf[i]?=some (if hid=true∧(i:Int)=at_ then y else y.sub f x b)) {y4 y5 y6 y7:D} (hH:Tm.Hd nm ot ty re y4 y5 y6 y7) {r:List D} (hA:All2 Tm.Is L r) (q N N':Nat) (hN':N≤N') (hO:OwnL N N' ([y4,y5,y6,y7]++r))
  (Q:QT [.ag 9]) (hQ:∀ d' N'',N≤N''→(Tm.mk k nm ot n0 ty re Lf).Is d'→Own N N'' d'→Q d' N'') :
  zE Q N x at_ hid 0 db 0 (bytes []) (bytes []) 0 0 none [] 0 0 none [] 0 none [] 0 k nm ot n0 y4 y5 y6 y7 r.length q r q N':=by
 have hrl:=hA.len
 refine up hA (by omega) (fun i xs=>∀ (r':List D) (q N':Nat),N≤N'→All2 Tm.Is (Lf.take i++L.drop i) r'→r'.length=r.length→OwnL N N' ([y4,y5,y6,y7]++r') →
  zE Q N x at_ hid i db 0 (bytes []) (bytes []) 0 0 none [] 0 0 none [] 0 none [] 0 k nm ot n0 y4 y5 y6 y7 r.length q r' q N') ?_ ?_ r q N' hN' (by simpa using hA) rfl hO
 ·intro i hlt hi r' q N' hN' hA' hr' hO'
  rw [List.take_of_length_le (by omega),List.drop_eq_nil_of_le (by omega),List.append_nil] at hA'
  refine uP _ _ _ _ _ _ _ _ _ _ _ _ _ _ _ _ _ _ _ _ _ _ _ _ _ _ _ _ _ _ _ _ _ _ _ ?_
  rw [hlt]
  exact ⟨⟨by omega,rfl⟩,⟨by omega,rfl⟩,⟨by omega,rfl⟩,⟨by omega,rfl⟩,fun a2 N5 hN5 hf N6 hN6=>hQ _ _ (by omega) (Tm.is_mk.2 ⟨_,_,_,_,_,_,_,rfl,hH,by omega,hA'⟩) ((ux hO' hf hN5).mono (Nat.le_refl _) hN6)⟩
 ·intro i y xs hat _ ih2 r' q N' hN' hA' hr' hO'
  have hbd:=hat.b
  obtain ⟨hyd,hyz⟩:=hL y hat.m
  have hil:i<L.length:=(List.getElem?_eq_some_iff.1 hat.g).1
  have hfi:=hf i y hat.g
  have hyi:y.Is (r'.getD i default):=by
   refine hA'.get ?_
   rw [List.getElem?_append_right (by rw [List.length_take];omega),List.length_take,show i - min i Lf.length=0 by omega,List.getElem?_drop]
   exact hat.g
  have put:(if hid=true∧(i:Int)=at_ then y else y.sub f x b)=y.sub f x b→∀ N5,N'≤N5→ACalls prog 105 [.ag 9] [.dg 9 (List.getD r' i default),.str x,.dg 9 db] N5 (fun x_1 N6=>N5≤N6→Bel N6 x_1→((0:Int)≤(i:Int)∧(i:Int)<(r.length:Int)∧i<r'.length)∧i<r'.length ∧
    zE Q N x at_ hid ((i+1:Nat):Int) db 0 (bytes []) (bytes []) 0 0 none [] 0 0 none [] 0 none [] 0 k nm ot n0 y4 y5 y6 y7 r.length q (List.set r' i x_1) q N6):=fun e N5 hN5=>
   hS y _ x b db hyi hb hyd hyz hbz N5 _ fun dx N6 hN6 hx hox _ _=>⟨⟨by omega,by omega,by omega⟩,by omega,by
    rw [e] at hfi
    have h2:=uI (j:=i) hA' hx
    rw [zHp hlf hil hfi] at h2
    exact ih2 (r'.set i dx) q N6 (by omega) h2 (by simpa using hr') (sL hO' hox (by omega) (by omega) (by omega))⟩
  refine uP _ _ _ _ _ _ _ _ _ _ _ _ _ _ _ _ _ _ _ _ _ _ _ _ _ _ _ _ _ _ _ _ _ _ _ ?_
  rw [hat.lt,Int.toNat_natCast,hat.w,Nat.zero_add]
  refine Br.bne (fun hne=>⟨⟨by omega,by omega,by omega⟩,by omega,put (if_neg fun h=>hne h.2)⟩) fun heq=>?_
  refine Br.not (fun hh=>⟨⟨by omega,by omega,by omega⟩,by omega,put (if_neg fun h=>by rw [hh] at h;exact absurd h.1 (by decide))⟩) fun hh=>?_
  rw [if_pos ⟨hh,heq⟩] at hfi
  rw [zJF hil hat.g hfi] at hA'
  exact ih2 r' q N' hN' hA' hr' hO'
theorem zEb {g:Tm→Tm} {l:List Tm} {i:Nat} {y:Tm} (h:l[i]?=some y):(l.map g)[i]?=some (g y):=by rw [List.getElem?_map,h];rfl
theorem zEX:∀ f,zOo 105 f
 | 0=>fun e d x b db _ _ hdp=>absurd (Tm.dp_pos e) (by omega)
 | f + 1=>fun e d x b db he hb hdp hc hcb N Q hQ=>by
   have ih:=zEX f
   have hG:=hc.g
   have hGb:=hcb.g
   have hvb:=hcb.c
   cases e with
   | mk k nm ot n0 ty re l=>
   simp only [Tm.dp] at hdp
   have hp:∀ y∈l,y.dp≤f∧y.Z:=fun y hy=>⟨zBL.1 (Nat.le_of_succ_le_succ hdp) y hy,hc.mem y hy⟩
   obtain ⟨t0,t1,r0,r1,a,es,c,rfl,hh,hlen,hes⟩:=Tm.is_mk.1 he
   have hl:=hes.len
   have htl:=hG.2.2.1
   have hns:=rt k nm ot l.length
   have hnw:=zH (bdN k nm ot l.length)
   refine zAx N _ x db Q fun _ _=>⟨_,rfl,?_⟩
   have sub1:¬(k=1∧nm=x)→(Tm.mk k nm ot n0 ty re l).sub (f+1) x b=if xk k l.length<0 then .mk k nm ot n0 ty re (l.map fun t=>Tm.sub f t x b)
     else if x∈bdN k nm ot l.length∨x∉(l.getD (xk k l.length).toNat tm0).fv then
      .mk k nm ot n0 ty re ((l.map fun t=>Tm.sub f t x b).set (xk k l.length).toNat (l.getD (xk k l.length).toNat tm0))
     else
      .mk k (rns (Tm.sub f) k l.length b.fv x (bdN k nm ot l.length) (nm,ot,l.getD (xk k l.length).toNat tm0)).1
       (rns (Tm.sub f) k l.length b.fv x (bdN k nm ot l.length) (nm,ot,l.getD (xk k l.length).toNat tm0)).2.1 n0 ty re
       ((l.map fun t=>Tm.sub f t x b).set (xk k l.length).toNat (Tm.sub f (rns (Tm.sub f) k l.length b.fv x (bdN k nm ot l.length) (nm,ot,l.getD (xk k l.length).toNat tm0)).2.2 x b)):=fun hn=>by
    simp only [Tm.sub]
    by_cases hk:k=1
    ·rw [if_pos hk,if_neg (fun h=>hn ⟨hk,h⟩)]
     have:l=[]:=hc.v.1 hk
     subst this
     subst hk
     rw [if_pos (by decide)]
     rfl
    ·rw [if_neg hk]
   refine Br.beq (fun h1=>⟨_,rfl,Br.str (fun h2 N1 hN1=>?_) fun h2=>?_⟩) fun h1=>?_
   ·simp only [Tm.sub] at hQ
    rw [if_pos h1,if_pos h2] at hQ
    refine vJ b db hb hGb N1 _ ?_
    cases b with
    | mk k2 nm2 ot2 n2 ty2 re2 l2=>
    simp only [vr]
    intro x4 x5 x6 x7 es' c' N2 hN2 hh' hes' ho' _ _
    have hl':=hes'.len
    have hgl:=hGb.2.2.1
    exact ⟨⟨trivial,trivial⟩,⟨trivial,trivial⟩,fun a2 N3 hN3 hf N4 hN4=>hQ _ _ (by omega) (Tm.is_mk.2 ⟨_,_,_,_,_,_,_,rfl,hh',by omega,hes'⟩) ((ux (ho'.mono hN1 (Nat.le_refl _)) hf hN3).mono (Nat.le_refl _) hN4)⟩
   all_goals
    rw [sub1 (fun h=>by first | exact h2 h.2 | exact h1 h.1)] at hQ
    intro N1 hN1
    refine vJ _ _ he hG N1 _ ?_
    simp only [vr]
    intro x4 x5 x6 x7 es' c' N2 hN2 hh' hes' ho' _ _ N3 hN3
    have hl':=hes'.len
    refine qR (n:=l.length) (by omega) N3 _ fun a1 c1 N4 hN4 _ _ _ N5 hN5=>?_
    refine yO _ (by omega) a1 c1 x N5 _ fun N6 hN6 _=>?_
    rw [zF2]
    have hO0:OwnL N N6 ([x4,x5,x6,x7]++es'):=ho'.mono hN1 (by omega)
    refine Br.dec (fun hge=>?_) fun hlt=>?_
    ·rw [if_neg (by omega)] at hQ
     obtain ⟨g1,g2⟩:=vM (k:=k) (n:=l.length) (by omega)
     obtain ⟨j,hat⟩:∃ j:Nat,xk k l.length=(j:Int):=⟨_,g2.symm⟩
     rw [hat] at g1 hQ ⊢
     rw [Int.toNat_natCast] at g1 hQ ⊢
     generalize hpp:l.getD j tm0=p at hQ
     have hpl:l[j]?=some p:=hpp ▸ yV g1
     obtain ⟨hpd,hpc⟩:=hp p (List.mem_of_getElem? hpl)
     have hpvc:=hpc.c
     have hpi:=zP hes g1
     rw [hpp] at hpi
     refine Br.ndec (fun hx=>⟨_,_,_,rfl,⟨by omega,by omega⟩,fun N7 hN7=>?_⟩) fun hx=>?_
     ·have hfv:=Tm.fv_len p
      refine wE p _ hpi hpvc N7 _ fun a8 c8 N8 hN8 _ _ _ N9 hN9=>yO _ (by omega) a8 c8 x N9 _ fun N10 hN10 _=>?_
      rw [zF2]
      rw [decide_eq_false hx]
      refine Br.dec (fun hx2 N11 hN11=>?_) fun hx2=>?_
      ·rw [if_neg (by rintro (h | h);exact hx h;exact h hx2)] at hQ
       have hfvb:=Tm.fv_len b
       refine wE b _ hb hvb N11 _ fun a12 c12 N12 hN12 _ _ _ N13 hN13=>?_
       generalize hT:rns (Tm.sub f) k l.length b.fv x (bdN k nm ot l.length) (nm,ot,p)=T at hQ
       have hle:=pw (sR f) k l.length b.fv x (bdN k nm ot l.length) (nm,ot,p)
       rw [hT] at hle
       have hled:=hle.d
       refine zLX ih he hG hat hpp hpd hpc x b.fv (by omega) a12 c12 N13 hT _ ?_
       simp only [vr]
       intro z4 z5 z6 z7 es9 c9 N17 hN17 hh9 hes9 ho9 _ _
       refine qO ih hb hcb (L:=l.set j T.2.2) (Lf:=(l.map fun t=>t.sub f x b).set j (T.2.2.sub f x b)) (fun y hy=>?_) (by simpa using htl) (by simp) (fun i y hy=>?_) hh9 hes9 c9 N N17 (by omega) (ho9.mono (by omega) (Nat.le_refl _)) Q hQ
       ·rcases List.mem_or_eq_of_mem_set hy with hy | rfl
        ·exact hp y hy
        ·exact ⟨Nat.le_trans hled hpd,hle.z hpc⟩
       ·rw [if_neg (fun h=>by simp at h)]
        rw [←List.map_set]
        exact zEb hy
      ·rw [if_pos (.inr hx2)] at hQ
       refine qO ih hb hcb hp htl (by simp) (fun i y hy=>?_) hh' hes' c' N N10 (by omega) (hO0.mono (Nat.le_refl _) (by omega)) Q hQ
       rw [if_neg (fun h=>by simp at h)]
       by_cases hij:j=i
       ·subst hij
        have:y=p:=Option.some.inj (hy.symm.trans hpl)
        rw [List.getElem?_set_self (by simpa using g1),this,zNY f p x b hx2]
       ·rw [List.getElem?_set_ne hij];exact zEb hy
     ·rw [if_pos (.inl hx)] at hQ
      rw [decide_eq_true hx]
      refine qO ih hb hcb hp htl (by simp) (fun i y hy=>?_) hh' hes' c' N N6 (by omega) hO0 Q hQ
      by_cases hij:j=i
      ·subst hij
       have:y=p:=Option.some.inj (hy.symm.trans hpl)
       rw [if_pos ⟨rfl,rfl⟩,List.getElem?_set_self (by simpa using g1),this]
      ·rw [if_neg (fun h=>hij (by omega)),List.getElem?_set_ne hij];exact zEb hy
    ·rw [if_pos (by omega)] at hQ
     refine qO ih hb hcb hp htl (by simp) (fun i y hy=>?_) hh' hes' c' N N6 (by omega) hO0 Q hQ
     rw [if_neg (fun h=>by have:=h.2;omega)]
     exact zEb hy
end Go.Proofs.YtnpjpplbkoammaaGreatDoor
