/- What terms mean, with stages left out: values of simple types, functions that start from nothing k times (no program in sight). -/
import Derived.Test.YtnmnahkkcfghjaaGreatB6
set_option linter.unusedVariables false
set_option linter.unusedSimpArgs false
namespace Go.Proofs.YtnmnahkkcfghjaaGreat
open Go Go.Proofs Go.Proofs.Tryz Go.IntWalk
/-- types without stages -/
inductive STy
 | b
 | fn (x y:STy)
def Sem:STy->Type
 | .b=>Option Int
 | .fn x y=>Sem x->Sem y
def bot:(τ:STy)->Sem τ
 | .b=>(none:Option Int)
 | .fn _ y=>λ_=>bot y
/-- less is known of the first -/
def Rl:(τ:STy)->Sem τ->Sem τ->Prop
 | .b,x,y=>x=(none:Option Int)\/x=y
 | .fn x y,f,g=>∀ v w,Rl x v w->Rl y (f v) (g w)
theorem zEW:∀ (τ:STy) (v:Sem τ),Rl τ (bot τ) v
 | .b,v=>.inl rfl
 | .fn _ y,v=>λ_ w _=>zEW y (v w)
structure Sig where
 t:STy
 v:Sem t
open Classical in
noncomputable def Sig.at (d:Sig) (τ:STy):Sem τ:=if h:d.t=τ then h ▸ d.v else bot τ
theorem zAy (τ:STy) (v:Sem τ):(⟨τ,v⟩:Sig).at τ=v:=dif_pos rfl
theorem zRV {d:Sig} {τ:STy} (h:d.t≠τ):d.at τ=bot τ:=dif_neg h
def RS (d e:Sig):Prop:=d.t=e.t/\∀ τ,Rl τ (d.at τ) (e.at τ)
theorem xz {τ:STy} {v w:Sem τ} (h:Rl τ v w):RS ⟨τ,v⟩ ⟨τ,w⟩:=⟨rfl,fun σ=>by
 by_cases e:τ=σ
 ·subst e;rw [zAy,zAy];exact h
 ·rw [zRV (d:=⟨τ,v⟩) e];exact zEW _ _⟩
theorem zOv {τ:STy} {v w:Sem τ} (h:RS ⟨τ,v⟩ ⟨τ,w⟩):Rl τ v w:=by
 have:=h.2 τ
 rwa [zAy,zAy] at this
def jk:Sig:=⟨.b,(none:Option Int)⟩
theorem zKC:RS jk jk:=xz (.inl rfl)
abbrev Ev:=ByteArray->Sig
def Ev.set (ρ:Ev) (x:ByteArray) (d:Sig):Ev:=λs=>if s=x then d else ρ s
theorem wK (ρ:Ev) (x:ByteArray) (d:Sig):ρ.set x d x=d:=if_pos rfl
theorem za (ρ:Ev) {x s:ByteArray} (h:s≠x) (d:Sig):ρ.set x d s=ρ s:=if_neg h
def RE (ρ σ:Ev):Prop:=∀ s,RS (ρ s) (σ s)
theorem RE.set {ρ σ:Ev} (h:RE ρ σ) {x:ByteArray} {d e:Sig} (hd:RS d e):RE (ρ.set x d) (σ.set x e):=λs=>by
 unfold Ev.set;split
 ·exact hd
 ·exact h s
noncomputable def zSA:Sig->Sig->Sig
 | ⟨.fn a c,g⟩,x=>⟨c,g (x.at a)⟩
 | ⟨.b,_⟩,_=>jk
noncomputable def ifS (c t e:Sig):Sig:=⟨t.t,match (c.at .b:Option Int) with
 | none=>bot t.t
 | some n=>if n=0 then e.at t.t else t.at t.t⟩
noncomputable def zO8 (a:STy) (F:Sig->Sig):Sig:=⟨.fn a (F ⟨a,bot a⟩).t,λv=>(F ⟨a,v⟩).at (F ⟨a,bot a⟩).t⟩
def itr (τ:STy) (G:Sem τ->Sem τ):Nat->Sem τ
 | 0=>bot τ
 | k+1=>G (itr τ G k)
noncomputable def zQT (K:Nat) (a c:STy) (F:Sig->Sig->Sig):Sig:=⟨.fn a c,itr (.fn a c) (λg v=>(F ⟨.fn a c,g⟩ ⟨a,v⟩).at c) K⟩
def opS (s:ByteArray) (n:Nat) (x y:Option Int):Option Int:=if n=2 then x.bind λa=>y.map λb=>(yS s a b).1 else x.map λa=>(yS s a 0).1
mutual
def Ty.st:Ty->STy
 | .mk k l=>if k=3 then .fn ((zNh l).getD 0 .b) ((zNh l).getD 1 .b) else if k=4 then (zNh l).getD 0 .b else .b
def zNh:List Ty->List STy
 | []=>[]
 | t::I=>t.st::zNh I
end
noncomputable def ndS (K:Nat) (k:Int) (nm ot:ByteArray) (n:Int) (ty re:Ty) (c:Nat) (g:Nat->Ev->Sig) (ρ:Ev):Sig:=
 if k=1 then ρ nm else if k=2\/k=3 then ⟨.b,some n⟩
 else if k=4 then ⟨.b,opS nm c ((g 0 ρ).at .b) ((g 1 ρ).at .b)⟩
 else if k=5 then ifS (g 0 ρ) (g 1 ρ) (g 2 ρ)
 else if k=6 then (if c=1 then zO8 ty.st (λd=>g 0 (ρ.set nm d)) else jk)
 else if k=7 then zSA (g 0 ρ) (g 1 ρ)
 else if k=8 then (if c=2 then g 1 (ρ.set nm (g 0 ρ)) else jk)
 else if k=9 then (if c=1 then zQT K ty.st re.st (λd e=>g 0 ((ρ.set nm d).set ot e)) else jk)
 else g 0 ρ
mutual
noncomputable def Tm.den (K:Nat):Tm->Ev->Sig
 | .mk k nm ot n ty re l=>ndS K k nm ot n ty re l.length (λi=>(zQb K l).getD i (λ_=>jk))
noncomputable def zQb (K:Nat):List Tm->List (Ev->Sig)
 | []=>[]
 | t::I=>t.den K::zQb K I
end
theorem zLU (K:Nat):∀ (l:List Tm) (i:Nat),(zQb K l).getD i (λ_=>jk)=(l.getD i tm0).den K
 | [],i=>by
   funext ρ
   simp [zQb,tm0,Tm.den,ndS]
 | t::I,0=>by simp only [zQb,mu]
 | t::I,i+1=>by simp only [zQb,mv];exact zLU K I i
theorem w7 (K:Nat) (k:Int) (nm ot:ByteArray) (n:Int) (ty re:Ty) (l:List Tm) (ρ:Ev):(Tm.mk k nm ot n ty re l).den K ρ=ndS K k nm ot n ty re l.length (λi=>(l.getD i tm0).den K) ρ:=by
 simp only [Tm.den]
 congr 1
 funext i
 exact zLU K l i
section
variable (K:Nat) (nm ot:ByteArray) (n:Int) (ty re:Ty) (ρ:Ev)
theorem zQZ (l:List Tm):(Tm.mk 1 nm ot n ty re l).den K ρ=ρ nm:=by rw [w7];rfl
theorem zIY {k:Int} (I:k=2\/k=3) (l:List Tm):(Tm.mk k nm ot n ty re l).den K ρ=⟨.b,some n⟩:=by
 rw [w7];unfold ndS;rw [if_neg (by omega),if_pos I]
theorem zR9 (l:List Tm):(Tm.mk 4 nm ot n ty re l).den K ρ=⟨.b,opS nm l.length (((l.getD 0 tm0).den K ρ).at .b) (((l.getD 1 tm0).den K ρ).at .b)⟩:=by rw [w7];rfl
theorem zOe (a b c:Tm):(Tm.mk 5 nm ot n ty re [a,b,c]).den K ρ=ifS (a.den K ρ) (b.den K ρ) (c.den K ρ):=by rw [w7];rfl
theorem zPI (b:Tm):(Tm.mk 6 nm ot n ty re [b]).den K ρ=zO8 ty.st (λd=>b.den K (ρ.set nm d)):=by rw [w7];rfl
theorem zQB (a b:Tm):(Tm.mk 7 nm ot n ty re [a,b]).den K ρ=zSA (a.den K ρ) (b.den K ρ):=by rw [w7];rfl
theorem zOJ (a b:Tm):(Tm.mk 8 nm ot n ty re [a,b]).den K ρ=b.den K (ρ.set nm (a.den K ρ)):=by rw [w7];rfl
theorem zOc (b:Tm):(Tm.mk 9 nm ot n ty re [b]).den K ρ=zQT K ty.st re.st (λd e=>b.den K ((ρ.set nm d).set ot e)):=by rw [w7];rfl
theorem zDT {k:Int} (I:k=10\/k=11\/k=12\/k=13) (l:List Tm):(Tm.mk k nm ot n ty re l).den K ρ=(l.getD 0 tm0).den K ρ:=by
 rw [w7];unfold ndS
 rw [if_neg (by omega),if_neg (by omega),if_neg (by omega),if_neg (by omega),if_neg (by omega),if_neg (by omega),if_neg (by omega),if_neg (by omega)]
end
theorem zMF {f f' x I:Sig} (J:RS f f') (U:RS x I):RS (zSA f x) (zSA f' I):=by
 obtain ⟨O,g⟩:=f
 obtain ⟨tf',g'⟩:=f'
 have h:O=tf':=J.1
 subst h
 cases O with
 | b=>exact zKC
 | fn a c=>exact xz (zOv J _ _ (U.2 a))
theorem zNp {c J t t' e e':Sig} (hc:RS c J) (U:RS t t') (Y:RS e e'):RS (ifS c t e) (ifS J t' e'):=by
 obtain ⟨I,tv⟩:=t
 obtain ⟨tt',O⟩:=t'
 have h:I=tt':=U.1
 subst h
 refine xz ?_
 have h0:(c.at .b:Option Int)=none\/(c.at .b:Option Int)=(J.at .b:Option Int):=hc.2 .b
 show Rl I (match (c.at .b:Option Int) with | none=>bot I | some n=>if n=0 then e.at I else Sig.at ⟨I,tv⟩ I) (match (J.at .b:Option Int) with | none=>bot I | some n=>if n=0 then e'.at I else Sig.at ⟨I,O⟩ I)
 rcases h0 with h0 | h0
 ·rw [h0];exact zEW _ _
 ·rw [h0]
  cases (J.at .b:Option Int) with
  | none=>exact zEW _ _
  | some n=>
    show Rl I (if n=0 then _ else _) (if n=0 then _ else _)
    split
    ·exact Y.2 I
    ·exact U.2 I
theorem zSs {a c I:STy} {f:Sem a->Sig} {f':Sem a->Sig} (hc:c=I) (h:∀ v w,Rl a v w->RS (f v) (f' w)):RS ⟨.fn a c,λv=>(f v).at c⟩ ⟨.fn a I,λv=>(f' v).at I⟩:=by
 subst hc
 exact xz λv w J=>(h v w J).2 c
theorem zOz {a:STy} {F I:Sig->Sig} (h:∀ v w,Rl a v w->RS (F ⟨a,v⟩) (I ⟨a,w⟩)):RS (zO8 a F) (zO8 a I):=
 zSs (f:=λv=>F ⟨a,v⟩) (f':=λv=>I ⟨a,v⟩) (h _ _ (zEW a _)).1 h
theorem zKh {τ:STy} {G I:Sem τ->Sem τ} (h:∀ v w,Rl τ v w->Rl τ (G v) (I w)):∀ {K K':Nat},K<=K'->Rl τ (itr τ G K) (itr τ I K')
 | 0,_,_=>zEW _ _
 | K+1,0,J=>absurd J (by omega)
 | K+1,K'+1,J=>h _ _ (zKh h (by omega))
theorem zOn {K K':Nat} (J:K<=K') {a c:STy} {F I:Sig->Sig->Sig} (h:∀ f g v w,Rl (.fn a c) f g->Rl a v w->RS (F ⟨.fn a c,f⟩ ⟨a,v⟩) (I ⟨.fn a c,g⟩ ⟨a,w⟩)):RS (zQT K a c F) (zQT K' a c I):=
 xz (zKh (λf g O v w U=>(h f g v w O U).2 c) J)
theorem zR6 (s:ByteArray) (n:Nat) {x I y y':Option Int} (J:x=none\/x=I) (O:y=none\/y=y'):opS s n x y=none\/opS s n x y=opS s n I y':=by
 unfold opS
 rcases J with rfl | rfl
 ·left;split<;>rfl
 ·rcases O with rfl | rfl
  ·split
   ·left;cases x<;>rfl
   ·right;rfl
  ·right;rfl
/-- nodes whose parts know less know less -/
theorem zPo {K K':Nat} (hK:K<=K') {k:Int} {nm ot:ByteArray} {n:Int} {ty re:Ty} {c:Nat} {g g':Nat->Ev->Sig} {ρ σ:Ev} (hv:k=1->RS (ρ nm) (σ nm))
  (h:∀ (i:Nat),(i:Int)≠ze k c->RS (g i ρ) (g' i σ))
  (h6:k=6->c=1->∀ v w,Rl ty.st v w->RS (g 0 (ρ.set nm ⟨ty.st,v⟩)) (g' 0 (σ.set nm ⟨ty.st,w⟩)))
  (h8:k=8->c=2->RS (g 1 (ρ.set nm (g 0 ρ))) (g' 1 (σ.set nm (g' 0 σ))))
  (h9:k=9->c=1->∀ f f' v w,Rl (.fn ty.st re.st) f f'->Rl ty.st v w->RS (g 0 ((ρ.set nm ⟨.fn ty.st re.st,f⟩).set ot ⟨ty.st,v⟩)) (g' 0 ((σ.set nm ⟨.fn ty.st re.st,f'⟩).set ot ⟨ty.st,w⟩))) :
  RS (ndS K k nm ot n ty re c g ρ) (ndS K' k nm ot n ty re c g' σ):=by
 have nb:¬(k=6\/k=8\/k=9)->ze k c = -1:=λhk=>by unfold ze;rw [if_neg (by omega),if_neg (by omega),if_neg (by omega)]
 unfold ndS
 by_cases e1:k=1
 ·rw [if_pos e1,if_pos e1];exact hv e1
 rw [if_neg e1,if_neg e1]
 by_cases U:k=2\/k=3
 ·rw [if_pos U,if_pos U];exact xz (.inr rfl)
 rw [if_neg U,if_neg U]
 by_cases Y:k=4
 ·rw [if_pos Y,if_pos Y]
  have hb:=nb (by omega)
  exact xz (zR6 nm c ((h 0 (by omega)).2 .b) ((h 1 (by omega)).2 .b))
 rw [if_neg Y,if_neg Y]
 by_cases e5:k=5
 ·rw [if_pos e5,if_pos e5]
  have hb:=nb (by omega)
  exact zNp (h 0 (by omega)) (h 1 (by omega)) (h 2 (by omega))
 rw [if_neg e5,if_neg e5]
 by_cases I:k=6
 ·rw [if_pos I,if_pos I]
  split
  ·rename_i hc;exact zOz (h6 I hc)
  ·exact zKC
 rw [if_neg I,if_neg I]
 by_cases e7:k=7
 ·rw [if_pos e7,if_pos e7]
  have hb:=nb (by omega)
  exact zMF (h 0 (by omega)) (h 1 (by omega))
 rw [if_neg e7,if_neg e7]
 by_cases J:k=8
 ·rw [if_pos J,if_pos J]
  split
  ·rename_i hc;exact h8 J hc
  ·exact zKC
 rw [if_neg J,if_neg J]
 by_cases O:k=9
 ·rw [if_pos O,if_pos O]
  split
  ·rename_i hc;exact zOn hK (h9 O hc)
  ·exact zKC
 rw [if_neg O,if_neg O]
 have hb:=nb (by omega)
 exact h 0 (by omega)
/-- where less is known, less is meant -/
theorem pD {K K':Nat} (O:K<=K'):∀ (e:Tm) (ρ σ:Ev),RE ρ σ->RS (e.den K ρ) (e.den K' σ):=by
 refine Tm.ind λk nm ot n ty re l U ρ σ h=>?_
 have I:∀ i ρ σ,RE ρ σ->RS ((l.getD i tm0).den K ρ) ((l.getD i tm0).den K' σ):=λi ρ σ h=>by
  by_cases hi:i<l.length
  ·exact U _ (zU hi) ρ σ h
  ·rw [oA,oT (by omega)];exact zKC
 rw [w7,w7]
 exact zPo O (λ_=>h nm) (λi _=>I i _ _ h) (λ_ _ v w J=>I 0 _ _ (h.set (xz J))) (λ_ _=>I 1 _ _ (h.set (I 0 _ _ h))) λ_ _ f f' v w Y J=>I 0 _ _ ((h.set (xz Y)).set (xz J))
/-- what a term means leans on its free names alone -/
theorem vZ {K:Nat}:∀ (e:Tm) (ρ σ:Ev),(∀ s∈e.fv,ρ s=σ s)->e.den K ρ=e.den K σ:=by
 refine Tm.ind λk nm ot n ty re l ih ρ σ h=>?_
 have hg:∀ i (ρ' σ':Ev),i<l.length->(∀ s,s∈(l.getD i tm0).fv->ρ' s=σ' s)->(l.getD i tm0).den K ρ'=(l.getD i tm0).den K σ':=λi ρ' σ' hi h=>ih _ (zU hi) ρ' σ' h
 have O:k≠1->∀ (i:Nat),(i:Int)≠ze k l.length->(l.getD i tm0).den K ρ=(l.getD i tm0).den K σ:=λhk i J=>by
  by_cases hi:i<l.length
  ·exact hg i _ _ hi λs hs=>h s (zFU hk (zN hi) (by rw [sZ J];exact hs))
  ·rw [oA,oT (by omega)];rfl
 have U:k≠1->∀ (i:Nat) (s:ByteArray),i<l.length->(i:Int)=ze k l.length->s∈(l.getD i tm0).fv->s∉bdN k nm ot l.length->ρ s=σ s:=λhk i s hi J hs hn=>h s (zFU hk (zN hi) (by rw [zHC J];exact xf.2 ⟨hs,hn⟩))
 rw [w7,w7]
 unfold ndS
 by_cases e1:k=1
 ·rw [if_pos e1,if_pos e1]
  refine h nm ?_
  simp only [Tm.fv,if_pos e1,oY]
 rw [if_neg e1,if_neg e1]
 have nb:¬(k=6\/k=8\/k=9)->ze k l.length = -1:=λhk=>by unfold ze;rw [if_neg (by omega),if_neg (by omega),if_neg (by omega)]
 by_cases eb:k=6\/k=8\/k=9
 ·have e2:¬(k=2\/k=3):=by omega
  have e4:¬k=4:=by omega
  have e5:¬k=5:=by omega
  have e7:¬k=7:=by omega
  simp only [if_neg e2,if_neg e4,if_neg e5,if_neg e7]
  by_cases e6:k=6
  ·simp only [if_pos e6]
   split
   ·rename_i hc
    have J:ze k l.length=0:=by unfold ze;rw [if_pos ⟨e6,hc⟩]
    congr 1
    funext d
    refine hg 0 _ _ (by omega) λs hs=>?_
    unfold Ev.set
    split
    ·rfl
    ·rename_i I
     exact U e1 0 s (by omega) (by rw [J];rfl) hs (by unfold bdN;rw [if_pos ⟨e6,hc⟩];simpa using I)
   ·rfl
  ·simp only [if_neg e6]
   by_cases e8:k=8
   ·simp only [if_pos e8]
    split
    ·rename_i hc
     have J:ze k l.length=1:=by unfold ze;rw [if_neg (by omega),if_pos ⟨e8,hc⟩]
     rw [O e1 0 (by omega)]
     refine hg 1 _ _ (by omega) λs hs=>?_
     unfold Ev.set
     split
     ·rfl
     ·rename_i I
      exact U e1 1 s (by omega) (by rw [J];rfl) hs (by unfold bdN;rw [if_neg (by omega),if_pos ⟨e8,hc⟩];simpa using I)
    ·rfl
   ·have e9:k=9:=by omega
    simp only [if_neg e8,if_pos e9]
    split
    ·rename_i hc
     have J:ze k l.length=0:=by unfold ze;rw [if_neg (by omega),if_neg (by omega),if_pos ⟨e9,hc⟩]
     congr 1
     funext d e
     refine hg 0 _ _ (by omega) λs hs=>?_
     unfold Ev.set
     split
     ·rfl
     ·rename_i I
      split
      ·rfl
      ·rename_i Y
       exact U e1 0 s (by omega) (by rw [J];rfl) hs (by unfold bdN;rw [if_neg (by omega),if_neg (by omega),if_pos ⟨e9,hc⟩];simp [I,Y])
    ·rfl
 ·have J:=nb eb
  have hx:∀ i,(l.getD i tm0).den K ρ=(l.getD i tm0).den K σ:=λi=>O e1 i (by omega)
  simp only [hx,if_neg (show ¬k=6 by omega),if_neg (show ¬k=8 by omega),if_neg (show ¬k=9 by omega)]
mutual
def Tm.rd:Tm->Prop
 | .mk k nm ot _ _ _ l=>(k=9->nm≠ot)/\zMH l
def zMH:List Tm->Prop
 | []=>True
 | t::I=>t.rd/\zMH I
end
theorem zG3:∀ {l:List Tm},zMH l↔∀ x∈l,x.rd
 | []=>by simp [zMH]
 | t::I=>by simp only [zMH,zG3 (l:=I),oF,nY]
theorem zBV {k:Int} {nm ot:ByteArray} {n:Int} {ty re:Ty} {l:List Tm}:(Tm.mk k nm ot n ty re l).rd↔(k=9->nm≠ot)/\∀ x∈l,x.rd:=by simp only [Tm.rd,zG3]
theorem zSv:∀ t:Tm,t.ok=true->t.rd:=by
 refine Tm.ind λk nm ot n ty re l J h=>?_
 obtain ⟨O,U,h3⟩:=Tm.ok_mk.1 h
 refine zBV.2 ⟨λY=>?_,λx I=>J x I (O x I)⟩
 subst Y
 have hl:l.length=1:=(vp h).1 (.inr (.inl rfl))
 exact ((zGP (m:=l.length) (by rw [hl];decide) U).2 rfl).2
theorem zAC {s w:ByteArray} {l:List ByteArray} (I:s∈l) (J:w∉l):s≠w:=λe=>by subst e;exact J I
/-- two names that a node binds, or one -/
theorem zOr {k:Int} {n:Nat} (J:¬ze k n<0):(k=6/\n=1\/k=8/\n=2)/\(∀ a b:ByteArray,bdN k a b n=[a])\/(k=9/\n=1)/\∀ a b:ByteArray,bdN k a b n=[a,b]:=by
 rcases xw k n with h | ⟨_,I,h | h⟩ | ⟨_,I,h⟩
 ·omega
 ·exact .inl ⟨.inl ⟨h,I⟩,λa b=>by subst h;subst I;rfl⟩
 ·exact .inr ⟨⟨h,I⟩,λa b=>by subst h;subst I;rfl⟩
 ·exact .inl ⟨.inr ⟨h,I⟩,λa b=>by subst h;subst I;rfl⟩
theorem zEP:∀ (f:Nat) (t:Tm) (x:ByteArray) (b:Tm),t.rd->b.rd->(t.sub f x b).rd
 | 0,t,x,b,h,_=>h
 | f + 1,.mk k nm ot n ty re l,x,b,h,hb=>by
   have ih:=zEP f
   obtain ⟨h1,h2⟩:=zBV.1 h
   have mp:∀ z∈l.map (λt=>Tm.sub f t x b),z.rd:=λz J=>by
    obtain ⟨w,hw,rfl⟩:=oQ.1 J
    exact ih w x b (h2 w hw) hb
   have vr:∀ s:ByteArray,(vL s).rd:=λs=>zBV.2 ⟨λh=>absurd h (by decide),by simp⟩
   simp only [Tm.sub]
   split
   ·split
    ·exact hb
    ·exact h
   ·split
    ·exact zBV.2 ⟨h1,mp⟩
    ·rename_i O
     obtain ⟨g1,g2⟩:=xT O
     have hp:=h2 _ (oB (zN g1))
     have key:∀ v:Tm,v.rd->∀ z∈(l.map λt=>Tm.sub f t x b).set (ze k l.length).toNat v,z.rd:=λv hv z J=>by
      rcases nF J with J | rfl
      ·exact mp z J
      ·exact hv
     split
     ·exact zBV.2 ⟨h1,key _ hp⟩
     ·refine zBV.2 ⟨λh9=>?_,key _ (ih _ x b (zQK (P:=Tm.rd) (λt x y ht=>ih t x _ ht (vr y)) _ _ _ _ _ _ hp) hb)⟩
      rcases zOr O with ⟨h6,_⟩ | ⟨⟨_,hl⟩,ab⟩
      ·omega
      ·have U:=h1 h9
       simp only [ab,rns,rn1]
       have Y:∀ (I:Tm) (a:ByteArray),¬fresh (b.fv++(I.fv++([x]++[a,ot])))=ot:=λI a hc=>ym (b.fv++(I.fv++([x]++[a,ot]))) (by rw [hc];simp)
       have aa:∀ (I:Tm) (a:ByteArray),¬a=fresh (b.fv++(I.fv++([x]++[a,ot]))):=λI a hc=>ym (b.fv++(I.fv++([x]++[a,ot]))) (by rw [<-hc];simp)
       by_cases hf:nm∈b.fv
       ·simp only [hf,Y,↓reduceIte]
        split
        ·exact aa _ _
        ·exact Y _ _
       ·simp only [hf,↓reduceIte]
        split
        ·simp only [U,↓reduceIte];exact aa _ _
        ·exact U
/-- a name for a name, in what is meant -/
theorem zK8 {K f:Nat} (J:∀ (t:Tm) (x:ByteArray) (b:Tm) (ρ:Ev),t.dp<=f->t.rd->(t.sub f x b).den K ρ=t.den K (ρ.set x (b.den K ρ))) {u:Tm} {o w:ByteArray} (hd:u.dp<=f) (O:u.rd) (Y:w∉u.fv) (σ τ:Ev) (h:∀ s∈u.fv,s≠o->σ s=τ s) (U:σ w=τ o):(u.sub f o (vL w)).den K σ=u.den K τ:=by
 rw [J u o (vL w) σ hd O]
 refine vZ u _ _ λs hs=>?_
 unfold Ev.set
 split
 ·rename_i e;subst e
  show (vL w).den K σ=_
  rw [show (vL w).den K σ=σ w from zQZ K _ _ _ _ _ σ []]
  exact U
 ·rename_i I;exact h s hs I
theorem zC4 (K:Nat):∀ (f:Nat) (e:Tm) (x:ByteArray) (b:Tm) (ρ:Ev),e.dp<=f->e.rd->(e.sub f x b).den K ρ=e.den K (ρ.set x (b.den K ρ))
 | 0,e,x,b,ρ,h,_=>absurd (Tm.dp_pos e) (by omega)
 | f + 1, .mk k nm ot n ty re l,x,b,ρ,hd,U=>by
   have ih:=zC4 K f
   obtain ⟨h1,h2⟩:=zBV.1 U
   have al:=hd
   simp only [Tm.dp] at al
   have ai:∀ z∈l,z.dp<=f:=λz hz=>oN (va.1 (oD _) z hz) (by omega)
   have vr:∀ s:ByteArray,(vL s).rd:=λs=>zBV.2 ⟨λh=>absurd h (by decide),by simp⟩
   have mp:∀ i,((l.map λt=>Tm.sub f t x b).getD i tm0).den K ρ=(l.getD i tm0).den K (ρ.set x (b.den K ρ)):=λi=>by
    by_cases hi:i<l.length
    ·have hm:=zU (l:=l) hi
     rw [oA,oE,zN hi]
     exact ih _ x b ρ (ai _ hm) (h2 _ hm)
    ·rw [oA,oA,oT (by simpa using hi),oT (by omega)];rfl
   by_cases hk:k=1
   ·subst hk
    simp only [Tm.sub,if_pos]
    rw [zQZ]
    unfold Ev.set
    split
    ·rfl
    ·rw [zQZ]
   by_cases J:ze k l.length<0
   ·simp only [Tm.sub,if_neg hk,if_pos J]
    rw [w7,w7,oV]
    have n6:¬(k=6/\l.length=1):=λh=>by unfold ze at J;rw [if_pos h] at J;omega
    have n8:¬(k=8/\l.length=2):=λh=>by unfold ze at J;rw [if_neg (by omega),if_pos h] at J;omega
    have n9:¬(k=9/\l.length=1):=λh=>by unfold ze at J;rw [if_neg (by omega),if_neg (by omega),if_pos h] at J;omega
    unfold ndS
    simp only [mp,if_neg hk]
    split
    ·rfl
    ·split
     ·rfl
     ·split
      ·rfl
      ·by_cases e6:k=6
       ·simp only [if_pos e6,if_neg (show ¬l.length=1 from λh=>n6 ⟨e6,h⟩)]
       ·simp only [if_neg e6]
        split
        ·rfl
        ·by_cases e8:k=8
         ·simp only [if_pos e8,if_neg (show ¬l.length=2 from λh=>n8 ⟨e8,h⟩)]
         ·simp only [if_neg e8]
          by_cases e9:k=9
          ·simp only [if_pos e9,if_neg (show ¬l.length=1 from λh=>n9 ⟨e9,h⟩)]
          ·simp only [if_neg e9]
   ·obtain ⟨g1,g2⟩:=xT J
    have aj:=oB (zN g1)
    have ab:=ai _ aj
    have ac:=h2 _ aj
    -- what the body means, whatever the bound names mean
    have one:∀ (p:Tm),p.dp<=f->p.rd->(∀ a b:ByteArray,bdN k a b l.length=[a])->∀ d,
      (if x∈bdN k nm ot l.length\/x∉p.fv then p.den K (ρ.set nm d) else (Tm.sub f (rns (Tm.sub f) k l.length b.fv x (bdN k nm ot l.length) (nm,ot,p)).2.2 x b).den K (ρ.set (rns (Tm.sub f) k l.length b.fv x (bdN k nm ot l.length) (nm,ot,p)).1 d))=p.den K ((ρ.set x (b.den K ρ)).set nm d):=λp Y U ho d=>by
     simp only [ho,rns,rn1,↓reduceIte,oY]
     split
     ·rename_i hc
      refine vZ p _ _ λs hs=>?_
      unfold Ev.set
      split
      ·rfl
      ·rename_i O
       rw [if_neg]
       rintro rfl
       rcases hc with hc | hc
       ·exact O hc
       ·exact hc hs
     ·rename_i hc
      simp only [not_or,Classical.not_not] at hc
      by_cases hf:nm∈b.fv
      ·simp only [hf,↓reduceIte]
       have I:=ym (b.fv++(p.fv++([x]++[nm])))
       generalize fresh (b.fv++(p.fv++([x]++[nm])))=w at I ⊢
       simp only [oJ,oF,od,nl,not_or] at I
       obtain ⟨w1,w2,w3,w4⟩:=I
       rw [ih _ x b _ (oN (yr f p nm w).d Y) (zEP f p nm _ U (vr w))]
       have hB:b.den K (ρ.set w d)=b.den K ρ:=vZ b _ _ λs hs=>za _ (zAC hs w1) _
       rw [hB]
       refine zK8 ih Y U w2 _ _ (λs hs O=>?_) ?_
       ·rw [za _ O]
        unfold Ev.set
        split
        ·rfl
        ·rw [if_neg (zAC hs w2)]
       ·rw [wK,za _ w3,wK]
      ·simp only [hf,↓reduceIte]
       rw [ih _ x b _ Y U]
       have hB:b.den K (ρ.set nm d)=b.den K ρ:=vZ b _ _ λs hs=>za _ (zAC hs hf) _
       rw [hB]
       refine vZ p _ _ λs hs=>?_
       unfold Ev.set
       by_cases e1:s=x
       ·subst e1;rw [if_pos rfl,if_neg hc.1,if_pos rfl]
       ·rw [if_neg e1,if_neg e1]
    have am:∀ (p:Tm),p.dp<=f->p.rd->nm≠ot->(∀ a b:ByteArray,bdN k a b l.length=[a,b])->∀ d d',
      (if x∈bdN k nm ot l.length\/x∉p.fv then p.den K ((ρ.set nm d).set ot d') else (Tm.sub f (rns (Tm.sub f) k l.length b.fv x (bdN k nm ot l.length) (nm,ot,p)).2.2 x b).den K ((ρ.set (rns (Tm.sub f) k l.length b.fv x (bdN k nm ot l.length) (nm,ot,p)).1 d).set (rns (Tm.sub f) k l.length b.fv x (bdN k nm ot l.length) (nm,ot,p)).2.1 d'))=p.den K (((ρ.set x (b.den K ρ)).set nm d).set ot d'):=λp Y U O ho d d'=>by
     simp only [ho,rns,rn1,↓reduceIte,oF,od,nl]
     split
     ·rename_i hc
      refine vZ p _ _ λs hs=>?_
      unfold Ev.set
      split
      ·rfl
      ·rename_i h1
       split
       ·rfl
       ·rename_i h2
        rw [if_neg]
        rintro rfl
        rcases hc with (hc | hc) | hc
        ·exact h2 hc
        ·exact h1 hc
        ·exact hc hs
     ·rename_i hc
      simp only [not_or,Classical.not_not] at hc
      obtain ⟨⟨x1,x2⟩,x3⟩:=hc
      -- a body whose names are away from b
      have fin:∀ (q:Tm) (a c:ByteArray),q.dp<=f->q.rd->a≠x->c≠x->a∉b.fv->c∉b.fv->(Tm.sub f q x b).den K ((ρ.set a d).set c d')=q.den K (((ρ.set x (b.den K ρ)).set a d).set c d'):=λq a c hq ao ha hc aq au=>by
       rw [ih q x b _ hq ao]
       have hB:b.den K ((ρ.set a d).set c d')=b.den K ρ:=vZ b _ _ λs hs=>by
        rw [za _ (zAC hs au),za _ (zAC hs aq)]
       rw [hB]
       refine vZ q _ _ λs hs=>?_
       unfold Ev.set
       by_cases e1:s=x
       ·subst e1;rw [if_pos rfl,if_neg (λe=>hc e.symm),if_neg (λe=>ha e.symm),if_pos rfl]
       ·rw [if_neg e1,if_neg e1]
      have ren:∀ (q:Tm) (o w:ByteArray) (σ τ:Ev),q.dp<=f->q.rd->w∉q.fv->(∀ s∈q.fv,s≠o->σ s=τ s)->σ w=τ o->(q.sub f o (vL w)).den K σ=q.den K τ:=λq o w σ τ h1 h2 h3 h4 h5=>zK8 ih h1 h2 h3 σ τ h4 h5
      by_cases hf:nm∈b.fv
      ·have I:=ym (b.fv++(p.fv++([x]++[nm,ot])))
       simp only [hf,↓reduceIte]
       generalize fresh (b.fv++(p.fv++([x]++[nm,ot])))=w at I ⊢
       simp only [oJ,oF,od,nl,not_or] at I
       obtain ⟨w1,w2,w3,w4,w5⟩:=I
       simp only [w5,↓reduceIte]
       have ae:=oN (yr f p nm w).d Y
       have ah:=zEP f p nm _ U (vr w)
       have ay:∀ s∈(p.sub f nm (vL w)).fv,s≠nm:=λs hs=>by
        rcases zIy f p nm (vL w) Y s hs with h | ⟨h,_⟩
        ·exact h.2
        ·rw [zCy,oY] at h;rw [h];exact w4
       by_cases hg:ot∈b.fv
       ·have aa:=ym (b.fv++((p.sub f nm (vL w)).fv++([x]++[w,ot])))
        simp only [hg,↓reduceIte]
        generalize fresh (b.fv++((p.sub f nm (vL w)).fv++([x]++[w,ot])))=z at aa ⊢
        simp only [oJ,oF,od,nl,not_or] at aa
        obtain ⟨z1,z2,z3,z4,z5⟩:=aa
        rw [fin _ w z (oN (yr f _ ot z).d ae) (zEP f _ ot _ ah (vr z)) w3 z3 w1 z1]
        rw [ren _ ot z _ (((ρ.set x (b.den K ρ)).set w d).set ot d') ae ah z2 (λs hs hn=>by rw [za _ (zAC hs z2),za _ hn]) (by rw [wK,wK])]
        refine ren p nm w _ _ Y U w2 (λs hs hn=>?_) ?_
        ·by_cases e:s=ot
         ·subst e;rw [wK,wK]
         ·rw [za _ e,za _ e,za _ hn,za _ (zAC hs w2)]
        ·rw [za _ w5,wK,za _ O,wK]
       ·simp only [hg,↓reduceIte]
        rw [fin _ w ot ae ah w3 (λe=>x2 e.symm) w1 hg]
        refine ren p nm w _ _ Y U w2 (λs hs hn=>?_) ?_
        ·by_cases e:s=ot
         ·subst e;rw [wK,wK]
         ·rw [za _ e,za _ e,za _ hn,za _ (zAC hs w2)]
        ·rw [za _ w5,wK,za _ O,wK]
      ·simp only [hf,↓reduceIte]
       by_cases hg:ot∈b.fv
       ·have aw:¬nm=ot:=O
        have I:=ym (b.fv++(p.fv++([x]++[nm,ot])))
        simp only [hg,aw,↓reduceIte]
        generalize fresh (b.fv++(p.fv++([x]++[nm,ot])))=z at I ⊢
        simp only [oJ,oF,od,nl,not_or] at I
        obtain ⟨z1,z2,z3,z4,z5⟩:=I
        rw [fin _ nm z (oN (yr f p ot z).d Y) (zEP f p ot _ U (vr z)) (λe=>x1 e.symm) z3 hf z1]
        exact ren p ot z _ _ Y U z2 (λs hs hn=>by rw [za _ (zAC hs z2),za _ hn]) (by rw [wK,wK])
       ·simp only [hg,↓reduceIte]
        exact fin p nm ot Y U (λe=>x1 e.symm) (λe=>x2 e.symm) hf hg
    have ak:(Tm.mk k nm ot n ty re l).sub (f+1) x b=if x∈bdN k nm ot l.length\/x∉(l.getD (ze k l.length).toNat tm0).fv then
      .mk k nm ot n ty re ((l.map λt=>Tm.sub f t x b).set (ze k l.length).toNat (l.getD (ze k l.length).toNat tm0))
     else .mk k (rns (Tm.sub f) k l.length b.fv x (bdN k nm ot l.length) (nm,ot,l.getD (ze k l.length).toNat tm0)).1
      (rns (Tm.sub f) k l.length b.fv x (bdN k nm ot l.length) (nm,ot,l.getD (ze k l.length).toNat tm0)).2.1 n ty re
      ((l.map λt=>Tm.sub f t x b).set (ze k l.length).toNat (Tm.sub f (rns (Tm.sub f) k l.length b.fv x (bdN k nm ot l.length) (nm,ot,l.getD (ze k l.length).toNat tm0)).2.2 x b)):=by
     simp only [Tm.sub,if_neg hk,if_neg J]
    rw [ak]
    rcases zOr J with ⟨ax,o1⟩ | ⟨⟨h9,hl⟩,o2⟩
    ·rcases ax with ⟨h6,hl⟩ | ⟨h8,hl⟩
     ·obtain ⟨p,rfl⟩:=len1 hl
      subst h6
      have:=one p ab ac o1
      rw [zPI]
      split
      ·rename_i hc
       simp only [if_pos (show x∈bdN 6 nm ot [p].length\/x∉p.fv from hc)] at this
       exact (zPI K nm ot n ty re ρ p).trans (mC (zO8 ty.st) (funext this))
      ·rename_i hc
       simp only [if_neg (show ¬(x∈bdN 6 nm ot [p].length\/x∉p.fv) from hc)] at this
       exact (zPI K _ _ n ty re ρ _).trans (mC (zO8 ty.st) (funext this))
     ·obtain ⟨a,p,rfl⟩:=zSE hl
      subst h8
      have:=one p ab ac o1 (a.den K (ρ.set x (b.den K ρ)))
      have ha:(a.sub f x b).den K ρ=a.den K (ρ.set x (b.den K ρ)):=mp 0
      rw [zOJ]
      split
      ·rename_i hc
       rw [if_pos (show x∈bdN 8 nm ot [a,p].length\/x∉p.fv from hc)] at this
       refine (zOJ K nm ot n ty re ρ (a.sub f x b) p).trans ?_
       rw [ha];exact this
      ·rename_i hc
       rw [if_neg (show ¬(x∈bdN 8 nm ot [a,p].length\/x∉p.fv) from hc)] at this
       refine (zOJ K _ _ n ty re ρ (a.sub f x b) _).trans ?_
       rw [ha];exact this
    ·obtain ⟨p,rfl⟩:=len1 hl
     subst h9
     have:=am p ab ac (h1 rfl) o2
     rw [zOc]
     split
     ·rename_i hc
      simp only [if_pos (show x∈bdN 9 nm ot [p].length\/x∉p.fv from hc)] at this
      exact (zOc K nm ot n ty re ρ p).trans (mC (zQT K ty.st re.st) (funext λd=>funext λe=>this d e))
     ·rename_i hc
      simp only [if_neg (show ¬(x∈bdN 9 nm ot [p].length\/x∉p.fv) from hc)] at this
      exact (zOc K _ _ n ty re ρ _).trans (mC (zQT K ty.st re.st) (funext λd=>funext λe=>this d e))
/-- what names mean is of their types -/
def Mt (r:Rho) (ρ:Ev):Prop:=∀ s m t,r s m=some t->(ρ s).t=t.st
theorem Mt.set {r:Rho} {ρ:Ev} (h:Mt r ρ) {x:ByteArray} {n:Int} {t:Ty} {d:Sig} (hd:d.t=t.st):Mt (r.set x n t) (ρ.set x d):=λs m u I=>by
 by_cases e:s=x
 ·subst e
  rw [zL] at I
  split at I
  ·cases I;rw [wK];exact hd
  ·cases I
 ·rw [zC _ e] at I;rw [za _ e];exact h s m u I
theorem Mt.safe {r:Rho} {ρ:Ev} (h:Mt r ρ) (n:Int):Mt (r.safe n) ρ:=λs m u I=>h s m u (w6.1 I).1
theorem zNF (s:ByteArray):(uH s).st=.b:=by unfold uH;(repeat' split)<;>rfl
theorem zBE {K:Nat} {r:Rho} {e:Tm} {n:Int} {u:Ty} (h:HT r e n u):∀ ρ:Ev,Mt r ρ->(e.den K ρ).t=u.st:=by
 induction h with
 | @var r nm ot m ty re l n u _ h hv=>intro ρ hρ;rw [zQZ];exact hρ _ _ _ h
 | int=>intro ρ hρ;rw [zIY _ _ _ _ _ _ _ (.inl rfl)];rfl
 | bool=>intro ρ hρ;rw [zIY _ _ _ _ _ _ _ (.inr rfl)];rfl
 | op h I=>intro ρ hρ;rw [zR9,zNF]
 | ite _ _ _ _ I _=>intro ρ hρ;rw [zOe];exact I ρ hρ
 | @lam r nm ot m ty re b n v _ hb hv I=>
   intro ρ hρ
   rw [zPI]
   show STy.fn ty.st _=STy.fn ty.st v.st
   rw [I _ (hρ.set (d:=⟨ty.st,bot ty.st⟩) rfl)]
 | @app r nm ot m ty re f x n a b _ hf hx O aa=>
   intro ρ hρ
   rw [zQB]
   have J:=O ρ hρ
   generalize f.den K ρ=d at J ⊢
   obtain ⟨t,v⟩:=d
   have J:t=.fn a.st b.st:=J
   subst J
   rfl
 | lt ha hb U Y=>intro ρ hρ;rw [zOJ];exact Y _ (hρ.set (U ρ hρ))
 | fix _ _ _ _=>intro ρ hρ;rw [zOc];rfl
 | quote _ _ I=>intro ρ hρ;rw [zDT _ _ _ _ _ _ _ (.inl rfl)];exact I ρ hρ
 | splice _ I=>intro ρ hρ;rw [zDT _ _ _ _ _ _ _ (.inr (.inl rfl))];exact I ρ hρ
 | run _ I=>intro ρ hρ;rw [zDT _ _ _ _ _ _ _ (.inr (.inr (.inl rfl)))];exact I ρ (hρ.safe _)
 | lift _ _ _ I=>intro ρ hρ;rw [zDT _ _ _ _ _ _ _ (.inr (.inr (.inr rfl)))];exact I ρ hρ
/-- a part of which less is known -/
theorem zJS {K K':Nat} (hK:K<=K') {k:Int} {nm ot:ByteArray} {m:Int} {ty re:Ty} {l:List Tm} {r:Rho} {n:Int} {u:Ty} (h:HT r (.mk k nm ot m ty re l) n u) {j:Nat} {x y:Tm} (hj:l[j]?=some x) {ρ σ:Ev} (hρ:Mt r ρ) (hσ:Mt r σ) (J:RE ρ σ)
  (U:∀ r1 u1 ρ1 σ1,Lv r1->HT r1 x (zW k n) u1->Mt r1 ρ1->Mt r1 σ1->RE ρ1 σ1->RS (y.den K ρ1) (x.den K' σ1)) (Y:Lv r) (hn:1<=n\/(k≠6/\k≠9/\(k=8->j=0))) :
  RS ((Tm.mk k nm ot m ty re (l.set j y)).den K ρ) ((Tm.mk k nm ot m ty re l).den K' σ):=by
 have I:=λ(z:Tm)=>pD hK z ρ σ J
 cases h with
 | var h hv=>rw [zQZ,zQZ];exact J nm
 | int=>rw [zIY _ _ _ _ _ _ _ (.inl rfl),zIY _ _ _ _ _ _ _ (.inl rfl)];exact xz (.inr rfl)
 | bool=>rw [zIY _ _ _ _ _ _ _ (.inr rfl),zIY _ _ _ _ _ _ _ (.inr rfl)];exact xz (.inr rfl)
 | op h=>
   have hx:=U r _ ρ σ Y (h x (oB hj)) hρ hσ J
   have c:∀ i,RS (((l.set j y).getD i tm0).den K ρ) ((l.getD i tm0).den K' σ):=λi=>by
    by_cases e:j=i
    ·subst e
     rw [oA,nC (oC.1 hj).1,oA,hj]
     exact hx
    ·rw [oA,ow e,<-oA]
     exact I _
   rw [zR9,zR9,nP]
   exact xz (zR6 _ _ ((c 0).2 .b) ((c 1).2 .b))
 | ite ha O hc=>
   rcases zMi hj with ⟨rfl,rfl⟩ | ⟨rfl,rfl⟩ | ⟨rfl,rfl⟩
   ·show RS ((Tm.mk 5 nm ot m ty re [y,_,_]).den K ρ) _
    rw [zOe,zOe];exact zNp (U r _ ρ σ Y ha hρ hσ J) (I _) (I _)
   ·show RS ((Tm.mk 5 nm ot m ty re [_,y,_]).den K ρ) _
    rw [zOe,zOe];exact zNp (I _) (U r _ ρ σ Y O hρ hσ J) (I _)
   ·show RS ((Tm.mk 5 nm ot m ty re [_,_,y]).den K ρ) _
    rw [zOe,zOe];exact zNp (I _) (I _) (U r _ ρ σ Y hc hρ hσ J)
 | lam O hv=>
   obtain ⟨rfl,rfl⟩:=zAh hj
   rcases hn with hn | hn
   ·show RS ((Tm.mk 6 nm ot m ty re [y]).den K ρ) _
    rw [zPI,zPI]
    exact zOz λv w hv=>U _ _ _ _ (Y.set hn) O (hρ.set rfl) (hσ.set rfl) (J.set (xz hv))
   ·exact absurd rfl hn.1
 | app hf hx=>
   rcases zNc hj with ⟨rfl,rfl⟩ | ⟨rfl,rfl⟩
   ·show RS ((Tm.mk 7 nm ot m ty re [y,_]).den K ρ) _
    rw [zQB,zQB];exact zMF (U r _ ρ σ Y hf hρ hσ J) (I _)
   ·show RS ((Tm.mk 7 nm ot m ty re [_,y]).den K ρ) _
    rw [zQB,zQB];exact zMF (I _) (U r _ ρ σ Y hx hρ hσ J)
 | lt ha O=>
   rcases zNc hj with ⟨rfl,rfl⟩ | ⟨rfl,rfl⟩
   ·show RS ((Tm.mk 8 nm ot m ty re [y,_]).den K ρ) _
    rw [zOJ,zOJ];exact pD hK _ _ _ (J.set (U r _ ρ σ Y ha hρ hσ J))
   ·rcases hn with hn | hn
    ·show RS ((Tm.mk 8 nm ot m ty re [_,y]).den K ρ) _
     rw [zOJ,zOJ];exact U _ _ _ _ (Y.set hn) O (hρ.set (zBE ha ρ hρ)) (hσ.set (zBE ha σ hσ)) (J.set (I _))
    ·exact absurd (hn.2.2 rfl) (by decide)
 | fix aa O hv=>
   obtain ⟨rfl,rfl⟩:=zAh hj
   rcases hn with hn | hn
   ·show RS ((Tm.mk 9 nm ot m ty re [y]).den K ρ) _
    rw [zOc,zOc]
    exact zOn hK λf g v w hf hv=>U _ _ _ _ ((Y.set hn).set hn) O ((hρ.set rfl).set rfl) ((hσ.set rfl).set rfl) ((J.set (xz hf)).set (xz hv))
   ·exact absurd rfl hn.2.1
 | quote O hv=>
   obtain ⟨rfl,rfl⟩:=zAh hj
   rw [zDT _ _ _ _ _ _ _ (.inl rfl),zDT _ _ _ _ _ _ _ (.inl rfl)];exact U r _ ρ σ Y O hρ hσ J
 | splice O=>
   obtain ⟨rfl,rfl⟩:=zAh hj
   rw [zDT _ _ _ _ _ _ _ (.inr (.inl rfl)),zDT _ _ _ _ _ _ _ (.inr (.inl rfl))];exact U r _ ρ σ Y O hρ hσ J
 | run O=>
   obtain ⟨rfl,rfl⟩:=zAh hj
   rw [zDT _ _ _ _ _ _ _ (.inr (.inr (.inl rfl))),zDT _ _ _ _ _ _ _ (.inr (.inr (.inl rfl)))];exact U _ _ ρ σ (Y.safe _) O (hρ.safe _) (hσ.safe _) J
 | lift O ht hv=>
   obtain ⟨rfl,rfl⟩:=zAh hj
   rw [zDT _ _ _ _ _ _ _ (.inr (.inr (.inr rfl))),zDT _ _ _ _ _ _ _ (.inr (.inr (.inr rfl)))];exact U r _ ρ σ Y O hρ hσ J
theorem zEB {d:Sig} {τ:STy} (h:d.t=τ):(⟨τ,d.at τ⟩:Sig)=d:=by
 subst h
 obtain ⟨t,v⟩:=d
 rw [zAy]
theorem zQ0 {nm ot:ByteArray} {n:Int} {ty re:Ty} {l:List Tm} (h:(Tm.mk 4 nm ot n ty re l).ok=true):l.length=1\/l.length=2:=by
 obtain ⟨_,I,J⟩:=Tm.ok_mk.1 h
 have O:(l.length:Int)=zGY nm:=J
 simp only [zJ,oG] at I
 have h:=I.2.2.2.2.2
 simp only [yu] at h
 rw [if_pos trivial] at h
 simp only [oG,o3] at h
 have:=h.1
 have U:zGY nm=1\/zGY nm=2:=by
  revert this
  unfold zGY
  (repeat' split)<;>simp
 omega
theorem zFE {K:Nat} {e:Tm} (h:e.kd=2\/e.kd=3) (ρ:Ev):e.den K ρ=⟨.b,some e.no⟩:=by
 cases e with
 | mk k nm ot n ty re l=>exact zIY K nm ot n ty re ρ h l
theorem zJJ {K:Nat} {e:Tm} (h:e.kd=2\/e.kd=3) (ρ:Ev):((e.den K ρ).at .b:Option Int)=some e.no:=by rw [zFE h];exact zAy .b _
theorem zNl {c t e:Sig} {n:Int} (h:(c.at .b:Option Int)=some n):ifS c t e=⟨t.t,if n=0 then e.at t.t else t.at t.t⟩:=by unfold ifS;rw [h]
/-- what a rule makes -/
theorem zQQ {K:Nat} {e:Tm} {r:Rho} {u:Ty} (ab:e.ok=true) (h:HT r e 0 u) {ρ σ:Ev} (hρ:Mt r ρ) (hσ:Mt r σ) (he:RE ρ σ):RS (e.apl.1.den K ρ) (e.den (K+1) σ):=by
 have I:=λ(z:Tm)=>pD (mX K) z ρ σ he
 have ai:=zSv e ab
 cases h with
 | var h hv=>exact I _
 | int=>exact I _
 | bool=>exact I _
 | @op _ nm ot m ty re l _ _ h1=>
   show RS (((Tm.mk 4 nm ot m ty re l).opr l).1.den K ρ) _
   unfold Tm.opr
   split
   ·rename_i aj
    have U:∀ x∈l,x.kd=2\/x.kd=3:=λx hx=>by
     have:=nK.1 (oZ.1 aj x hx)
     rw [this];unfold wh;split
     ·exact .inr rfl
     ·exact .inl rfl
    have hl:=zQ0 ab
    rw [zR9]
    show RS ((zKO (zAq nm) (yS nm (l.getD 0 tm0).no (l.getD 1 tm0).no).1).den K ρ) _
    rw [zFE (by unfold zAq;split<;>simp [zKO,Tm.kd])]
    refine xz (.inr ?_)
    rcases hl with hl | hl
    ·obtain ⟨a,rfl⟩:=len1 hl
     show some (yS nm a.no 0).1=opS nm 1 ((a.den (K+1) σ).at .b) _
     rw [zJJ (U a (by simp))];rfl
    ·obtain ⟨a,b,rfl⟩:=zSE hl
     show some (yS nm a.no b.no).1=opS nm 2 ((a.den (K+1) σ).at .b) ((b.den (K+1) σ).at .b)
     rw [zJJ (U a (by simp)),zJJ (U b (by simp))];rfl
   ·exact I _
 | @ite _ nm ot m ty re a b c _ _ _ ha Y hc=>
   show RS ((if a.kd=3 then (([a,b,c].getD (2 - a.no).toNat tm0,2):Tm × Int) else (.mk 5 nm ot m ty re [a,b,c],0)).1.den K ρ) _
   split
   ·rename_i U
    have hn:=zIS ((Tm.ok_mk.1 ab).1 a (by simp)) U
    have hz:=zJJ (K:=K+1) (.inr U) σ
    rw [zOe,zNl hz]
    rcases (by omega:a.no=0\/a.no=1) with h0 | h0
    ·have e:(c.den (K+1) σ).t=(b.den (K+1) σ).t:=(zBE hc σ hσ).trans (zBE Y σ hσ).symm
     rw [h0,if_pos rfl,zEB e]
     exact I c
    ·rw [h0,if_neg (by decide),zEB rfl]
     exact I b
   ·exact I _
 | @lam _ nm ot m ty re b _ v _ Y hv=>exact I _
 | @app _ nm ot m ty re f x _ a c _ hf hx=>
   show RS ((if f.kd=6 then (((f.pt 0).sb f.nm x,3):Tm × Int) else if f.kd=9 then (((f.pt 0).sb f.nm f).sb f.ot x,4) else (.mk 7 nm ot m ty re [f,x],0)).1.den K ρ) _
   have aa:=zBE (K:=K+1) hx σ hσ
   have ak:=(zBV.1 ai).2
   have ac:=ak f (by simp)
   have ao:=ak x (by simp)
   split
   ·rename_i U
    cases f with
    | mk k J O m2 ae ah l2=>
    have U:k=6:=U
    subst U
    obtain ⟨b,v,rfl,e,Y⟩:=zTF hf
    obtain ⟨rfl,rfl⟩:=zGU e
    show RS ((b.sb J x).den K ρ) _
    rw [zQB,zPI]
    unfold Tm.sb
    rw [zC4 K _ b J x ρ (oD _) ((zBV.1 ac).2 b (by simp))]
    show RS _ ⟨(b.den (K+1) (σ.set J ⟨a.st,bot a.st⟩)).t,(b.den (K+1) (σ.set J ⟨a.st,(x.den (K+1) σ).at a.st⟩)).at (b.den (K+1) (σ.set J ⟨a.st,bot a.st⟩)).t⟩
    rw [zEB aa]
    rw [zEB ((zBE Y _ (hσ.set aa)).trans (zBE Y _ (hσ.set (d:=⟨a.st,bot a.st⟩) rfl)).symm)]
    exact pD (mX K) b _ _ (he.set (I x))
   ·split
    ·rename_i U
     cases f with
     | mk k J O m2 ae ah l2=>
     have U:k=9:=U
     subst U
     obtain ⟨b,rfl,e,am,Y⟩:=zSy hf
     obtain ⟨rfl,rfl⟩:=zGU e
     have al:=(zBV.1 ac).2 b (by simp)
     show RS (((b.sb J (.mk 9 J O m2 a u [b])).sb O x).den K ρ) _
     rw [zQB]
     have e1:=I (Tm.mk 9 J O m2 a u [b])
     unfold Tm.sb
     rw [zC4 K _ _ O x ρ (oD _) (zEP _ _ _ _ al ac),zC4 K _ b J _ _ (oD _) al]
     have e2:(Tm.mk 9 J O m2 a u [b]).den K (ρ.set O (x.den K ρ))=(Tm.mk 9 J O m2 a u [b]).den K ρ:=vZ _ _ _ λs hs=>za _ (λe=>zO9 (e ▸ hs)) _
     rw [e2,zOc,zOc]
     show RS _ ⟨u.st,(b.den (K+1) ((σ.set J ⟨.fn a.st u.st,itr (.fn a.st u.st) _ K⟩).set O ⟨a.st,(x.den (K+1) σ).at a.st⟩)).at u.st⟩
     rw [zEB aa,zEB (zBE Y _ ((hσ.set (d:=⟨.fn a.st u.st,_⟩) rfl).set aa))]
     refine pD (mX K) b _ _ λs=>?_
     by_cases e3:s=O
     ·subst e3
      rw [wK,za _ (λe=>am e.symm),wK];exact I x
     ·rw [za _ e3]
      by_cases e4:s=J
      ·subst e4
       rw [wK,wK]
       refine xz (zKh (τ:=.fn a.st u.st) ?_ (oD K))
       intro f g hf v w hv
       exact (pD (mX K) b _ _ ((he.set (xz hf)).set (xz hv))).2 u.st
      ·rw [za _ e4,za _ e4,za _ e3];exact he s
    ·exact I _
 | @lt _ nm ot m ty re a b _ t _ _ ha Y=>
   show RS ((b.sb nm a).den K ρ) _
   rw [zOJ]
   unfold Tm.sb
   rw [zC4 K _ b nm a ρ (oD _) ((zBV.1 ai).2 b (by simp))]
   exact pD (mX K) b _ _ (he.set (I a))
 | fix _ _ _=>exact I _
 | quote _ _=>exact I _
 | splice _=>exact I _
 | @run _ nm ot m ty re b _ t _ Y=>
   show RS ((if b.kd=10 then ((b.pt 0,7):Tm × Int) else (.mk 12 nm ot m ty re [b],0)).1.den K ρ) _
   split
   ·rename_i U
    cases b with
    | mk k J O m2 ae ah l2=>
    have U:k=10:=U
    subst U
    rw [zDT _ _ _ _ _ _ _ (.inr (.inr (.inl rfl)))]
    show RS ((l2.getD 0 tm0).den K ρ) ((Tm.mk 10 J O m2 ae ah l2).den (K+1) σ)
    rw [zDT _ _ _ _ _ _ _ (.inl rfl)]
    exact I _
   ·exact I _
 | @lift _ nm ot m ty re b _ t _ Y ht hv=>
   show RS ((if b.kd=2\/b.kd=3 then ((Tm.nod 10 [b],8):Tm × Int) else (.mk 13 nm ot m ty re [b],0)).1.den K ρ) _
   split
   ·rw [zDT _ _ _ _ _ _ _ (.inr (.inr (.inr rfl)))]
    unfold Tm.nod
    rw [zDT _ _ _ _ _ _ _ (.inl rfl)]
    exact I b
   ·exact I _
def zTB (S:Tm->Tm × Int) (f:Nat) (K:Nat):Prop:=∀ e r u ρ σ,e.dp<=f->e.ok=true->HT r e 0 u->Lv r->Mt r ρ->Mt r σ->RE ρ σ->RS ((S e).1.den K ρ) (e.den (K+1) σ)
theorem zP1 {S:Tm->Tm × Int} {f K:Nat} (hS:zTB S f K):∀ (t:Tm) (m:Int) (r:Rho) (u:Ty) (ρ σ:Ev),t.dp<=f->t.ok=true->1<=m->HT r t m u->Lv r->Mt r ρ->Mt r σ->RE ρ σ->RS ((t.cod S m).1.den K ρ) (t.den (K+1) σ):=by
 refine Tm.ind λk nm ot n ty re l ih m r u ρ σ hd he hm h hr hρ hσ hE=>?_
 have I:=λ(z:Tm)=>pD (mX K) z ρ σ hE
 have O:=(Tm.ok_mk.1 he).1
 have U:∀ x∈l,x.dp<=f:=λx Y=>by
  have:=Tm.dp_mem (k:=k) (nm:=nm) (ot:=ot) (n:=n) (ty:=ty) (re:=re) Y
  omega
 simp only [Tm.cod]
 split
 ·rename_i J
  obtain ⟨rfl,rfl⟩:=J
  obtain ⟨b,rfl,hb⟩:=zRT h
  show RS ((if b.res then (if b.kd=10 then ((b.pt 0,6,true):Tm × Int × Bool) else (.mk 11 nm ot n ty re [b],0,true)) else (.mk 11 nm ot n ty re [(S b).1],(S b).2,true)).1.den K ρ) _
  split
  ·split
   ·rename_i J
    cases b with
    | mk k aa ab m2 ac ae l2=>
    have J:k=10:=J
    subst J
    rw [zDT _ _ _ _ _ _ _ (.inr (.inl rfl))]
    show RS ((l2.getD 0 tm0).den K ρ) ((Tm.mk 10 aa ab m2 ac ae l2).den (K+1) σ)
    rw [zDT _ _ _ _ _ _ _ (.inl rfl)]
    exact I _
   ·exact I _
  ·rw [zDT _ _ _ _ _ _ _ (.inr (.inl rfl)),zDT _ _ _ _ _ _ _ (.inr (.inl rfl))]
   exact hS b r _ ρ σ (U b (by simp)) (O b (by simp)) hb hr hρ hσ hE
 ·rename_i J
  cases hc:yG S l (zW k m) with
  | none=>exact I _
  | some p=>
    obtain ⟨l',r2⟩:=p
    obtain ⟨j,x,hj,rfl⟩:=zAt hc
    have Y:=oB hj
    have ah:1<=zW k m:=by
     unfold zW
     split
     ·omega
     ·split
      ·rename_i ai
       have:¬m=1:=λe=>J ⟨ai,e⟩
       omega
      ·exact hm
    exact zJS (mX K) h hj hρ hσ hE (λr1 u1 ρ1 σ1 h1 h2 h3 h4 h5=>ih x Y _ r1 u1 ρ1 σ1 (U x Y) (O x Y) ah h2 h1 h3 h4 h5) hr (.inl hm)
theorem zL4 (K:Nat):∀ f,zTB (Tm.stp f) f K
 | 0,e,_,_,_,_,hd,_,_,_,_,_,_=>absurd (Tm.dp_pos e) (by omega)
 | f + 1,.mk k nm ot n ty re l,r,u,ρ,σ,hd,he,h,hr,hρ,hσ,hE=>by
   have ih:=zL4 K f
   have O:=λ(z:Tm)=>pD (mX K) z ρ σ hE
   have U:=(Tm.ok_mk.1 he).1
   have Y:∀ x∈l,x.dp<=f:=λx hx=>by
    have:=Tm.dp_mem (k:=k) (nm:=nm) (ot:=ot) (n:=n) (ty:=ty) (re:=re) hx
    omega
   simp only [Tm.stp]
   split
   ·exact O _
   ·split
    ·rename_i I
     have I:k=10:=I
     subst I
     obtain ⟨b,t,rfl,rfl,hb,hv⟩:=zOb h
     rw [zDT _ _ _ _ _ _ _ (.inl rfl)]
     show RS ((Tm.mk 10 nm ot n ty re [(b.cod (Tm.stp f) 1).1]).den K ρ) _
     rw [zDT _ _ _ _ _ _ _ (.inl rfl)]
     exact zP1 ih b 1 r t ρ σ (Y b (by simp)) (U b (by simp)) (by decide) hb hr hρ hσ hE
    ·rename_i I
     have I:¬k=10:=I
     cases hg:goS (Tm.stp f) (Tm.mk k nm ot n ty re l) (l.take (qQ k l.length)) 0 with
     | none=>exact zQQ he h hρ hσ hE
     | some p=>
       obtain ⟨j,x,g1,g2,rfl⟩:=rI hg
       obtain ⟨J,aa⟩:j<qQ k l.length/\l[j]?=some x:=by
        rw [oa] at g1
        split at g1
        ·exact ⟨‹_›,g1⟩
        ·cases g1
       have hm:=oB aa
       simp only [nJ]
       have hn0:k=11\/zW k 0=0:=by
        unfold zW;rw [if_neg I]
        by_cases e:k=11
        ·exact .inl e
        ·rw [if_neg e];exact .inr rfl
       rcases hn0 with rfl | hn0
       ·exact absurd J (by simp [qQ])
       ·refine zJS (mX K) h aa hρ hσ hE (λr1 u1 ρ1 σ1 h1 h2 h3 h4 h5=>?_) hr (.inr ⟨λe=>?_,λe=>?_,λe=>?_⟩)
        ·rw [hn0] at h2
         exact ih x r1 u1 ρ1 σ1 (Y x hm) (U x hm) h2 h1 h3 h4 h5
        ·subst e;exact absurd J (by simp [qQ])
        ·subst e;exact absurd J (by simp [qQ])
        ·subst e
         have:qQ 8 l.length=1:=by simp [qQ]
         omega
/-- a run that ends with a literal: what the term means -/
theorem zMg {u:Ty} {r:Rho} {ρ:Ev} (hr:Lv r) (hρ:Mt r ρ) (hE:RE ρ ρ):∀ (m n:Nat) (x:Tm),x.ok=true->HT r x 0 u->(zBC m n x).1.1=1->((zBC m n x).1.2.1.kd=2\/(zBC m n x).1.2.1.kd=3)->∀ K,m<=K->(x.den K ρ)=⟨.b,some (zBC m n x).1.2.1.no⟩:=by
 intro m
 induction m with
 | zero=>
   intro n x J h hd I K _
   simp only [zBC] at hd I ⊢
   by_cases hs:x.sz>400
   ·rw [if_pos hs] at hd;cases hd
   ·rw [if_neg hs] at hd I ⊢
    by_cases O:x.res=true
    ·rw [if_pos O] at I ⊢;exact zFE I ρ
    ·rw [if_neg O] at hd;cases hd
 | succ m ih=>
   intro n x J h hd I K hK
   obtain ⟨K,rfl⟩:∃ K',K=K'+1:=⟨K - 1,by omega⟩
   simp only [zBC] at hd I ⊢
   by_cases hs:x.sz>400
   ·rw [if_pos hs] at hd;cases hd
   ·rw [if_neg hs] at hd I ⊢
    by_cases O:x.res=true
    ·rw [if_pos O] at I ⊢;exact zFE I ρ
    ·rw [if_neg O] at hd I ⊢
     by_cases hz:(x.stp x.dp).2=0
     ·rw [if_pos hz] at hd;cases hd
     ·rw [if_neg hz] at hd I ⊢
      have Y:=zMr m (n+1) (x.stp x.dp).1 (by rw [show (zBC m (n+1) (x.stp x.dp).1).1.1=1 from hd];decide)
      have aa:=zFX _ x (oD _) J Y
      have ab:=zMs _ x r u (oD _) J h hr
      have h1:=ih (n+1) _ aa ab hd I K (by omega)
      have U:=zL4 K _ x r u ρ ρ (oD _) J h hr hρ hρ hE
      rw [h1] at U
      generalize x.den (K+1) ρ=d at U
      obtain ⟨t,v⟩:=d
      have h3:STy.b=t:=U.1
      subst h3
      rcases zOv U with h4 | h4
      ·cases h4
      ·rw [<-h4]
mutual
def Ty.er:Ty->Ty
 | .mk k l=>if k=4/\l.length=1 then (zMo l).getD 0 (.mk 0 []) else .mk k (zMo l)
def zMo:List Ty->List Ty
 | []=>[]
 | t::I=>t.er::zMo I
end
mutual
def Tm.er:Tm->Tm
 | .mk k nm ot n ty re l=>if (10<=k/\k<=13)/\l.length=1 then (zKM l).getD 0 tm0 else .mk k nm ot n ty.er re.er (zKM l)
def zKM:List Tm->List Tm
 | []=>[]
 | t::I=>t.er::zKM I
end
theorem uA:∀ l:List Tm,zKM l=l.map Tm.er
 | []=>rfl
 | t::I=>by simp only [zKM,ol,uA I]
theorem qy:∀ l:List Ty,zMo l=l.map Ty.er
 | []=>rfl
 | t::I=>by simp only [zMo,ol,qy I]
theorem zES {f:Ty->Ty}:∀ {l:List Ty},(∀ t∈l,(f t).cnt<=t.cnt)->zG (l.map f)<=zG l
 | [],_=>by simp [zG]
 | t::I,h=>by
   have O:=h t (by simp)
   have U:=zES (f:=f) (l:=I) λx J=>h x (by simp [J])
   simp only [ol,zG];omega
theorem zEb {f:Ty->Ty}:∀ {l:List Ty},(∀ t∈l,(f t).dep<=t.dep)->tj (l.map f)<=tj l
 | [],_=>by simp [tj]
 | t::I,h=>by
   have O:=h t (by simp)
   have U:=zEb (f:=f) (l:=I) λx J=>h x (by simp [J])
   simp only [ol,tj];omega
theorem tO:∀ {l:List Ty},xU l=true↔∀ t∈l,t.form=true
 | []=>by simp [xU]
 | t::I=>by simp only [xU,oG,tO (l:=I),oF,nY]
theorem zON:∀ t:Ty,t.er.cnt<=t.cnt/\t.er.dep<=t.dep/\(t.form=true->t.er.form=true):=by
 refine Ty.ind λk l O=>?_
 simp only [Ty.er,qy]
 split
 ·rename_i h
  match l,h.2 with
  | [t],_=>
    have:=O t (by simp)
    refine ⟨?_,?_,λI=>this.2.2 ?_⟩
    ·have e:(Ty.mk k [t]).cnt=1+(t.cnt+0):=rfl
     show t.er.cnt<=_;omega
    ·have e:(Ty.mk k [t]).dep=max t.dep 0+1:=rfl
     show t.er.dep<=_;omega
    ·simp only [Ty.form,xU,oG] at I;exact I.1.1
 ·have U:=zES λt J=>(O t J).1
  have Y:=zEb λt J=>(O t J).2.1
  refine ⟨by simp only [Ty.cnt];omega,by simp only [Ty.dep];omega,λI=>?_⟩
  simp only [Ty.form,oG,oV] at I ⊢
  refine ⟨tO.2 λt J=>?_,I.2⟩
  obtain ⟨s,hs,rfl⟩:=oQ.1 J
  exact (O s hs).2.2 (tO.1 I.1 s hs)
theorem rk {t:Ty} (h:t.valid=true):t.er.valid=true:=by
 obtain ⟨O,U,I⟩:=rO h
 obtain ⟨e1,Y,J⟩:=zON t
 exact zBy (by omega) (by omega) (J I)
theorem zPz:∀ t:Ty,t.form=true->t.er.st=t.st:=by
 refine Ty.ind λk l J h=>?_
 simp only [Ty.form,oG] at h
 have sub:=tO.1 h.1
 have I:=h.2
 unfold rp at I
 split at I
 ·rename_i O
  have:l=[]:=oP (by have:=nK.1 I;omega)
  subst this
  rcases O with rfl | rfl<;>rfl
 split at I
 ·rename_i U;subst U
  match l,(by have:=nK.1 I;omega:l.length=2) with
  | [a,b],_=>
    show STy.fn a.er.st b.er.st=STy.fn a.st b.st
    rw [J a (by simp) (sub a (by simp)),J b (by simp) (sub b (by simp))]
 split at I
 ·rename_i Y;subst Y
  match l,(by have:=nK.1 I;omega:l.length=1) with
  | [a],_=>exact J a (by simp) (sub a (by simp))
 ·cases I
theorem zMt (s:ByteArray):(if zDi s=1 then tInt else tBool).er=(if zDi s=1 then tInt else tBool)/\(uH s).er=uH s:=by
 refine ⟨by split<;>rfl,?_⟩
 unfold uH;(repeat' split)<;>rfl
/-- what is erased has the erased type -/
theorem zSZ {r:Rho} {e:Tm} {n:Int} {u:Ty} (h:HT r e n u):∀ r0:Rho,(∀ s m t,r s m=some t->r0 s 0=some t.er)->HT r0 e.er 0 u.er:=by
 have one:∀ {r r0:Rho} {x:ByteArray} {n:Int} {t:Ty},(∀ s m t,r s m=some t->r0 s 0=some t.er)->∀ s m u,r.set x n t s m=some u->r0.set x 0 t.er s 0=some u.er:=λ{r r0 x n t} h s m u Y=>by
  by_cases e:s=x
  ·subst e
   rw [zL] at Y ⊢
   split at Y
   ·cases Y;rfl
   ·cases Y
  ·rw [zC _ e] at Y ⊢;exact h s m u Y
 induction h with
 | var h hv=>exact λr0 I=>.var (I _ _ _ h) (rk hv)
 | int=>exact λr0 I=>.int
 | bool=>exact λr0 I=>.bool
 | @op r nm ot m ty re l n _ h J=>
   intro r0 I
   rw [(zMt nm).2]
   show HT r0 (.mk 4 nm ot m ty.er re.er (zKM l)) 0 _
   refine .op λx hx=>?_
   rw [uA] at hx
   obtain ⟨y,hy,rfl⟩:=oQ.1 hx
   rw [<-(zMt nm).1]
   exact J y hy r0 I
 | ite _ _ _ O U aa=>exact λr0 I=>.ite (O r0 I) (U r0 I) (aa r0 I)
 | lam _ hv J=>exact λr0 I=>.lam (J _ (one I)) (rk hv)
 | app _ _ ab ac=>exact λr0 I=>.app (ab r0 I) (ac r0 I)
 | lt _ _ O U=>exact λr0 I=>.lt (O r0 I) (U _ (one I))
 | fix ae _ hv J=>exact λr0 I=>.fix ae (J _ (one (one I))) (rk hv)
 | quote _ _ J=>exact λr0 I=>J r0 I
 | splice _ J=>exact λr0 I=>J r0 I
 | run _ J=>exact λr0 I=>J r0 λs m t ht=>I s m t (w6.1 ht).1
 | lift _ _ _ J=>exact λr0 I=>J r0 I
theorem zSt:∀ e:Tm,e.ok=true->e.er.ok=true:=by
 refine Tm.ind λk nm ot n ty re l ih h=>?_
 obtain ⟨h1,h2,J⟩:=Tm.ok_mk.1 h
 simp only [Tm.er,uA]
 split
 ·rename_i I
  match l,I.2 with
  | [t],_=>exact ih t (by simp) (h1 t (by simp))
 ·refine Tm.ok_mk.2 ⟨λx hx=>?_,?_,by rw [oV];exact J⟩
  ·obtain ⟨y,hy,rfl⟩:=oQ.1 hx
   exact ih y hy (h1 y hy)
  ·have tv:∀ t:Ty,(t.valid=true\/t.zero=true)->t.er.valid=t.valid/\t.er.zero=t.zero:=λt ht=>by
    rcases ht with ht | ht
    ·rw [rk ht,ht]
     have nz:∀ u:Ty,u.valid=true->u.zero=false:=λu hu=>by
      cases u with
      | mk k l=>
      simp only [Ty.valid,Ty.form,oG] at hu
      have J:=hu.2.2
      simp only [Ty.zero,Ty.k,Ty.as]
      by_cases h0:k=0
      ·subst h0;unfold rp at J;rw [if_neg (by decide),if_neg (by decide),if_neg (by decide)] at J;cases J
      ·simp [h0]
     rw [nz _ (rk ht),nz _ ht];exact ⟨rfl,rfl⟩
    ·cases t with
     | mk k l=>
     simp only [Ty.zero,Ty.k,Ty.as,oG,nK] at ht
     obtain ⟨rfl,hl⟩:=ht
     have:l=[]:=oP (by omega)
     subst this
     exact ⟨rfl,rfl⟩
   simp only [zJ,oG] at h2 ⊢
   obtain ⟨a1,O,U,Y,a5⟩:=h2
   have v1:=tv ty (by
    cases I:sD k with
    | true=>rw [I] at a1;exact .inl (nK.1 a1).symm
    | false=>rw [I] at O;exact .inr O)
   have v2:=tv re (by
    cases I:(k==9) with
    | true=>rw [I] at U;exact .inl (nK.1 U).symm
    | false=>rw [I] at Y;exact .inr Y)
   rw [v1.1,v1.2,v2.1,v2.2]
   exact ⟨a1,O,U,Y,a5⟩
theorem zQ5 {K:Nat}:∀ e:Tm,e.ok=true->∀ ρ:Ev,e.er.den K ρ=e.den K ρ:=by
 refine Tm.ind λk nm ot n ty re l ih h ρ=>?_
 obtain ⟨h1,h2,h3⟩:=Tm.ok_mk.1 h
 have I:∀ i,((l.map Tm.er).getD i tm0).den K=(l.getD i tm0).den K:=λi=>by
  funext σ
  by_cases hi:i<l.length
  ·rw [oA,oE,zN hi]
   exact ih _ (zU hi) (h1 _ (zU hi)) σ
  ·rw [oA,oA,oT (by simpa using hi),oT (by omega)]
 simp only [Tm.er,uA]
 split
 ·rename_i hk
  rw [zDT _ _ _ _ _ _ _ (by omega),I 0]
 ·rw [w7,w7,oV]
  simp only [I]
  by_cases J:k=6
  ·have O:ty.valid=true:=(wT h).vt (.inl J)
   subst J
   show (if l.length=1 then zO8 ty.er.st _ else jk)=(if l.length=1 then zO8 ty.st _ else jk)
   rw [zPz ty (rO O).2.2]
  ·by_cases U:k=9
   ·have O:ty.valid=true:=(wT h).vt (.inr U)
    have Y:re.valid=true:=(wT h).vr U
    unfold ndS
    rw [zPz ty (rO O).2.2,zPz re (rO Y).2.2]
   ·unfold ndS
    simp only [if_neg J,if_neg U]
theorem zRq:∀ (g:List Tg) (s:ByteArray) (m:Int) (t:Ty),xF g s m=some t->xF (g.map λx=>⟨x.nm,x.ty.er,0⟩) s 0=some t.er:=by
 intro g
 induction g using zFB with
 | sN=>intro s m t h;rw [zEj m [] (by simp)] at h;cases h
 | sC b q I=>
   intro s m t h
   rw [nc,List.map_singleton,xv]
   rw [xv] at h
   split at h
   ·rename_i e
    rw [if_pos (show (⟨q.nm,q.ty.er,0⟩:Tg).nm=s from e),if_pos rfl]
    split at h
    ·cases h;rfl
    ·cases h
   ·rename_i e
    rw [if_neg (show ¬(⟨q.nm,q.ty.er,0⟩:Tg).nm=s from e)]
    exact I s m t h
/-- erasure keeps types -/
theorem zLM {g:List Tg} {e:Tm} {n:Int} {t:Ty} (h:vl g e n=some t):vl (g.map λx=>⟨x.nm,x.ty.er,0⟩) e.er 0=some t.er:=by
 unfold vl at h
 split at h
 ·rename_i U
  have I:=U.2
  simp only [zAw,oG] at I
  have Y:=zSZ (zET e I.1 g n t I.2 h) (xF (g.map λx=>⟨x.nm,x.ty.er,0⟩)) (zRq g)
  have ok:=zSt e I.1
  have hc:zH5 (g.map λx=>⟨x.nm,x.ty.er,0⟩)=true:=by
   have J:=U.1
   unfold zH5 at J ⊢
   rw [oG] at J ⊢
   rw [oV]
   refine ⟨?_,J.2⟩
   have O:=J.1
   clear J U h Y ok I
   induction g with
   | nil=>rfl
   | cons y g ih=>
     simp only [ol,zFA,Tg.ok,oG] at O ⊢
     exact ⟨⟨O.1.1,rk O.1.2.1,rfl⟩,ih O.2⟩
  unfold vl
  rw [if_pos ⟨hc,by unfold zAw;rw [ok,zQt Y ok];rfl⟩]
  exact zKH Y _ rfl
 ·cases h
theorem zQD {a b:Tm} (ha:a.ok=true) (hb:b.ok=true) (I:a.kd=b.kd) (J:a.kd=2\/a.kd=3) (hn:a.no=b.no):a=b:=by
 have form:∀ c:Tm,c.ok=true->(c.kd=2\/c.kd=3)->c=zKO c.kd c.no:=λc hc I=>by
  cases c with
  | mk k nm ot n ty re l=>
  have I:k=2\/k=3:=I
  obtain ⟨h1,U,h3⟩:=Tm.ok_mk.1 hc
  have J:l=[]:=oP ((vp hc).2.2.2.1 (.inr I))
  simp only [zJ,oG] at U
  obtain ⟨a1,Y,a3,a4,a5,O⟩:=U
  have z:∀ t:Ty,t.zero=true->t=.mk 0 []:=λt ht=>by
   cases t with
   | mk k l=>
   simp only [Ty.zero,Ty.k,Ty.as,oG,nK] at ht
   rw [ht.1,oP (l:=l) (by omega)]
  have t1:sD k=false:=by rcases I with rfl | rfl<;>rfl
  have t2:(k==9)=false:=by rcases I with rfl | rfl<;>rfl
  rw [t1,Bool.false_or] at Y
  rw [t2,Bool.false_or] at a4
  unfold yu at O
  rw [if_neg (by omega),if_neg (by omega),if_neg (by omega),oG,o3,o3] at O
  rw [z ty Y,z re a4,O.1,O.2,J];rfl
 rw [form a ha J,form b hb (I ▸ J),I,hn]
/-- erasure keeps results of base types -/
theorem zRl {e:Tm} {u:Ty} (h:vl [] e 0=some u) (ha:(vM e 200).1=1) (hb:(vM e.er 200).1=1) (hl:(vM e 200).2.1.kd=2\/(vM e 200).2.1.kd=3):(vM e 200).2.1=(vM e.er 200).2.1:=by
 have hE:=zLM h
 have e0:xF []=rho0:=by funext s n;exact zEj n [] (by simp)
 have st:∀ {e:Tm} {u:Ty},vl [] e 0=some u->(vM e 200).1=1->e.ok=true/\HT rho0 e 0 u/\vM e 200=(zBC 200 0 e).1/\(zBC 200 0 e).1.1=1:=λ{e u} h ha=>by
  unfold vl at h
  split at h
  ·rename_i h1
   have O:=h1.2
   have I:vM e 200=(zBC 200 0 e).1:=by unfold vM;rw [if_pos (by rw [O];rfl)];rfl
   simp only [zAw,oG] at O
   have ht:=zET e O.1 [] 0 u O.2 h
   rw [e0] at ht
   exact ⟨O.1,ht,I,by rw [<-I];exact ha⟩
  ·cases h
 obtain ⟨o1,t1,r1,d1⟩:=st h ha
 obtain ⟨o2,t2,r2,d2⟩:=st hE hb
 rw [r1] at hl ⊢
 rw [r2]
 have J:Lv rho0:=λs m t h=>by cases h
 obtain ⟨a1,a2,a3,a4⟩:=zK1 J 200 0 e o1 t1 d1
 obtain ⟨b1,b2,b3,b4⟩:=zK1 J 200 0 e.er o2 t2 d2
 have hM:Mt rho0 λ_=>jk:=λs m t h=>by cases h
 have hR:RE (λ_=>jk) λ_=>jk:=λs=>zKC
 have aa:∀ {c:Tm} {v:Ty},HT rho0 c 0 v->c.kd=2->v=tInt:=λh hk=>by cases h<;>first | rfl | (simp [Tm.kd] at hk;done)
 have ab:∀ {c:Tm} {v:Ty},HT rho0 c 0 v->c.kd=3->v=tBool:=λh hk=>by cases h<;>first | rfl | (simp [Tm.kd] at hk;done)
 have U:∀ {c:Tm} {v:Ty},HT rho0 c 0 v->c.res=true->(v=tInt->c.kd=2)/\(v=tBool->c.kd=3):=λh I=>by
  cases h with
  | int=>exact ⟨λ_=>rfl,λh=>absurd (mC Ty.k h) (by decide)⟩
  | bool=>exact ⟨λh=>absurd (mC Ty.k h) (by decide),λ_=>rfl⟩
  | lam _ _=>exact ⟨λh=>absurd (show (3:Int)=1 from mC Ty.k h) (by decide),λh=>absurd (show (3:Int)=2 from mC Ty.k h) (by decide)⟩
  | fix _ _ _=>exact ⟨λh=>absurd (show (3:Int)=1 from mC Ty.k h) (by decide),λh=>absurd (show (3:Int)=2 from mC Ty.k h) (by decide)⟩
  | quote _ _=>exact ⟨λh=>absurd (show (4:Int)=1 from mC Ty.k h) (by decide),λh=>absurd (show (4:Int)=2 from mC Ty.k h) (by decide)⟩
  | var _ _=>cases I
  | op _=>cases I
  | ite _ _ _=>cases I
  | app _ _=>cases I
  | lt _ _=>cases I
  | splice _=>cases I
  | run _=>cases I
  | lift _ _ _=>cases I
 have hk:(zBC 200 0 e).1.2.1.kd=(zBC 200 0 e.er).1.2.1.kd:=by
  rcases hl with O | h3
  ·have:=aa a4 O
   subst this
   rw [O,(U b4 b3).1 rfl]
  ·have:=ab a4 h3
   subst this
   rw [h3,(U b4 b3).2 rfl]
 have v1:=zMg J hM hR 200 0 e o1 t1 d1 hl 200 (oD _)
 have v2:=zMg J hM hR 200 0 e.er o2 t2 d2 (hk ▸ hl) 200 (oD _)
 rw [zQ5 e o1] at v2
 have Y:=v1.symm.trans v2
 injection Y with _ Y
 have Y:=eq_of_heq (heq_of_eq Y)
 injection Y with Y
 exact zQD a1 b1 hk hl Y
end Go.Proofs.YtnmnahkkcfghjaaGreat
