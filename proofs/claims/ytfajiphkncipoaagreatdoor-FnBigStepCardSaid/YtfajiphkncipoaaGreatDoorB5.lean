/- BigStep: the first splice of level 1 (no program in sight). -/
import Derived.Test.YtfajiphkncipoaaGreatDoorB4
import Derived.Test.YtfajiphkncipoaaGreatDoorKm
import Derived.Test.YtfajiphkncipoaaGreatDoorA6
set_option linter.unusedVariables false
set_option linter.unusedSimpArgs false
namespace Go.Proofs.YtfajiphkncipoaaGreatDoor
open Go Go.Proofs Go.Proofs.Tryz Go.IntWalk
mutual
/-- the first splice of level 1 -/
def Tm.fs:Tm->Int->Option Tm
 | .mk k nm ot n ty re l,m=>if k=11/\m=1 then some (.mk k nm ot n ty re l) else wX l (zL k m)
def wX:List Tm->Int->Option Tm
 | [],_=>none
 | t::I,m=>match t.fs m with
   | some p=>some p
   | none=>wX I m
end
mutual
/-- another term in its place -/
def Tm.rpl:Tm->Int->Tm->Tm
 | .mk k nm ot n ty re l,m,x=>if k=11/\m=1 then x else .mk k nm ot n ty re (xh l (zL k m) x)
def xh:List Tm->Int->Tm->List Tm
 | [],_,_=>[]
 | t::I,m,x=>match t.fs m with
   | some _=>t.rpl m x::I
   | none=>t::xh I m x
end
theorem zOh:∀ (t:Tm) (m:Int),t.fs m=none↔t.made m=true:=by
 refine Tm.ind λk nm ot n ty re l ih m=>?_
 simp only [Tm.fs,Tm.made]
 have key:∀ xs:List Tm,(∀ x∈xs,x∈l)->∀ m,wX xs m=none↔yk xs m=true:=by
  intro xs
  induction xs with
  | nil=>intro _ m;simp [wX,yk]
  | cons x xs U=>
    intro J m
    have O:=ih x (J x (by simp)) m
    have h2:=U (λy hy=>J y (by simp [hy])) m
    simp only [wX,yk,oJ]
    cases Y:x.fs m with
    | none=>rw [Y] at O;simp only [h2,O.1 rfl,true_and]
    | some p=>
      rw [Y] at O
      have:¬x.made m=true:=λh=>by have:=O.2 h;cases this
      simp [this]
 split
 ·rename_i h;simp [h]
 ·rename_i h
  rw [key l (λx hx=>hx)]
  have:(k==11&&m==1)=false:=by
   by_cases I:k=11
   ·have:¬m=1:=λJ=>h ⟨I,J⟩
    simp [I,this]
   ·simp [I]
  simp [this]
theorem xb {S:Tm->Nat->Option (Tm × Nat)}:∀ (t:Tm) (m:Int) (s:Nat),t.made m=true->t.codE S m s=some (t,s):=by
 refine Tm.ind λk nm ot n ty re l O m s h=>?_
 simp only [Tm.made,oJ,nL] at h
 have key:∀ xs:List Tm,(∀ x∈xs,x∈l)->∀ m s,yk xs m=true->zQ S xs m s=some (xs,s):=by
  intro xs
  induction xs with
  | nil=>intro _ m s _;rfl
  | cons x xs I=>
    intro J m s h
    simp only [yk,oJ] at h
    simp only [zQ]
    rw [O x (J x (by simp)) m s h.1]
    simp only
    rw [I (λy U=>J y (by simp [U])) m s h.2]
 simp only [Tm.codE]
 rw [if_neg (λY=>by simp [Y] at h),key l (λx hx=>hx) _ _ h.2]
/-- what the first splice is -/
theorem zSS:∀ (t:Tm) (m:Int) (p:Tm),t.fs m=some p->p.kd=11:=by
 refine Tm.ind λk nm ot n ty re l U m p h=>?_
 simp only [Tm.fs] at h
 have key:∀ xs:List Tm,(∀ x∈xs,x∈l)->∀ m,wX xs m=some p->p.kd=11:=by
  intro xs
  induction xs with
  | nil=>intro _ m h;cases h
  | cons x xs I=>
    intro O m h
    simp only [wX] at h
    cases J:x.fs m with
    | none=>rw [J] at h;exact I (λy Y=>O y (by simp [Y])) m h
    | some q=>rw [J] at h;cases h;exact U x (O x (by simp)) m _ J
 split at h
 ·rename_i hk;cases h;exact hk.1
 ·exact key l (λx hx=>hx) _ h
/-- what holds of a term's parts holds of its first splice -/
theorem zQp {P:Tm->Prop} (Y:∀ k nm ot n ty re l,P (.mk k nm ot n ty re l)->∀ x∈l,P x):∀ (t:Tm) (m:Int) (p:Tm),t.fs m=some p->P t->P p:=by
 refine Tm.ind λk nm ot n ty re l ih m p h U=>?_
 simp only [Tm.fs] at h
 have hl:=Y _ _ _ _ _ _ _ U
 have key:∀ xs:List Tm,(∀ x∈xs,x∈l)->∀ m,wX xs m=some p->P p:=by
  intro xs
  induction xs with
  | nil=>intro _ m h;cases h
  | cons x xs I=>
    intro J m h
    simp only [wX] at h
    cases O:x.fs m with
    | none=>rw [O] at h;exact I (λy hy=>J y (by simp [hy])) m h
    | some q=>rw [O] at h;cases h;exact ih x (J x (by simp)) m _ O (hl x (J x (by simp)))
 split at h
 ·cases h;exact U
 ·exact key l (λx hx=>hx) _ h
theorem zR5 {t p:Tm} {m:Int} (h:t.fs m=some p) (I:t.ok=true):p.ok=true:=zQp (P:=λt=>t.ok=true) (λ_ _ _ _ _ _ _ h=>(Tm.ok_mk.1 h).1) t m p h I
theorem zUB {t p:Tm} {m:Int} (h:t.fs m=some p):p.dp<=t.dp:=zQp (P:=λx=>x.dp<=t.dp) (λ_ _ _ _ _ _ l h x I=>by have:=ww.1 (oB (vD l)) x I;simp only [Tm.dp] at h;omega) t m p h (oB _)
theorem zMw:∀ (t:Tm) (m:Int) (p x:Tm),t.fs m=some p->(t.rpl m x).sz+p.sz=t.sz+x.sz:=by
 refine Tm.ind λk nm ot n ty re l Y m p x h=>?_
 simp only [Tm.fs] at h
 have key:∀ xs:List Tm,(∀ x∈xs,x∈l)->∀ m,wX xs m=some p->zF (xh xs m x)+p.sz=zF xs+x.sz:=by
  intro xs
  induction xs with
  | nil=>intro _ m h;cases h
  | cons y xs I=>
    intro U m h
    simp only [wX] at h
    simp only [xh]
    cases J:y.fs m with
    | none=>rw [J] at h;have:=I (λz hz=>U z (by simp [hz])) m h;simp only [zF];omega
    | some q=>rw [J] at h;cases h;have:=Y y (U y (by simp)) m _ x J;simp only [zF];omega
 simp only [Tm.rpl]
 split at h
 ·rename_i O;cases h;rw [if_pos O];omega
 ·rename_i O
  rw [if_neg O]
  have:=key l (λx hx=>hx) _ h
  simp only [Tm.sz];omega
theorem zSq:∀ (t:Tm) (m:Int) (x:Tm),(t.rpl m x).dp<=t.dp+x.dp:=by
 refine Tm.ind λk nm ot n ty re l O m x=>?_
 have key:∀ xs:List Tm,(∀ x∈xs,x∈l)->∀ m,vD (xh xs m x)<=vD xs+x.dp:=by
  intro xs
  induction xs with
  | nil=>intro _ m;simp [xh,vD]
  | cons y xs I=>
    intro J m
    have a1:=I (λz U=>J z (by simp [U])) m
    have a2:=O y (J y (by simp)) m x
    simp only [xh]
    cases hf:y.fs m with
    | none=>simp only [vD];omega
    | some q=>simp only [vD];omega
 simp only [Tm.rpl]
 split
 ·omega
 ·have:=key l (λx Y=>Y) (zL k m)
  simp only [Tm.dp];omega
theorem zQt:∀ (t:Tm) (m:Int) (x:Tm),t.ok=true->x.ok=true->(t.rpl m x).ok=true:=by
 refine Tm.ind λk nm ot n ty re l ih m x ho J=>?_
 obtain ⟨O,h2,h3⟩:=Tm.ok_mk.1 ho
 have key:∀ xs:List Tm,(∀ x∈xs,x∈l)->∀ m,(xh xs m x).length=xs.length/\∀ y∈xh xs m x,y.ok=true:=by
  intro xs
  induction xs with
  | nil=>intro _ m;simp [xh]
  | cons y xs U=>
    intro I m
    obtain ⟨Y,a2⟩:=U (λz hz=>I z (by simp [hz])) m
    simp only [xh]
    cases hf:y.fs m with
    | none=>
      refine ⟨by simp [Y],λz hz=>?_⟩
      rcases oI.1 hz with rfl | hz
      ·exact O _ (I _ (by simp))
      ·exact a2 z hz
    | some q=>
      refine ⟨by simp,λz hz=>?_⟩
      rcases oI.1 hz with rfl | hz
      ·exact ih y (I y (by simp)) m x (O y (I y (by simp))) J
      ·exact O z (I z (by simp [hz]))
 simp only [Tm.rpl]
 split
 ·exact J
 ·obtain ⟨Y,a2⟩:=key l (λx J=>J) (zL k m)
  exact Tm.ok_mk.2 ⟨a2,h2,by rw [Y];exact h3⟩
/-- the first splice evaluated first -/
theorem zL8 {S:Tm->Nat->Option (Tm × Nat)}:∀ (t:Tm) (m:Int) (s:Nat) (p:Tm),t.fs m=some p->(∀ x s1,p.codE S 1 s=some (x,s1)->x.made 1=true) ->
  t.codE S m s=match p.codE S 1 s with
   | none=>none
   | some (x,s1)=>(t.rpl m x).codE S m s1:=by
 refine Tm.ind λk nm ot n ty re l ih m s p h I=>?_
 have key:∀ xs:List Tm,(∀ x∈xs,x∈l)->∀ m,wX xs m=some p->zQ S xs m s=match p.codE S 1 s with
   | none=>none
   | some (x,s1)=>zQ S (xh xs m x) m s1:=by
  intro xs
  induction xs with
  | nil=>intro _ m h;cases h
  | cons y xs Y=>
    intro hm m h
    simp only [wX] at h
    simp only [xh,zQ]
    cases J:y.fs m with
    | none=>
      rw [J] at h
      have hy:=(zOh y m).1 J
      rw [xb y m s hy]
      simp only
      rw [Y (λz hz=>hm z (by simp [hz])) m h]
      cases O:p.codE S 1 s with
      | none=>rfl
      | some r=>
        obtain ⟨x,s1⟩:=r
        simp only [zQ]
        rw [xb y m s1 hy]
    | some q=>
      rw [J] at h
      cases h
      rw [ih y (hm y (by simp)) m s _ J I]
      cases O:p.codE S 1 s with
      | none=>rfl
      | some r=>
        obtain ⟨x,s1⟩:=r
        simp only [zQ]
 simp only [Tm.fs] at h
 split at h
 ·rename_i U
  cases h
  obtain ⟨rfl,rfl⟩:=U
  cases O:(Tm.mk 11 nm ot n ty re l).codE S 1 s with
  | none=>rfl
  | some r=>
    obtain ⟨x,s1⟩:=r
    simp only [Tm.rpl,and_self,mm]
    rw [xb x 1 s1 (I x s1 O)]
 ·rename_i U
  have e1:∀ (l:List Tm) (s:Nat),(Tm.mk k nm ot n ty re l).codE S m s=match zQ S l (zL k m) s with
   | none=>none
   | some (l',s1)=>some (.mk k nm ot n ty re l',s1):=λl s=>by simp only [Tm.codE];rw [if_neg U]<;>cases zQ S l (zL k m) s<;>rfl
  rw [e1,key l (λx I=>I) _ h]
  cases O:p.codE S 1 s with
  | none=>rfl
  | some r=>
    obtain ⟨x,s1⟩:=r
    simp only [Tm.rpl]
    rw [if_neg U,e1]
theorem zLm {S:Tm->Tm × Int}:∀ (t:Tm) (m:Int),t.fs m=none->t.cod S m=(t,0,false):=by
 refine Tm.ind λk nm ot n ty re l U m h=>?_
 have key:∀ xs:List Tm,(∀ x∈xs,x∈l)->∀ m,wX xs m=none->zK S xs m=none:=by
  intro xs
  induction xs with
  | nil=>intro _ m _;rfl
  | cons y xs I=>
    intro O m h
    simp only [wX] at h
    simp only [zK]
    cases J:y.fs m with
    | none=>
      rw [J] at h
      rw [U y (O y (by simp)) m J]
      simp only [mJ,nY]
      rw [I (λz Y=>O z (by simp [Y])) m h]
    | some r=>rw [J] at h;cases h
 simp only [Tm.fs] at h
 split at h
 ·cases h
 ·rename_i hk
  simp only [Tm.cod]
  rw [if_neg hk,key l (λx hx=>hx) _ h]
theorem zIz {q:Tm}:∀ (t:Tm) (m:Int) (p:Tm),t.fs m=some p->(p.pt 0).res=false->t.cod (λ_=>(q,0)) m=(t.rpl m (p.wth 0 q),0,true):=by
 refine Tm.ind λk nm ot n ty re l ih m p h U=>?_
 have key:∀ xs:List Tm,(∀ x∈xs,x∈l)->∀ m,wX xs m=some p->zK (λ_=>(q,0)) xs m=some (xh xs m (p.wth 0 q),0):=by
  intro xs
  induction xs with
  | nil=>intro _ m h;cases h
  | cons y xs O=>
    intro Y m h
    simp only [wX] at h
    simp only [xh,zK]
    cases J:y.fs m with
    | none=>
      rw [J] at h
      rw [zLm y m J]
      simp only [mJ,nY]
      rw [O (λz hz=>Y z (by simp [hz])) m h]
    | some r=>
      rw [J] at h
      cases h
      rw [ih y (Y y (by simp)) m _ J U]
      rfl
 simp only [Tm.fs] at h
 simp only [Tm.cod,Tm.rpl]
 split at h
 ·rename_i I
  cases h
  rw [if_pos I,if_pos I]
  unfold zJs
  rw [if_neg (by rw [U];decide)]
 ·rename_i I
  rw [if_neg I,if_neg I,key l (λx hx=>hx) _ h]
theorem zI8 {S:Tm->Tm × Int}:∀ (t:Tm) (m:Int) (p:Tm),t.fs m=some p->(p.pt 0).res=true->(p.pt 0).kd=10->t.cod S m=(t.rpl m ((p.pt 0).pt 0),6,true):=by
 refine Tm.ind λk nm ot n ty re l ih m p h Y I=>?_
 have key:∀ xs:List Tm,(∀ x∈xs,x∈l)->∀ m,wX xs m=some p->zK S xs m=some (xh xs m ((p.pt 0).pt 0),6):=by
  intro xs
  induction xs with
  | nil=>intro _ m h;cases h
  | cons y xs U=>
    intro hm m h
    simp only [wX] at h
    simp only [xh,zK]
    cases O:y.fs m with
    | none=>
      rw [O] at h
      rw [zLm y m O]
      simp only [mJ,nY]
      rw [U (λz hz=>hm z (by simp [hz])) m h]
    | some r=>
      rw [O] at h
      cases h
      rw [ih y (hm y (by simp)) m _ O Y I]
      rfl
 simp only [Tm.fs] at h
 simp only [Tm.cod,Tm.rpl]
 split at h
 ·rename_i J
  cases h
  rw [if_pos J,if_pos J]
  unfold zJs
  rw [if_pos Y,if_pos I]
 ·rename_i J
  rw [if_neg J,if_neg J,key l (λx hx=>hx) _ h]
/-- a splice in the place of the first is the first -/
theorem zTA {q:Tm} (Y:q.kd=11):∀ (t:Tm) (m:Int) (p:Tm),t.fs m=some p->(t.rpl m q).fs m=some q/\∀ x,(t.rpl m q).rpl m x=t.rpl m x:=by
 have I:q.fs 1=some q/\∀ x,q.rpl 1 x=x:=by
  cases q with
  | mk k nm ot n ty re l=>
  have Y:k=11:=Y
  subst Y
  simp [Tm.fs,Tm.rpl]
 refine Tm.ind λk nm ot n ty re l ih m p h=>?_
 have key:∀ xs:List Tm,(∀ x∈xs,x∈l)->∀ m,wX xs m=some p->wX (xh xs m q) m=some q/\∀ x,xh (xh xs m q) m x=xh xs m x:=by
  intro xs
  induction xs with
  | nil=>intro _ m h;cases h
  | cons y xs aa=>
    intro hm m h
    simp only [wX] at h
    cases J:y.fs m with
    | none=>
      rw [J] at h
      obtain ⟨O,a2⟩:=aa (λz hz=>hm z (by simp [hz])) m h
      simp only [xh,J,wX,O,a2,true_and]
      intro x;trivial
    | some r=>
      rw [J] at h
      cases h
      obtain ⟨O,a2⟩:=ih y (hm y (by simp)) m _ J
      simp only [xh,J,wX,O,a2,true_and]
      intro x;trivial
 simp only [Tm.fs] at h
 split at h
 ·rename_i U
  simp only [Tm.rpl,if_pos U]
  rw [U.2]
  exact ⟨I.1,I.2⟩
 ·rename_i U
  obtain ⟨O,a2⟩:=key l (λx hx=>hx) _ h
  simp only [Tm.rpl,if_neg U,Tm.fs,O,a2,true_and]
  intro x;trivial
theorem zIV (k:Int) {l:List Tm} {es:List D} (Y:All2 Tm.Is l es) (am:es.length<=1073741824) (hc:∀ x∈l,x.G) (a:Option Addr) (c:Nat) (N:Nat) (Q:QT [.ag 9])
  (hQ:∀ d' N',N<=N'->(Tm.mk k (bytes []) (bytes []) 0 (.mk 0 []) (.mk 0 []) l).Is d'->Own N N' d'->Q d' N') :
  ACalls prog 87 [.ag 9] [.j k,.sv a 9 es c] N Q:=by
 have hl:=Y.len
 refine zA3 N _ a es c Q λ_=>?_
 refine up Y (by omega) (λi xs=>∀ (done:List D) (q N':Nat),N<=N'->All2 Tm.Is (l.take i) done->done.length=i->OwnL N N' done ->
  xa Q N a es c i 0 (bytes []) (bytes []) 0 0 none [] 0 0 none [] 0 none [] 0 k (bytes []) (bytes []) 0 0 none [] 0 0 none [] 0 done.length q done q N') ?_ ?_ [] 0 N (oB _) rfl rfl zDM
 ·intro i ac hi done q N' ae hd aa ho
  refine wW _ _ _ _ _ _ _ _ _ _ _ _ _ _ _ _ _ _ _ _ _ _ _ _ _ _ _ _ _ _ _ _ _ _ _ _ _ _ ?_
  rw [od (by omega)] at hd
  rw [ac]
  refine ⟨⟨rfl,rfl⟩,⟨rfl,rfl⟩,⟨rfl,rfl⟩,λa1 N4 ah hf N5 U=>hQ _ _ (by omega) (Tm.is_mk.2 ⟨_,_,_,_,_,_,_,rfl,⟨by decide,by decide,xQ _,xQ _⟩,by omega,hd⟩) ?_⟩
  exact zEp (yG (yG (yG (yG (yG (zHW (yG (zHW (xV ((zDX ho hf ah).mono (oB _) U))))))))))
 ·intro i x xs J _ ai done q N' ae hd aa ho
  have hb:=J.b
  have ab:=hc x J.m
  refine wW _ _ _ _ _ _ _ _ _ _ _ _ _ _ _ _ _ _ _ _ _ _ _ _ _ _ _ _ _ _ _ _ _ _ _ _ _ _ ?_
  rw [J.lt]
  refine ⟨⟨by omega,by omega⟩,λN5 U=>?_⟩
  rw [oF,J.w]
  refine vQ x _ J.r ab _ _ ?_
  cases x with
  | mk k2 aq au n2 aw ax l2=>
    intro x4 x5 x6 x7 aj c2 N6 ay ak O al _ _
    have az:=O.len
    have ao:=ab.2.2.1
    refine ⟨⟨rfl,rfl⟩,λa2 N7 a6 hf=>⟨⟨rfl,rfl⟩,by unfold zB;rw [oH];simp only [oN,oZ];omega,λc3=>?_⟩⟩
    refine ai _ _ _ (by omega) (by rw [xN J.g];exact hd.snoc (Tm.is_mk.2 ⟨_,_,_,_,_,_,_,rfl,ak,by omega,O⟩)) (by simp [aa]) ?_
    refine zJW (hd:=[]) (xs:=[x4,x5,x6,x7]) (ho.mono (oB _) U) al hf (by omega) (by omega) (by omega) ?_ ?_
    ·intro ad h hc
     have I:=hf.ap ad h (.ag done) (by simp)
     exact I (by simpa only [D.foot,oX] using hc)
    ·intro ad h hc
     have I:=hf.ap ad h
     simp only [oq,oX,zH,oK] at hc
     rcases hc with hc | hc | hc | hc | hc
     ·exact I x4 (by simp) hc
     ·exact I x5 (by simp) hc
     ·exact I x6 (by simp) hc
     ·exact I x7 (by simp) hc
     ·exact I (.ag aj) (by simp) (by simpa only [D.foot] using hc)
theorem zMp {e:Tm} (h:e.ok=true) (hs:e.sz<=1300000):e.F e.dp:=⟨h,oB _,by have:=zQ7 e h;omega,by have:=Tm.vc_sz e;omega⟩
theorem zSM {e:Tm} (h:e.ok=true) (hs:e.sz<=1300000):e.G:=(zMp h hs).z.g
theorem zNB (e:Tm) (h:e.sz<=1300000):e.apl.1.sz<=2300000000000000000:=by
 have I:∀ (t b:Tm) (x:ByteArray) (m:Nat),t.sz<=m->b.sz<=1300000->(t.sb x b).sz<=m*1300001:=λt b x m Y h2=>
  oR (zJ4 _ t x b) (Nat.mul_le_mul Y (by omega))
 cases e with
 | mk k nm ot n ty re l=>
 have g:∀ i,(l.getD i tm0).sz<=1300000:=λi=>oR (zG9 (e:=.mk k nm ot n ty re l)) h
 have gp:∀ i j,((l.getD i tm0).pt j).sz<=1300000:=λi j=>oR zG9 (g i)
 have U:=g 0
 have O:=g 1
 have J:=gp 0 0
 simp only [Tm.apl,Tm.opr]
 have k1:=I ((l.getD 0 tm0).pt 0) (l.getD 1 tm0) (l.getD 0 tm0).nm 1300000 J O
 have k2:=I ((l.getD 0 tm0).pt 0) (l.getD 0 tm0) (l.getD 0 tm0).nm 1300000 J U
 have k3:=I _ (l.getD 1 tm0) (l.getD 0 tm0).ot _ k2 O
 have k4:=I (l.getD 1 tm0) (l.getD 0 tm0) nm 1300000 O U
 have k5:=g (2 - (l.getD 0 tm0).no).toNat
 (repeat' split)<;>first | (simp only;omega) | (simp only [zMT,Tm.nod,Tm.sz,zF];omega)
theorem zOj {S:Tm->Tm × Int} {e:Tm}:∀ (xs:List Tm) (i:Nat),(∀ x∈xs,x.res=true)->goS S e xs i=none
 | [],i,_=>rfl
 | x::xs,i,h=>by rw [pq (h x (by simp))];exact zOj xs (i+1) λy I=>h y (by simp [I])
/-- a step of a form whose parts are results -/
theorem zRe {k:Int} {nm ot:ByteArray} {n:Int} {ty re:Ty} {l:List Tm} {f:Nat} (I:¬(Tm.mk k nm ot n ty re l).res=true) (J:¬k=10) (h:∀ x∈l.take (xA k l.length),x.res=true) :
  (Tm.mk k nm ot n ty re l).stp (f+1)=(Tm.mk k nm ot n ty re l).apl:=by
 simp only [Tm.stp]
 rw [if_neg I,if_neg (show ¬(Tm.mk k nm ot n ty re l).kd=10 from J),zOj _ _ h]
/-- how an evaluation ends, as the caller finds it -/
def EvP (o:Option (Tm × Nat)) (F:Nat) (d:D) (fu st:Int) (b:Bool):Prop:=match o with
 | none=>b=true
 | some (v,s1)=>b=false/\fu=F/\st=F - s1/\v.Is d
def CoP (o:Option (Tm × Nat)) (F:Nat) (d:D) (fu st:Int) (b:Bool):Prop:=match o with
 | none=>b=true/\∃ v:Tm,v.Is d/\v.G
 | some (v,s1)=>b=false/\fu=F/\st=F - s1/\v.Is d
def EvC (fn:FuncId) (f F:Nat):Prop:=∀ (e:Tm) (d:D) (s:Nat),e.Is d->e.ok=true->e.sz+400*s<=1300000->e.dp+401*s<=f->s<=F->∀ (N:Nat) (Q:QT [.ag 9,.i,.i,.bool]),
 (∀ d' fu st b N',N<=N'->EvP (evT f e s) F d' fu st b->Q d' fu st b N')->BCalls prog fn [.ag 9,.i,.i,.bool] [.pb 0 0 0 0,.dg 9 d] [.var [.j F,.j ((F:Int) - s),.bool false]] N Q
theorem zNH (d:D) (m x y:Int) (N:Nat) (Q:QT [.ag 9,.i,.i,.bool]) (I:∀ N',N<=N'->Q d x y true N'):BCalls prog 88 [.ag 9,.i,.i,.bool] [.pb 0 0 0 0,.dg 9 d,.j m] [.var [.j x,.j y,.bool true]] N Q:=
 tZ N d m x y true Q λE _=>⟨zP,λN1 h=>I _ h⟩
theorem zB5 (d:D) (x y:Int) (N:Nat) (Q:QT [.ag 9,.i,.i,.bool]) (I:∀ N',N<=N'->Q d x y true N'):BCalls prog 89 [.ag 9,.i,.i,.bool] [.pb 0 0 0 0,.dg 9 d] [.var [.j x,.j y,.bool true]] N Q:=
 uy N d x y true Q λE _=>⟨zP,λN1 h=>I _ h⟩
/-- a rule is counted -/
theorem zQ5 {x:Tm} {d:D} (hd:x.Is d) (hs:x.sz<=9223372036854775807) {F s:Nat} (hF:F<=200) (J:s<=F) (N:Nat) (Q:QT [.ag 9,.i,.i,.bool])
  (I:∀ st b N',N<=N'->(match pO x s with | none=>b=true | some (_,s1)=>b=false/\st=(F:Int) - s1)->Q d F st b N') :
  BCalls prog 126 [.ag 9,.i,.i,.bool] [.pb 0 0 0 0,.dg 9 d] [.var [.j F,.j ((F:Int) - s),.bool false]] N Q:=by
 unfold pO at I
 refine zBo N d F _ false Q λE _=>?_
 rw [i64_in _ (by omega)]
 refine Br.dec (λh=>⟨zP,λN1 O=>I _ _ _ O ?_⟩) λh N1 U=>qQ x d hd hs N1 _ λN2 Y _=>⟨zP,λN3 aa=>I _ _ _ (by omega) ?_⟩
 ·rw [if_pos (.inl (by omega))]
 ·by_cases h4:400<x.sz
  ·rw [if_pos (.inr h4)];exact mO (by omega)
  ·rw [if_neg (by omega)];exact ⟨mS (by omega),by omega⟩
/-- a rule is applied to a form whose parts are results -/
theorem zDk {f F:Nat} (hF:F<=200) (hE:EvC 51 f F) {k n:Int} {nm ot:ByteArray} {ty re:Ty} {l:List Tm} {d:D} {s:Nat} (hd:(Tm.mk k nm ot n ty re l).Is d) (ho:(Tm.mk k nm ot n ty re l).ok=true)
  (hs:(Tm.mk k nm ot n ty re l).sz+400*s<=1300000) (hr:¬(Tm.mk k nm ot n ty re l).res=true) (hk:¬k=10) (hl:∀ x∈l.take (xA k l.length),x.res=true) (hf:401*s<=f) (Y:s<=F) (N:Nat) (Q:QT [.ag 9,.i,.i,.bool])
  (I : ∀ d' fu st b N',N<=N'->EvP (if (Tm.mk k nm ot n ty re l).apl.2=0 then none else match pO (Tm.mk k nm ot n ty re l).apl.1 s with
      | none=>none
      | some (x,s2)=>evT f x s2) F d' fu st b->Q d' fu st b N') :
  BCalls prog 89 [.ag 9,.i,.i,.bool] [.pb 0 0 0 0,.dg 9 d] [.var [.j F,.j ((F:Int) - s),.bool false]] N Q:=by
 have hb:=zNB _ (show (Tm.mk k nm ot n ty re l).sz<=1300000 by omega)
 have ha:=zK9 ho
 have O:=zRe (f:=(Tm.mk k nm ot n ty re l).dp - 1) hr hk hl
 have ab:=Tm.dp_pos (Tm.mk k nm ot n ty re l)
 rw [show (Tm.mk k nm ot n ty re l).dp - 1+1=(Tm.mk k nm ot n ty re l).dp by omega] at O
 refine uy N d F _ false Q λE _=>?_
 rw [uD]
 intro N2 ac
 refine zAI _ _ _ hd (zMp ho (by omega)) N2 _ λdx N3 ae U _ _=>?_
 rw [O] at U ⊢
 generalize (Tm.mk k nm ot n ty re l).apl=r at U I hb ha
 refine Br.beq (λh0=>⟨zP,λN4 ah=>I _ _ _ _ _ (by omega) (by rw [if_pos h0];rfl)⟩) λh0 N5 ai=>?_
 rw [if_neg h0] at I
 refine zQ5 U (by omega) hF Y N5 _ λst b N6 aj hc _ _=>?_
 cases J:pO r.1 s with
 | none=>
   rw [J] at hc I
   refine Br.of (λ_=>⟨zP,λN7 ak=>I _ _ _ _ _ (by omega) hc⟩) λh=>absurd hc (by rw [h];simp)
 | some p=>
   obtain ⟨y,s2⟩:=p
   rw [J] at hc I
   obtain ⟨e1,e2,e3⟩:=xy J
   obtain ⟨c1,c2⟩:=hc
   subst c1 c2 e1
   have al:=Tm.dp_sz r.1
   refine Br.of (λh=>by cases h) λ_ N8 am=>hE r.1 dx s2 U (ha e3) (by omega) (by omega) (by omega) N8 _ λd' fu st b N9 ao hp _ _=>⟨zP,λaq aa=>I _ _ _ _ _ (by omega) hp⟩
theorem zKc {α:Type} (a:List α) (x:α) (b:List α) (v:α):(a++x::b).set a.length v=(a++[v])++b:=by
 rw [ma _ _ (oB _)];simp
/-- the rest of a part, once the evaluation has failed -/
theorem zPH {k n0:Int} {nm ot:ByteArray} {ty re:Ty} {l:List Tm} {t0 t1 r0 r1:D} {a:Option Addr} {es:List D} {c:Nat} (U:(Tm.mk k nm ot n0 ty re l).G) (ae:es.length<=4611686018427387904) (I:All2 Tm.Is l es)
  {m:Int} (Y:LvIn m (Tm.mk k nm ot n0 ty re l).dp) {y4 y5 y6 y7:D} (hH:Tm.Hd nm ot ty re y4 y5 y6 y7) (E:Env) (Q:QT [.ag 9,.i,.i,.bool]) (N:Nat) (fu st:Int)
  (hQ:∀ d' N',N<=N'->(∃ v:Tm,v.Is d'/\v.G)->Q d' fu st true N') :
  ∀ (j i:Nat) (ys:List Tm) (r:List D) (q N':Nat),N<=N'->i+j=l.length->All2 Tm.Is ys r->ys.length=l.length->(∀ y∈ys,y.G) ->
    zu E Q N m i fu st true (.ag [.j k,.t nm,.t ot,.j n0,t0,t1,r0,r1,.sl a 9 es c]) 0 (bytes []) (bytes []) 0 0 none [] 0 0 none [] 0 none [] 0 k nm ot n0 y4 y5 y6 y7 r.length q r q N':=by
 have hl:=I.len
 have ah:=U.2.2.1
 intro j
 induction j with
 | zero=>
   intro i ys r q N' aa hi J hy hg
   have ab:=J.len
   refine xo _ _ _ _ _ _ _ _ _ _ _ _ _ _ _ _ _ _ _ _ _ _ _ _ _ _ _ _ _ _ _ _ _ _ _ _ _ ⟨_,_,_,rfl,Br.dec (λh=>by omega) λ_=>⟨⟨rfl,rfl⟩,⟨rfl,rfl⟩,⟨rfl,rfl⟩,λa2 N5 ai hf=>⟨zP,λN6 aj=>hQ _ _ (by omega) ⟨.mk k nm ot n0 ty re ys,Tm.is_mk.2 ⟨_,_,_,_,_,_,_,rfl,hH,by omega,J⟩,?_⟩⟩⟩⟩
   exact ⟨U.1,U.2.1,by omega,zPG.2 hg⟩
 | succ j ih=>
   intro i ys r q N' aa hi J hy hg
   have ab:=J.len
   have O:i<l.length:=by omega
   refine xo _ _ _ _ _ _ _ _ _ _ _ _ _ _ _ _ _ _ _ _ _ _ _ _ _ _ _ _ _ _ _ _ _ _ _ _ _ ⟨_,_,_,rfl,Br.dec (λ_=>⟨_,_,_,rfl,⟨by omega,by omega⟩,λN1 ak=>zAL Y.b N1 _ λN2 al _ N3 am=>?_⟩) λh=>absurd (by omega) h⟩
   rw [oF]
   refine zNH _ _ _ _ N3 _ λN4 ao _ _=>⟨⟨by omega,by omega,by omega⟩,by omega,?_⟩
   rw [i64_in _ (by omega),oe]
   have Y:=zC O
   have:=ih (i+1) (ys.set i (l.getD i tm0)) (r.set i (es.getD i default)) q N4 (by omega) (by omega) (xk J (zf I O)) (by simpa using hy) (λy ac=>by
    rcases o6 ac with h | rfl
    ·exact hg y h
    ·exact za U.2.2.2 Y)
   simpa using this
theorem zFK {f F:Nat} (hF:F<=200) (hE:EvC 51 f F):∀ (t:Tm) (d:D) (m:Int) (s:Nat),t.Is d->t.ok=true->LvIn m t.dp->t.sz+400*s<=1300000->t.dp+401*s<=f+1->s<=F->∀ (N:Nat) (Q:QT [.ag 9,.i,.i,.bool]),
  (∀ d' fu st b N',N<=N'->CoP (t.codE (evT f) m s) F d' fu st b->Q d' fu st b N')->BCalls prog 88 [.ag 9,.i,.i,.bool] [.pb 0 0 0 0,.dg 9 d,.j m] [.var [.j F,.j ((F:Int) - s),.bool false]] N Q:=by
 refine Tm.ind λk nm ot n0 ty re l ih d m s hd ho hm hs hf bd N Q O=>?_
 have al:=hd
 have hG:=zSM ho (by omega)
 obtain ⟨h1,h2,h3⟩:=Tm.ok_mk.1 ho
 obtain ⟨t0,t1,r0,r1,a,es,c,rfl,hh,aj,ab⟩:=Tm.is_mk.1 hd
 have hl:=ab.len
 have cf:=hG.2.2.1
 have cg:(Tm.mk k nm ot n0 ty re l).sz=1+zF l:=rfl
 have loop:∀ E:Env,¬(k=11/\m=1)->∀ N9,N<=N9->ACalls prog 40 [.pk,.i,.str,.str,.i,.dc,.dc,.dc,.dc,.row 29 9] [.dg 9 (.ag [.j k,.t nm,.t ot,.j n0,t0,t1,r0,r1,.sl a 9 es c])] N9 (λbg s_ bh bi bj bm bn bp U a6 Y=>N9<=Y->Bel Y (D.ag U) ->
   zu E Q N m 0 F ((F:Int) - s) false (.ag [.j k,.t nm,.t ot,.j n0,t0,t1,r0,r1,.sl a 9 es c]) 0 (bytes []) (bytes []) 0 0 none [] 0 0 none [] 0 none [] 0 bg s_ bh bi bj bm bn bp U.length a6 U a6 Y):=λE bq N9 ac=>by
  simp only [Tm.codE] at O
  rw [if_neg bq] at O
  refine vQ _ _ al hG N9 _ ?_
  intro x4 x5 x6 x7 bt c' Y ce hH a7 _ _ _
  have key:=up ab aj (λi xs=>∀ (don:List Tm) (r:List D) (q s' N':Nat),N<=N'->don.length=i->All2 Tm.Is (don++xs) r->(∀ y∈don,y.G)->s'<=s->(∀ d' fu st b N',N<=N'->CoP (match (match zQ (evT f) xs (zL k m) s' with
   | none=>none
   | some (bv,s1)=>some (don++bv,s1)) with
   | none=>none
   | some (l',s1)=>some (Tm.mk k nm ot n0 ty re l',s1)) F d' fu st b->Q d' fu st b N') ->
   zu E Q N m i F ((F:Int) - s') false (.ag [.j k,.t nm,.t ot,.j n0,t0,t1,r0,r1,.sl a 9 es c]) 0 (bytes []) (bytes []) 0 0 none [] 0 0 none [] 0 none [] 0 k nm ot n0 x4 x5 x6 x7 r.length q r q N') ?_ ?_
  ·exact key [] bt c' s Y (by omega) rfl a7 (by simp) (oB _) (λd' fu st b N' aa hc=>O _ _ _ _ _ aa (by
    cases hx:zQ (evT f) l (zL k m) s with
    | none=>rw [hx] at hc;exact hc
    | some p=>rw [hx] at hc;exact hc))
  ·intro i bw hi don r q s' N' aa am hA ao bz hq
   have aq:=hA.len
   rw [o7] at hA aq
   simp only [zQ,o7] at hq
   refine xo _ _ _ _ _ _ _ _ _ _ _ _ _ _ _ _ _ _ _ _ _ _ _ _ _ _ _ _ _ _ _ _ _ _ _ _ _ ⟨_,_,_,rfl,?_⟩
   rw [bw]
   exact ⟨⟨rfl,rfl⟩,⟨rfl,rfl⟩,⟨rfl,rfl⟩,λa2 N5 b1 hf=>⟨zP,λN6 b2=>hq _ _ _ _ _ (by omega) ⟨rfl,rfl,rfl,Tm.is_mk.2 ⟨_,_,_,_,_,_,_,rfl,hH,by omega,hA⟩⟩⟩⟩
  ·intro i x xs J a8 b3 don r q s' N' aa am hA ao bz hq
   have hb:=J.b
   have aq:=hA.len
   have I:=J.m
   have ch:i<l.length:=(oC.1 J.g).1
   have cj:xs.length=l.length - (i+1):=by rw [<-a8];simp
   have b4:=Tm.dp_mem (k:=k) (nm:=nm) (ot:=ot) (n:=n0) (ty:=ty) (re:=re) I
   have b5:=Tm.sz_mem (k:=k) (nm:=nm) (ot:=ot) (n:=n0) (ty:=ty) (re:=re) I
   simp only [oH,oN] at aq
   refine xo _ _ _ _ _ _ _ _ _ _ _ _ _ _ _ _ _ _ _ _ _ _ _ _ _ _ _ _ _ _ _ _ _ _ _ _ _ ⟨_,_,_,rfl,?_⟩
   rw [J.lt,J.w,oF,oe]
   refine ⟨_,_,_,rfl,⟨by omega,by omega⟩,λN1 ck=>zAL hm.b N1 _ λN2 b6 _ N3 b7=>?_⟩
   refine ih x I _ _ s' J.r (h1 x I) (hm.next (dp_mem I)) (by omega) (by omega) (by omega) N3 _ λdx fu st b N4 b8 hp _ _=>⟨⟨by omega,by omega,by omega⟩,by omega,?_⟩
   simp only [zQ] at hq
   cases hc:x.codE (evT f) (zL k m) s' with
   | none=>
     rw [hc] at hp hq
     obtain ⟨rfl,v,hv,b9⟩:=hp
     have ae:=xk (j:=i) hA hv
     have:=zPH (t0:=t0) (t1:=t1) (r0:=r0) (r1:=r1) (a:=a) (c:=c) hG aj ab hm hH E Q N fu st (λd' N' h h2=>hq _ _ _ _ _ h ⟨rfl,h2⟩) (l.length - (i+1)) (i+1) _ _ q N4 (by omega) (by omega) ae (by simp;omega) (λy hy=>by
      rcases o6 hy with h | rfl
      ·rcases oK.1 h with h | h
       ·exact ao y h
       ·rcases oI.1 h with rfl | h
        ·exact za hG.2.2.2 I
        ·exact za hG.2.2.2 (oh (a8 ▸ h))
      ·exact b9)
     simpa using this
   | some p=>
     obtain ⟨x',s1⟩:=p
     rw [hc] at hp hq
     simp only at hq
     obtain ⟨rfl,rfl,rfl,ca⟩:=hp
     obtain ⟨o1,o2,o3,o4⟩:=zEA (f:=x.dp) (λe s v s1 _=>sZ f e s v s1) x (by omega) (h1 x I) _ _ _ _ hc
     have ae:=xk (j:=i) hA ca
     have e1:=zKc don x xs x'
     rw [am] at e1
     rw [e1] at ae
     have:=b3 (don++[x']) (r.set i dx) q s1 N4 (by omega) (by simp [am]) ae (λy hy=>by
      rcases oK.1 hy with h | h
      ·exact ao y h
      ·rw [nH] at h;subst h;exact zSM o1 (by omega)) (by omega) (λd' fu st b N' aa ah=>hq _ _ _ _ _ aa (by
      cases hx:zQ (evT f) xs (zL k m) s1 with
      | none=>rw [hx] at ah;exact ah
      | some p=>obtain ⟨l',s2⟩:=p;rw [hx] at ah;simpa using ah))
     simpa using this
 refine tZ N _ m F _ false Q λE _=>⟨_,rfl,Br.beq (λau=>Br.beq (λaw=>?_) λaw N9 ac=>loop E (λh=>aw h.2) N9 ac) λau N9 ac=>loop E (λh=>au h.1) N9 ac⟩
 have cm:=(yi ho).1 (by omega)
 have ba:0<l.length:=by omega
 have ai:=zC ba
 have b4:=Tm.dp_mem (k:=k) (nm:=nm) (ot:=ot) (n:=n0) (ty:=ty) (re:=re) ai
 have b5:=Tm.sz_mem (k:=k) (nm:=nm) (ot:=ot) (n:=n0) (ty:=ty) (re:=re) ai
 simp only [Tm.codE] at O
 rw [if_pos ⟨au,aw⟩] at O
 refine ⟨_,_,_,rfl,⟨by omega,by omega⟩,λN2 b6=>hE (l.getD 0 tm0) _ s (zf ab ba) (h1 _ ai) (by omega) (by omega) bd N2 _ λdx fu st b N3 b7 hp _ _=>?_⟩
 cases ax:evT f (l.getD 0 tm0) s with
 | none=>
   rw [ax] at hp O
   have hp:b=true:=hp
   subst hp
   exact ⟨zP,λN4 b8=>O _ _ _ _ _ (by omega) ⟨rfl,_,al,hG⟩⟩
 | some p=>
   obtain ⟨x,s1⟩:=p
   rw [ax] at hp O
   obtain ⟨rfl,rfl,rfl,hx⟩:=hp
   have ev:=sZ f _ _ _ _ ax (h1 _ ai)
   have cn:=ev.l
   have co:=ev.z
   have bb:=ev.o
   simp only at O
   cases x with
   | mk kx nx ox mx tx rx lx=>
   obtain ⟨u0,u1,v0,v1,a2,cp,c2,rfl,cq,cc,ak⟩:=Tm.is_mk.1 hx
   have cr:=ak.len
   refine ⟨_,rfl,Br.bne (λay=>⟨zP,λN5 b1=>O _ _ _ _ _ (by omega) ?_⟩) λay=>?_⟩
   ·rw [if_neg (show ¬(Tm.mk kx nx ox mx tx rx lx).kd=10 from ay)];exact ⟨rfl,_,al,hG⟩
   ·rw [if_pos (show (Tm.mk kx nx ox mx tx rx lx).kd=10 from ay)] at O
    have ct:=(yi bb).1 (by omega)
    have bc:=zC (l:=lx) (i:=0) (by omega)
    have cw:=Tm.sz_mem (k:=kx) (nm:=nx) (ot:=ox) (n:=mx) (ty:=tx) (re:=rx) bc
    have cd:=(Tm.ok_mk.1 bb).1 _ bc
    have az:=zf ak (j:=0) (by omega)
    refine ⟨_,_,_,rfl,⟨by omega,by omega⟩,λN6 b2=>zQ5 az (by omega) hF (by omega) N6 _ λst b N7 cx hc _ _=>⟨zP,λN8 cy=>O _ _ _ _ _ (by omega) ?_⟩⟩
    show CoP (pO (lx.getD 0 tm0) s1) F _ F st b
    cases a1:pO (lx.getD 0 tm0) s1 with
    | none=>rw [a1] at hc;exact ⟨hc,_,az,zSM cd (by omega)⟩
    | some p=>
      obtain ⟨y,s2⟩:=p
      obtain ⟨e1,e2,e3⟩:=xy a1
      rw [a1] at hc
      subst e1
      exact ⟨hc.1,rfl,hc.2,az⟩
theorem zR8 {α:Type} {l:List α} {i n:Nat} (h:l.length<=i):(l.drop i).take n=[]:=by rw [mE h];simp
theorem zQy {t:Tm} {d:D} (h:t.Is d):All2 Tm.Is [t] [d]:=⟨d,[],rfl,h,rfl⟩
theorem zLS {α:Type} {l:List α} {i n:Nat} {x:α} (h:l[i]?=some x):(l.drop i).take (n+1)=x::(l.drop (i+1)).take n:=by
 obtain ⟨I,J⟩:=oC.1 h
 rw [ni I,List.take_succ_cons,J]
theorem qr {F:Nat} (hF:F<=200):∀ f,EvC 51 f F
 | 0=>fun e d s _ _ _ h=>absurd (Tm.dp_pos e) (by omega)
 | f + 1 => fun e d s hd ho hs hf hsF N Q hQ=>by
   have hE:=qr hF f
   have hFF:=zMp ho (by omega)
   have hG:=hFF.z.g
   have hdp:=hFF.dp
   have hd0:=hd
   cases e with
   | mk k nm ot n0 ty re l=>
   obtain ⟨h1,h2,h3⟩:=Tm.ok_mk.1 ho
   obtain ⟨t0,t1,r0,r1,a,es,c,rfl,hh,hlen,hes⟩:=Tm.is_mk.1 hd
   have hl:=hes.len
   have hll:=hG.2.2.1
   have szl:(Tm.mk k nm ot n0 ty re l).sz=1+zF l:=rfl
   simp only [evT] at hQ
   refine zBV N _ F _ false Q fun E _=>?_
   rw [uD]
   intro N2 hN2
   refine zR hd0 ho hdp N2 _ fun N3 hN3 _=>Br.of (fun hr=>⟨zP,fun N4 hN4=>?_⟩) fun hr=>⟨_,rfl,Br.beq (fun h10=>?_) fun h10 N13 hN13=>?_⟩
   ·rw [if_pos hr] at hQ
    exact hQ _ _ _ _ _ (by omega) ⟨rfl,rfl,rfl,hd0⟩
   ·-- a quotation
    rw [if_neg (by rw [hr];decide),if_pos h10] at hQ
    have hl1:=(yi ho).1 (by omega)
    have hi0:0<l.length:=by omega
    have hm0:=zC hi0
    have hdm:=Tm.dp_mem (k:=k) (nm:=nm) (ot:=ot) (n:=n0) (ty:=ty) (re:=re) hm0
    have hsm:=Tm.sz_mem (k:=k) (nm:=nm) (ot:=ot) (n:=n0) (ty:=ty) (re:=re) hm0
    refine ⟨_,_,_,rfl,⟨by omega,by omega⟩,fun N5 hN5=>zFK hF hE (l.getD 0 tm0) _ 1 s (zf hes hi0) (h1 _ hm0) (by unfold LvIn;omega) (by omega) (by omega) hsF N5 _ fun dx fu st b N6 hN6 hp _ _=>⟨by simp,fun a1 hap N7 hN7 hb1=>?_⟩⟩
    cases hc:(l.getD 0 tm0).codE (evT f) 1 s with
    | none=>
      rw [hc] at hp hQ
      obtain ⟨rfl,v,hv,hvG⟩:=hp
      refine zIV 10 (zQy hv) (by simp) (by simpa using hvG) a1 1 N7 _ fun dy N8 hN8 hy ho2 _=>⟨wQ hb1 ho2,fun _=>⟨zP,fun N9 hN9=>hQ _ _ _ _ _ (by omega) rfl⟩⟩
    | some p=>
      obtain ⟨bb,s1⟩:=p
      rw [hc] at hp hQ
      obtain ⟨rfl,rfl,rfl,hx⟩:=hp
      obtain ⟨o1,o2,o3,o4⟩:=zEA (f:=(l.getD 0 tm0).dp) (fun e s v s1 _=>sZ f e s v s1) _ (by omega) (h1 _ hm0) _ _ _ _ hc
      have hno:=pZ o1
      have hsz:(Tm.nod 10 [bb]).sz=1+(bb.sz+0):=rfl
      refine zIV 10 (zQy hx) (by simp) (by simpa using zSM o1 (by omega)) a1 1 N7 _ fun dy N8 hN8 hy ho2 _=>⟨wQ hb1 ho2,fun _ N9 hN9=>zR hy hno (zMp hno (by omega)).dp N9 _ fun N10 hN10 _=>⟨zP,fun N11 hN11=>hQ _ _ _ _ _ (by omega) ?_⟩⟩
      have hy2:(Tm.nod 10 [bb]).Is dy:=hy
      change EvP (if (Tm.nod 10 [bb]).res=true then some (Tm.nod 10 [bb],s1) else none) F dy F ((F:Int) - s1) (!(Tm.nod 10 [bb]).res)
      by_cases hrr:(Tm.nod 10 [bb]).res=true
      ·rw [if_pos hrr,hrr];exact ⟨rfl,rfl,rfl,hy2⟩
      ·rw [if_neg hrr];simp only [EvP];simpa using hrr
   ·-- another form
    rw [if_neg (by rw [hr];decide),if_neg h10] at hQ
    have hrf:¬(Tm.mk k nm ot n0 ty re l).res=true:=by rw [hr];decide
    refine vQ _ _ hd0 hG N13 _ ?_
    intro x4 x5 x6 x7 es' c' N14 hN14 hH hes' _ _ _
    have bad:∀ (fu st:Int) (n7 n8:Int) (r:List D) (q N':Nat),N<=N'->(∀ d' fu st N',N<=N'->Q d' fu st true N') ->
      zw E Q N n7 n8 fu st true (.ag [.j k,.t nm,.t ot,.j n0,t0,t1,r0,r1,.sl a 9 es c]) 0 (bytes []) (bytes []) 0 0 none [] 0 0 none [] 0 none [] 0 k nm ot n0 x4 x5 x6 x7 r.length q r q N':=fun fu st n7 n8 r q N' hN' hq=>
     xj _ _ _ _ _ _ _ _ _ _ _ _ _ _ _ _ _ _ _ _ _ _ _ _ _ _ _ _ _ _ _ _ _ _ _ _ _
      (Br.of (fun _=>⟨_,_,_,rfl,Br.of (fun _=>⟨⟨rfl,rfl⟩,⟨rfl,rfl⟩,fun a2 N3 hN3 _ N4 hN4=>zB5 _ _ _ N4 _ fun N5 hN5 _ _=>⟨zP,fun N6 hN6=>hq _ _ _ _ (by omega)⟩⟩)
       fun _=>⟨⟨rfl,rfl⟩,⟨rfl,rfl⟩,fun a2 N3 hN3 _ N4 hN4=>zB5 _ _ _ N4 _ fun N5 hN5 _ _=>⟨zP,fun N6 hN6=>hq _ _ _ _ (by omega)⟩⟩⟩)
       fun _=>⟨⟨rfl,rfl⟩,⟨rfl,rfl⟩,fun a2 N3 hN3 _ N4 hN4=>zB5 _ _ _ N4 _ fun N5 hN5 _ _=>⟨zP,fun N6 hN6=>hq _ _ _ _ (by omega)⟩⟩)
    have hcl:xA k l.length<=yO k l.length:=by unfold xA yO;(repeat' split)<;>omega
    have fin:∀ (don:List Tm) (xs:List Tm) (a2:Option Addr) (r:List D) (q s' N':Nat),N<=N'->don.length=(l.take (yO k l.length)).length->All2 Tm.Is (don++l.drop (yO k l.length)) r->(∀ y∈don,y.ok=true/\y.res=true)->s'<=s->zF don+400*s'<=zF (l.take (yO k l.length))+400*s ->
      (∀ d' fu st b N',N<=N'->EvP (if (Tm.mk k nm ot n0 ty re (don++l.drop (yO k l.length))).apl.2=0 then none else match pO (Tm.mk k nm ot n0 ty re (don++l.drop (yO k l.length))).apl.1 s' with
       | none=>none
       | some (x,s2)=>evT f x s2) F d' fu st b->Q d' fu st b N') ->
      BCalls prog 89 [.ag 9,.i,.i,.bool] [.pb 0 0 0 0,.dg 9 (.ag [.j k,.t nm,.t ot,.j n0,x4,x5,x6,x7,.sl a2 9 r q])] [.var [.j F,.j ((F:Int) - s'),.bool false]] N'
       (fun x_1 n_2 n_3 b_1 N5=>N'<=N5->Bel N5 x_1->zO E [.var [.j 0,.j 0,.bool false]]/\∀ N6,N5<=N6->Q x_1 n_2 n_3 b_1 N6):=fun don xs a2 r q s' N' hN' hdl hA hdo hs' hz hq=>by
     have hdpp:=Tm.dp_pos (Tm.mk k nm ot n0 ty re l)
     have hol:=zOa ho hdl fun x hx=>(hdo x hx).1
     have hrl:=hA.len
     have h6:=xe (l.take (yO k l.length)) (l.drop (yO k l.length))
     rw [om] at h6
     have h7:=xe don (l.drop (yO k l.length))
     have h8:(Tm.mk k nm ot n0 ty re (don++l.drop (yO k l.length))).sz=1+zF (don++l.drop (yO k l.length)):=rfl
     have hlen3:(don++l.drop (yO k l.length)).length=l.length:=by
      rw [oH,hdl,<-oH,om]
     have hrl2:r.length=l.length:=by rw [hrl,hlen3]
     refine zDk hF hE (Tm.is_mk.2 ⟨_,_,_,_,_,_,_,rfl,hH,by omega,hA⟩) hol (by omega) ?_ h10 ?_ (by omega) (by omega) N' _ fun d' fu st b N5 hN5 hp _ _=>⟨zP,fun N6 hN6=>hq _ _ _ _ _ (by omega) hp⟩
     ·intro hc
      apply hrf
      unfold Tm.res at hc ⊢
      simp only [Tm.kd] at hc ⊢
      have:(k==10)=false:=by simpa using h10
      rw [this] at hc ⊢
      simpa using hc
     ·intro x hx
      rw [hlen3] at hx
      have h9:xA k l.length<=don.length\/don.length=l.length:=by
       rw [hdl,ou];omega
      have hx2:x∈don:=by
       rcases h9 with h9 | h9
       ·rw [mM h9] at hx
        exact oU hx
       ·have hlk:l.length<=yO k l.length:=by rw [hdl,ou] at h9;omega
        rw [mE hlk,o7] at hx
        exact oU hx
      exact (hdo x hx2).2
    have key:∀ (j i:Nat) (don:List Tm) (r:List D) (q s' N':Nat),N<=N'->i+j=yO k l.length->i<=l.length->don.length=i->All2 Tm.Is (don++l.drop i) r->(∀ y∈don,y.ok=true/\y.res=true)->s'<=s->zF don+400*s'<=zF (l.take i)+400*s ->
      (∀ d' fu st b N',N<=N'->EvP (match t8 (evT f) ((l.drop i).take j) s' with
       | none=>none
       | some (l1,s1)=>if (Tm.mk k nm ot n0 ty re ((don++l1)++l.drop (yO k l.length))).apl.2=0 then none else match pO (Tm.mk k nm ot n0 ty re ((don++l1)++l.drop (yO k l.length))).apl.1 s1 with
         | none=>none
         | some (x,s2)=>evT f x s2) F d' fu st b->Q d' fu st b N') ->
      zw E Q N (yO k l.length:Nat) i F ((F:Int) - s') false (.ag [.j k,.t nm,.t ot,.j n0,t0,t1,r0,r1,.sl a 9 es c]) 0 (bytes []) (bytes []) 0 0 none [] 0 0 none [] 0 none [] 0 k nm ot n0 x4 x5 x6 x7 r.length q r q N':=by
     intro j
     induction j with
     | zero=>
       intro i don r q s' N' hN' hij hil hdl hA hdo hs' hz hq
       simp only [mN,t8,o7] at hq
       have hi:i=yO k l.length:=by omega
       subst hi
       refine xj _ _ _ _ _ _ _ _ _ _ _ _ _ _ _ _ _ _ _ _ _ _ _ _ _ _ _ _ _ _ _ _ _ _ _ _ _ (Br.dec (fun h=>by omega) fun _=>⟨⟨rfl,rfl⟩,⟨rfl,rfl⟩,fun a2 N3 hN3 _ N4 hN4=>fin don [] a2 r q s' N4 (by omega) (by rw [ou];omega) hA hdo hs' hz hq⟩)
     | succ j ih=>
       intro i don r q s' N' hN' hij hil hdl hA hdo hs' hz hq
       have hrl:=hA.len
       simp only [oH,mA] at hrl
       by_cases hlt:i<l.length
       ·have hgi:=zY hlt
        have hmi:=zC hlt
        rw [zLS hgi] at hq
        simp only [t8] at hq
        have hdm:=Tm.dp_mem (k:=k) (nm:=nm) (ot:=ot) (n:=n0) (ty:=ty) (re:=re) hmi
        have hsm:=Tm.sz_mem (k:=k) (nm:=nm) (ot:=ot) (n:=n0) (ty:=ty) (re:=re) hmi
        refine xj _ _ _ _ _ _ _ _ _ _ _ _ _ _ _ _ _ _ _ _ _ _ _ _ _ _ _ _ _ _ _ _ _ _ _ _ _ (Br.dec (fun _=>⟨_,_,_,rfl,Br.dec (fun _=>?_) fun h=>absurd (by omega) h⟩) fun h=>absurd (by omega) h)
        rw [ms,zCF,oF]
        refine ⟨_,_,_,rfl,⟨by omega,by omega⟩,fun N1 hN1=>hE (l.getD i tm0) _ s' (zf hes hlt) (h1 _ hmi) (by omega) (by omega) (by omega) N1 _ fun dx fu st b N2 hN2 hp _ _=>⟨⟨by omega,by omega,by omega⟩,by omega,?_⟩⟩
        rw [i64_in _ (by unfold yO at hij;split at hij<;>omega),oe]
        cases hev:evT f (l.getD i tm0) s' with
        | none=>
          rw [hev] at hp hq
          have hp:b=true:=hp
          subst hp
          have:=bad fu st (yO k l.length:Nat) ((i+1:Nat):Int) (r.set i dx) q N2 (by omega) (fun d' fu st N' h=>hq _ _ _ _ _ h rfl)
          simpa using this
        | some p=>
          obtain ⟨x',s1⟩:=p
          rw [hev] at hp hq
          obtain ⟨rfl,rfl,rfl,hx'⟩:=hp
          have ev:=sZ f _ _ _ _ hev (h1 _ hmi)
          have ev1:=ev.l
          have ev2:=ev.z
          have hA2:=xk (j:=i) hA hx'
          have hdr:l.drop i=l.getD i tm0::l.drop (i+1):=by
           obtain ⟨g1,g2⟩:=oC.1 hgi
           rw [ni g1,g2]
          have e1:=zKc don (l.getD i tm0) (l.drop (i+1)) x'
          rw [hdl] at e1
          rw [hdr,e1] at hA2
          have hst:zF (l.take (i+1))=zF (l.take i)+(l.getD i tm0).sz:=by
           rw [xN hgi,xe];simp [zF]
          have:=ih (i+1) (don++[x']) (r.set i dx) q s1 N2 (by omega) (by omega) (by omega) (by simp [hdl]) hA2 (fun y hy=>by
           rcases oK.1 hy with h | h
           ·exact hdo y h
           ·rw [nH] at h;subst h;exact ⟨ev.o,ev.r⟩) (by omega) (by rw [xe,hst];simp only [zF];omega) (fun d' fu st b N' hN' hcc=>hq _ _ _ _ _ hN' (by
           simp only
           cases hx:t8 (evT f) ((l.drop (i+1)).take j) s1 with
           | none=>rw [hx] at hcc;exact hcc
           | some p=>obtain ⟨l',s2⟩:=p;rw [hx] at hcc;simpa using hcc))
          simpa using this
       ·have hi:i=l.length:=by omega
        subst hi
        rw [zR8 (oB _)] at hq
        simp only [t8,o7] at hq
        have hdr:l.drop (yO k l.length)=[]:=mE (by omega)
        have htk:l.take (yO k l.length)=l:=od (by omega)
        rw [mE (oB _)] at hA
        rw [od (oB _)] at hz
        refine xj _ _ _ _ _ _ _ _ _ _ _ _ _ _ _ _ _ _ _ _ _ _ _ _ _ _ _ _ _ _ _ _ _ _ _ _ _ (Br.dec (fun _=>⟨_,_,_,rfl,Br.dec (fun h=>by omega) fun _=>?_⟩) fun h=>absurd (by omega) h)
        exact ⟨⟨rfl,rfl⟩,⟨rfl,rfl⟩,fun a2 N3 hN3 _ N4 hN4=>fin don [] a2 r q s' N4 (by omega) (by rw [htk];exact hdl) (by rw [hdr];exact hA) hdo hs' (by rw [htk];exact hz) hq⟩
    have start:=key (yO k l.length) 0 [] es' c' s N14 (by omega) (by omega) (by omega) rfl hes' (by simp) (oB _) (by simp [zF]) (fun d' fu st b N' hN' hc=>hQ _ _ _ _ _ hN' hc)
    refine ⟨_,rfl,Br.beq (fun h4=>⟨_,_,_,rfl,?_⟩) fun h4=>⟨_,rfl,Br.beq (fun h7=>⟨_,_,_,rfl,?_⟩) fun h7=>?_⟩⟩
    ·have:yO k l.length=es.length:=by unfold yO;rw [if_pos (.inl h4)];exact hl.symm
     rw [this] at start;exact start
    ·have:yO k l.length=es.length:=by unfold yO;rw [if_pos (.inr h7)];exact hl.symm
     rw [this] at start;exact start
    ·have:yO k l.length=1:=by unfold yO;rw [if_neg (by omega)]
     rw [this] at start;exact start
end Go.Proofs.YtfajiphkncipoaaGreatDoor
