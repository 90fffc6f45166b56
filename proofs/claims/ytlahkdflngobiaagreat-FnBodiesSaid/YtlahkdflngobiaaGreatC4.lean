/- A body's value leans on its free names (no program in sight). -/
import Derived.Test.YtlahkdflngobiaaGreatB3
import Derived.Test.YtlahkdflngobiaaGreatC2
import Derived.Test.YtlahkdflngobiaaGreatA6
import Derived.Test.YtlahkdflngobiaaGreatC3
import Derived.Test.YtlahkdflngobiaaGreatB5
import Derived.Test.YtlahkdflngobiaaGreatKt
set_option linter.unusedVariables false
set_option linter.unusedSimpArgs false
namespace Go.Proofs.YtlahkdflngobiaaGreat
open Go Go.Proofs Go.Proofs.Tryz Go.IntWalk
theorem zFB:∀ {l:List Tm} {j:Nat} {x:Tm} (v:List Nb),l[j]?=some x->sw l j v=x.ev v
 | x::_,0,y,v,h=>by simp at h;subst h;simp only [sw]
 | _::l,j+1,y,v,h=>by simp only [sw];exact zFB v (by simpa using h)
theorem zDl:∀ {l:List Tm} {j:Nat} (v:List Nb),l[j]?=none->sw l j v=0
 | [],_,v,h=>by simp only [sw]
 | _::_,0,v,h=>by simp at h
 | _::l,j+1,v,h=>by simp only [sw];exact zDl v (by simpa using h)
theorem zEL {l l':List Tm} {v v':List Nb} {j:Nat} (U:l'.length=l.length) (h:∀ x O,l[j]?=some x->l'[j]?=some O->O.ev v'=x.ev v):sw l' j v'=sw l j v:=by
 cases I:l[j]? with
 | none=>
   have:l'[j]?=none:=by rw [nu] at I ⊢;omega
   rw [zDl v I,zDl v' this]
 | some x=>
   have Y:=(oC.1 I).1
   have J:l'[j]?=some (l'[j]'(by omega)):=oE (by omega)
   rw [zFB v I,zFB v' J]
   exact h x _ I J
/-- a value leans on the free names -/
theorem zNa:∀ (t:Tm),t.ok=true->∀ (v v':List Nb),(∀ s∈t.fv,u4 s v=u4 s v')->t.ev v=t.ev v':=by
 refine Tm.ind λk nm ot n ty re l ih O v v' h=>?_
 have hk:=(Tm.ok_mk.1 O).1
 have U:=(Tm.ok_mk.1 O).2.2
 simp only [Tm.ev]
 split
 ·rename_i Y
  rw [h nm (Tm.fv_mem.2 (.inl ⟨Y,rfl⟩))]
 ·rename_i Y
  have off:∀ (j:Nat),(j:Int)≠xW k l.length->sw l j v=sw l j v':=λj hj=>zEL rfl λx x' J I=>by
   rw [J] at I;cases I
   refine ih x (oB J) (hk x (oB J)) v v' λs hs=>h s (Tm.fv_mem.2 (.inr ⟨Y,j,x,J,?_⟩))
   unfold fvI;rw [if_neg hj];exact hs
  split
  ·rename_i h4
   subst h4
   rw [off 0 (by simp [xW]),off 1 (by simp [xW])]
  ·split
   ·rename_i h5
    subst h5
    rw [off 0 (by simp [xW]),off _ (by simp [xW];omega)]
   ·split
    ·rename_i h8
     subst h8
     have hl:l.length=2:=by have:(l.length:Int)=2:=U;omega
     have e0:=off 0 (by rw [hl];simp [xW])
     rw [e0]
     refine zEL rfl λx x' J I=>?_
     rw [J] at I;cases I
     refine ih x (oB J) (hk x (oB J)) _ _ λs hs=>?_
     rw [xA,xA]
     split
     ·rfl
     ·rename_i aa
      refine h s (Tm.fv_mem.2 (.inr ⟨by decide,1,x,J,?_⟩))
      unfold fvI
      rw [hl,if_pos (by simp [xW])]
      exact sK.2 ⟨hs,by simp [bdN];exact λe=>aa e.symm⟩
    ·rfl
theorem zAz:∀ (l:List Tm) (i:Nat) (v:List Nb),sw l i v=(l.getD i tm0).ev v
 | [],i,v=>by simp [sw,tm0,Tm.ev]
 | x::l,0,v=>by simp [sw]
 | x::l,i+1,v=>by simp only [sw];rw [zAz l i v];simp
def LitT (b:Tm) (m:Int):Prop:=(b.kd=2\/b.kd=3)/\b.no=m/\b.fv=[]/\b.isB=true
theorem LitT.ev {b:Tm} {m:Int} (h:LitT b m) (v:List Nb):b.ev v=m:=by
 cases b with
 | mk k nm ot n ty re l=>
 obtain ⟨J,I,_⟩:=h
 have J:k=2\/k=3:=J
 have I:n=m:=I
 simp only [Tm.ev]
 rw [if_neg (by omega),if_neg (by omega),if_neg (by omega),if_neg (by omega)]
 exact I
theorem zLt:∀ {l:List Tm},zKm l=true↔∀ x∈l,x.isB=true
 | []=>by simp [zKm]
 | x::l=>by simp [zKm,zLt (l:=l)]
theorem pP {k:Int} {nm ot:ByteArray} {n:Int} {ty re:Ty} {l:List Tm}:(Tm.mk k nm ot n ty re l).isB=true↔zAT k=true/\∀ x∈l,x.isB=true:=by
 simp only [Tm.isB,oI,zLt]
 first | exact lA | exact and_comm
theorem zLc {b:Tm} (I:b.ok=true) (U:b.isB=true) (J:b.res=true):LitT b b.no:=by
 cases b with
 | mk k nm ot n ty re l=>
 obtain ⟨Y,h2⟩:=pP.1 U
 have O:k=2\/k=3:=by
  unfold Tm.res zQb at J
  have e:(Tm.mk k nm ot n ty re l).kd=k:=rfl
  rw [e] at J
  simp only [nS,oI,nl] at J
  simp only [zAT,nS,nl,yE] at Y
  omega
 have aa:=(Tm.ok_mk.1 I).2.2
 have hl:l=[]:=oW (by
  have:zCx k nm=0:=by rcases O with rfl | rfl<;>rfl
  omega)
 subst hl
 refine ⟨O,rfl,?_,U⟩
 rcases O with rfl | rfl<;>rfl
theorem zKc:∀ (f:Nat) (t:Tm) (x:ByteArray) (b:Tm),t.isB=true->b.isB=true->(t.sub f x b).isB=true
 | 0,t,x,b,h,_=>h
 | f + 1, .mk k nm ot n ty re l,x,b,h,O=>by
   have J:=zKc f
   obtain ⟨U,h2⟩:=pP.1 h
   have Y:∀ y∈l.map λt=>Tm.sub f t x b,y.isB=true:=λy I=>by
    obtain ⟨z,hz,rfl⟩:=oS.1 I
    exact J z x b (h2 z hz) O
   simp only [Tm.sub]
   split
   ·split
    ·exact O
    ·exact h
   ·split
    ·exact pP.2 ⟨U,Y⟩
    ·rename_i aa
     obtain ⟨g1,g2⟩:=vL aa
     have hp:=h2 _ (za g1)
     split
     ·refine pP.2 ⟨U,λy I=>?_⟩
      rcases nI I with I | rfl
      ·exact Y y I
      ·exact hp
     ·refine pP.2 ⟨U,λy I=>?_⟩
      rcases nI I with I | rfl
      ·exact Y y I
      ·refine J _ x b ?_ O
       have key:∀ (os:List ByteArray) (st:ByteArray × ByteArray × Tm),st.2.2.isB=true->(rns (Tm.sub f) k l.length b.fv x os st).2.2.isB=true:=by
        intro os
        induction os with
        | nil=>intro st h;exact h
        | cons o os ab=>
          intro st h
          simp only [rns]
          refine ab _ ?_
          unfold rn1
          split
          ·split
           ·exact J _ _ _ h (by rfl)
           ·exact J _ _ _ h (by rfl)
          ·exact h
       exact key _ _ hp
theorem zTb {l:List Tm} (h:l.length=2):∃ a b,l=[a,b]:=by
 match l,h with
 | [a,b],_=>exact ⟨a,b,rfl⟩
theorem zR3 (f:Nat) (nm ot:ByteArray) (m:Int) (ty re:Ty) (a p:Tm) (x:ByteArray) (b:Tm):(Tm.mk 8 nm ot m ty re [a,p]).sub (f+1) x b =
  if x∈[nm]\/x∉p.fv then .mk 8 nm ot m ty re [a.sub f x b,p] else .mk 8 (rn1 (Tm.sub f) 8 2 b.fv x nm (nm,ot,p)).1 (rn1 (Tm.sub f) 8 2 b.fv x nm (nm,ot,p)).2.1 m ty re [a.sub f x b,Tm.sub f (rn1 (Tm.sub f) 8 2 b.fv x nm (nm,ot,p)).2.2 x b]:=by
 simp only [Tm.sub];rfl
theorem zNw {b:Tm} {m:Int} (hb:LitT b m) {x:ByteArray}:∀ (f:Nat) (t:Tm),t.dp<=f->t.ok=true->t.isB=true->∀ (v v':List Nb),(∀ s,s≠x->u4 s v'=u4 s v)->u4 x v'=some m->(t.sub f x b).ev v=t.ev v'
 | 0,t,h,_,_,_,_,_,_=>absurd (Tm.dp_pos t) (by omega)
 | f + 1,.mk k nm ot n ty re l,hd,O,hB,v,v',U,h2=>by
   have ih:=zNw hb (x:=x) f
   obtain ⟨q1,q2⟩:=pP.1 hB
   have hk:=(Tm.ok_mk.1 O).1
   have aa:=(Tm.ok_mk.1 O).2.2
   simp only [Tm.dp] at hd
   have I:=λy hy=>tU.1 (mb hd) y hy
   by_cases k1:k=1
   ·subst k1
    simp only [Tm.sub,mE]
    split
    ·rename_i e
     rw [hb.ev]
     simp only [Tm.ev,mE]
     rw [e,h2];rfl
    ·rename_i e
     simp only [Tm.ev,mE]
     rw [U nm e]
   have mp:∀ (j:Nat),sw (l.map λt=>Tm.sub f t x b) j v=sw l j v':=λj=>zEL (by simp) λy y' hy Y=>by
    rw [oF,hy] at Y
    cases Y
    have hm:=oB hy
    exact ih y (I y hm) (hk y hm) (q2 y hm) v v' U h2
   by_cases k8:k=8
   ·subst k8
    obtain ⟨a,p,rfl⟩:=zTb (l:=l) (by have:(l.length:Int)=2:=aa;omega)
    have ea:=ih a (I a (by simp)) (hk a (by simp)) (q2 a (by simp)) v v' U h2
    rw [zR3,hb.2.2.1]
    split
    ·rename_i hc
     simp only [Tm.ev,sw,if_neg (show ¬(8:Int)=1 by decide),if_neg (show ¬(8:Int)=4 by decide),if_neg (show ¬(8:Int)=5 by decide),mE]
     rw [ea]
     refine zNa p (hk p (by simp)) _ _ λs hs=>?_
     rw [xA,xA]
     split
     ·rfl
     ·rename_i J
      refine (U s λe=>?_).symm
      subst e
      rcases hc with hc | hc
      ·exact J (nG.1 hc).symm
      ·exact hc hs
    ·rename_i hc
     have e0:rn1 (Tm.sub f) 8 2 [] x nm (nm,ot,p)=(nm,ot,p):=by unfold rn1;rw [if_neg (by simp)]
     rw [e0]
     simp only [Tm.ev,sw,if_neg (show ¬(8:Int)=1 by decide),if_neg (show ¬(8:Int)=4 by decide),if_neg (show ¬(8:Int)=5 by decide),mE]
     rw [ea]
     have J:nm≠x:=λe=>hc (.inl (by simp [e]))
     refine ih p (I p (by simp)) (hk p (by simp)) (q2 p (by simp)) _ _ (λs hs=>?_) ?_
     ·rw [xA,xA,U s hs]
     ·rw [xA,if_neg J,h2]
   ·have ab:xW k l.length<0:=by
     simp only [zAT,nS,nl,yE] at q1
     unfold xW
     rw [if_neg (by omega),if_neg (by omega),if_neg (by omega)];decide
    have e:(Tm.mk k nm ot n ty re l).sub (f+1) x b=.mk k nm ot n ty re (l.map λt=>t.sub f x b):=by
     simp only [Tm.sub];rw [if_neg k1,if_pos ab]
    rw [e]
    simp only [Tm.ev]
    rw [if_neg k1,if_neg k1]
    split
    ·rw [mp 0,mp 1]
    ·split
     ·rw [mp 0,mp]
     ·rfl
theorem zPc {l:List Tm} {j:Nat} {x y:Tm} {v:List Nb} (O:l[j]?=some x) (h:y.ev v=x.ev v) (i:Nat):sw (l.set j y) i v=sw l i v:=by
 refine zEL (by simp) λz z' J I=>?_
 rw [nM] at I
 split at I
 ·rename_i e
  subst e
  rw [O] at J
  cases J
  split at I
  ·cases I;exact h
  ·cases I
 ·rw [J] at I;cases I;rfl
theorem zRu {l:List Tm} {j:Nat} {y:Tm} {v:List Nb} {i:Nat} (h:i≠j):sw (l.set j y) i v=sw l i v:=by
 refine zEL (by simp) λz z' J I=>?_
 rw [nM,if_neg (λe=>h e.symm),J] at I
 cases I;rfl
theorem zTw (v:List Nb):tm0.ev v=0:=by simp [tm0,Tm.ev]
/-- the rule for a form whose parts are results -/
theorem zT6 {e:Tm} (aa:e.ok=true) (hB:e.isB=true) (I:∀ x∈e.as.take (zFO e.kd e.as.length),x.res=true):e.apl.1.isB=true/\e.apl.1.ev []=e.ev []:=by
 cases e with
 | mk k nm ot n ty re l=>
 obtain ⟨q1,U⟩:=pP.1 hB
 have hk:=(Tm.ok_mk.1 aa).1
 have ab:=(Tm.ok_mk.1 aa).2.2
 have I:∀ x∈l.take (zFO k l.length),x.res=true:=I
 simp only [zAT,nS,nl,yE] at q1
 simp only [Tm.apl]
 split
 ·rename_i h4
  subst h4
  have I:∀ x∈l,x.res=true:=λx hx=>I x (by simpa [zFO] using hx)
  have num:∀ i,sw l i []=(l.getD i tm0).no:=λi=>by
   rw [zAz]
   by_cases hi:i<l.length
   ·have hm:=za hi
    exact (zLc (hk _ hm) (U _ hm) (I _ hm)).ev []
   ·have:l.getD i tm0=tm0:=by rw [oA,oV (by omega)];rfl
    rw [this];exact zTw []
  unfold Tm.opr
  split
  ·show (zNG (zDQ nm) (yF nm (l.getD 0 tm0).no (l.getD 1 tm0).no).1).isB=true/\(zNG (zDQ nm) (yF nm (l.getD 0 tm0).no (l.getD 1 tm0).no).1).ev []=_
   have hr:zDQ nm=2\/zDQ nm=3:=by unfold zDQ;split<;>simp
   constructor
   ·exact pP.2 ⟨by rcases hr with h | h<;>rw [h]<;>decide,by simp⟩
   ·simp only [zNG,Tm.ev]
    rw [if_neg (by omega),if_neg (by omega),if_neg (by omega),if_neg (by omega),num 0,num 1]
    rfl
  ·exact ⟨hB,rfl⟩
 ·rename_i h4
  split
  ·rename_i h5
   subst h5
   split
   ·rename_i h3
    have hl:l.length=3:=by have:(l.length:Int)=3:=ab;omega
    have Y:=za (l:=l) (i:=0) (by omega)
    have J:=zLc (hk _ Y) (U _ Y) (I _ (by
     rw [show zFO 5 l.length=1 by simp [zFO]]
     match l,hl with
     | a::l',_=>simp))
    have ac:(2 - (l.getD 0 tm0).no).toNat<l.length:=by
     have O:=hk _ Y
     generalize l.getD 0 tm0=a at h3 O ⊢
     cases a with
     | mk k ae ah m2 ai aj l2=>
     have h3:k=3:=h3
     subst h3
     have hf:=(Tm.ok_mk.1 O).2.1
     unfold zK at hf
     simp only [oI] at hf
     have hn:=yE.1 hf.2.2.2.2.1
     have e:(Tm.mk 3 ae ah m2 ai aj l2).no=m2:=rfl
     rw [e,hl];omega
    refine ⟨U _ (za ac),?_⟩
    simp only [Tm.ev,if_neg (show ¬(5:Int)=1 by decide),if_neg (show ¬(5:Int)=4 by decide),mE]
    rw [zAz l 0,J.ev,zAz]
   ·exact ⟨hB,rfl⟩
  ·rename_i h5
   rw [if_neg (by omega)]
   split
   ·rename_i h8
    subst h8
    obtain ⟨a,p,rfl⟩:=zTb (l:=l) (by have:(l.length:Int)=2:=ab;omega)
    have J:=zLc (hk a (by simp)) (U a (by simp)) (I a (by simp [zFO]))
    show (p.sb nm a).isB=true/\(p.sb nm a).ev []=_
    refine ⟨zKc _ _ _ _ (U p (by simp)) (U a (by simp)),?_⟩
    simp only [Tm.ev,sw,if_neg (show ¬(8:Int)=1 by decide),if_neg (show ¬(8:Int)=4 by decide),if_neg (show ¬(8:Int)=5 by decide),mE]
    rw [J.ev]
    refine zNw J _ p (oD _) (hk p (by simp)) (U p (by simp)) _ _ (λs hs=>?_) ?_
    ·rw [xA (v:=[]),if_neg (λe=>hs e.symm)]
    ·rw [xA (v:=[]),if_pos rfl]
   ·rw [if_neg (by omega),if_neg (by omega)]
    exact ⟨hB,rfl⟩
theorem zRU:∀ (f:Nat) (e:Tm),e.dp<=f->e.ok=true->e.isB=true->(e.stp f).1.isB=true/\(e.stp f).1.ev []=e.ev []
 | 0,e,hd,_,_=>absurd (Tm.dp_pos e) (by omega)
 | f + 1,.mk k nm ot n ty re l,hd,J,hB=>by
   obtain ⟨q1,q2⟩:=pP.1 hB
   have hk:=(Tm.ok_mk.1 J).1
   have aa:=(Tm.ok_mk.1 J).2.2
   have q3:=q1
   simp only [zAT,nS,nl,yE] at q3
   simp only [Tm.stp]
   split
   ·exact ⟨hB,rfl⟩
   ·split
    ·rename_i O
     have O:k=10:=O
     omega
    ·cases hg:goS (Tm.stp f) (Tm.mk k nm ot n ty re l) (l.take (zFO k l.length)) 0 with
     | none=>exact zT6 J hB (zLS.1 hg)
     | some p=>
       obtain ⟨j,x,g1,g2,rfl⟩:=zAI hg
       obtain ⟨U,Y⟩:j<zFO k l.length/\l[j]?=some x:=by
        rw [oZ] at g1
        split at g1
        ·exact ⟨‹_›,g1⟩
        ·cases g1
       have hm:=oB Y
       have ab:=Tm.dp_mem (k:=k) (nm:=nm) (ot:=ot) (n:=n) (ty:=ty) (re:=re) hm
       obtain ⟨b1,b2⟩:=zRU f x (by omega) (hk x hm) (q2 x hm)
       simp only [nU,Tm.wth]
       refine ⟨pP.2 ⟨q1,λy hy=>?_⟩,?_⟩
       ·rcases nI hy with hy | rfl
        ·exact q2 y hy
        ·exact b1
       ·have I:∀ i,sw (l.set j (Tm.stp f x).1) i []=sw l i []:=zPc Y b2
        simp only [Tm.ev]
        by_cases k1:k=1
        ·rw [if_pos k1,if_pos k1]
        rw [if_neg k1,if_neg k1]
        by_cases k4:k=4
        ·rw [if_pos k4,if_pos k4,I 0,I 1]
        rw [if_neg k4,if_neg k4]
        by_cases k5:k=5
        ·rw [if_pos k5,if_pos k5,I 0,I]
        rw [if_neg k5,if_neg k5]
        by_cases k8:k=8
        ·rw [if_pos k8,if_pos k8,I 0]
         have ac:j=0:=by subst k8;simp [zFO] at U;exact U
         exact zRu (by omega)
        rw [if_neg k8,if_neg k8]
def spn:Tm->List Tm->Tm
 | t,[]=>t
 | t,a::ys=>spn (Tm.nod 7 [t,a]) ys
def zNE:List Pm->List Tm->List Nb
 | p::g,a::ys=>(p.nm,a.no)::zNE g ys
 | _,_=>[]
theorem zGb (b:Nb) (v:List Nb) (s:ByteArray):u4 s (b::v)=match u4 s v with | some m=>some m | none=>if b.1=s then some b.2 else none:=by
 unfold u4
 rw [List.reverse_cons,List.find?_append]
 cases h:v.reverse.find? λp=>decide (p.1=s) with
 | some y=>simp
 | none=>by_cases I:b.1=s<;>simp [I]
theorem zOh {v:List Nb} {s:ByteArray} (h:∀ b∈v,b.1≠s):u4 s v=none:=by
 unfold u4
 rw [List.find?_eq_none.2 λb I=>by simpa using h b (by simpa using I)]
 rfl
theorem zLf:∀ {g:List Pm} {ys:List Tm} {b:Nb},b∈zNE g ys->∃ p∈g,b.1=p.nm
 | [],_,b,h=>by simp [zNE] at h
 | _::_,[],b,h=>by simp [zNE] at h
 | p::g,a::ys,b,h=>by
   simp only [zNE,oG] at h
   rcases h with rfl | h
   ·exact ⟨p,by simp,rfl⟩
   ·obtain ⟨q,I,e⟩:=zLf h
    exact ⟨q,by simp [I],e⟩
theorem zOl:∀ (ys:List Tm) (t u:Tm),(∀ f,t.dp<=f->(t.stp f).1=u)->t.res=false->∀ f,(spn t ys).dp<=f->((spn t ys).stp f).1=spn u ys
 | [],t,u,h,_,f,I=>h f I
 | a :: ys,t,u,h,J,f,I=>by
   refine zOl ys (Tm.nod 7 [t,a]) (Tm.nod 7 [u,a]) (λf I=>?_) rfl f I
   match f with
   | 0=>exact absurd (Tm.dp_pos (Tm.nod 7 [t,a])) (by omega)
   | f+1=>
     have O:t.dp<(Tm.nod 7 [t,a]).dp:=Tm.dp_mem (l:=[t,a]) (by simp)
     have e:=h f (by omega)
     show (if (Tm.nod 7 [t,a]).res then _ else if (Tm.nod 7 [t,a]).kd=10 then _ else match goS (Tm.stp f) (Tm.nod 7 [t,a]) [t,a] 0 with
      | some r=>r
      | none=>(Tm.nod 7 [t,a]).apl).1=_
     rw [if_neg (show ¬(Tm.nod 7 [t,a]).res=true from λh=>by cases h),if_neg (show ¬(Tm.nod 7 [t,a]).kd=10 by show ¬(7:Int)=10;decide)]
     simp only [goS,J]
     show Tm.nod 7 [(Tm.stp f t).1,a]=_
     rw [e]
theorem zQW {p:Pm} {B a:Tm} (I:a.res=true) (f:Nat) (O:(Tm.nod 7 [zHv p.nm p.ty B,a]).dp<=f):((Tm.nod 7 [zHv p.nm p.ty B,a]).stp f).1=B.sb p.nm a:=by
 match f with
 | 0=>exact absurd (Tm.dp_pos (Tm.nod 7 [zHv p.nm p.ty B,a])) (by omega)
 | f+1=>
   show (if (Tm.nod 7 [zHv p.nm p.ty B,a]).res then _ else if (Tm.nod 7 [zHv p.nm p.ty B,a]).kd=10 then _ else match goS (Tm.stp f) (Tm.nod 7 [zHv p.nm p.ty B,a]) [zHv p.nm p.ty B,a] 0 with
    | some r=>r
    | none=>(Tm.nod 7 [zHv p.nm p.ty B,a]).apl).1=_
   rw [if_neg (show ¬(Tm.nod 7 [zHv p.nm p.ty B,a]).res=true from λh=>by cases h),if_neg (show ¬(Tm.nod 7 [zHv p.nm p.ty B,a]).kd=10 by show ¬(7:Int)=10;decide)]
   have J:(zHv p.nm p.ty B).res=true:=rfl
   simp only [goS,J,I,mE]
   rfl
theorem zTI {nm:ByteArray} {ty:Ty} {B:Tm} {s:ByteArray} (h:s∈B.fv) (hs:s≠nm):s∈(zHv nm ty B).fv:=by
 refine Tm.fv_mem.2 (.inr ⟨by decide,0,B,rfl,?_⟩)
 show s∈zFu [nm] B.fv
 exact sK.2 ⟨h,by simpa using hs⟩
theorem zLg:∀ (g:List Pm) (e:Tm) (s:ByteArray),s∈e.fv->(∀ p∈g,s≠p.nm)->s∈(yS g e).fv
 | [],e,s,h,_=>h
 | p::g,e,s,h,I=>zTI (zLg g e s h λq J=>I q (by simp [J])) (I p (by simp))
theorem zRx (f:Nat) (nm ot:ByteArray) (m:Int) (ty re:Ty) (p:Tm) (x:ByteArray) (b:Tm):(Tm.mk 6 nm ot m ty re [p]).sub (f+1) x b =
  if x∈[nm]\/x∉p.fv then .mk 6 nm ot m ty re [p] else .mk 6 (rn1 (Tm.sub f) 6 1 b.fv x nm (nm,ot,p)).1 (rn1 (Tm.sub f) 6 1 b.fv x nm (nm,ot,p)).2.1 m ty re [Tm.sub f (rn1 (Tm.sub f) 6 1 b.fv x nm (nm,ot,p)).2.2 x b]:=by
 simp only [Tm.sub];rfl
theorem zJx {b:Tm} (O:b.fv=[]) {x:ByteArray}:∀ (g:List Pm) (e:Tm) (f:Nat),(∀ p∈g,x≠p.nm)->(yS g e).dp<=f->∃ e',(yS g e).sub f x b=yS g e'/\((e'=e/\x∉e.fv)\/∃ U,e.dp<=U/\e'=e.sub U x b)
 | [],e,f,_,Y=>⟨_,rfl,.inr ⟨f,Y,rfl⟩⟩
 | p :: g,e,f,I,Y=>by
   match f with
   | 0=>exact absurd (Tm.dp_pos (yS (p::g) e)) (by omega)
   | f+1=>
     have hd:(yS g e).dp<(yS (p::g) e).dp:=Tm.dp_mem (l:=[yS g e]) (by simp)
     show ∃ e',(Tm.mk 6 p.nm (bytes []) 0 p.ty (.mk 0 []) [yS g e]).sub (f+1) x b=_/\_
     rw [zRx,O]
     split
     ·rename_i hc
      refine ⟨e,rfl,.inl ⟨rfl,λh=>?_⟩⟩
      rcases hc with hc | hc
      ·exact I p (by simp) (nG.1 hc)
      ·exact hc (zLg g e x h λq J=>I q (by simp [J]))
     ·have e0:rn1 (Tm.sub f) 6 1 [] x p.nm (p.nm,bytes [],yS g e)=(p.nm,bytes [],yS g e):=by unfold rn1;rw [if_neg (by simp)]
      rw [e0]
      obtain ⟨e',h1,h2⟩:=zJx O g e f (λq J=>I q (by simp [J])) (by omega)
      exact ⟨e',by show Tm.mk 6 _ _ _ _ _ [_]=_;rw [h1];rfl,h2⟩
/-- on the way to the value -/
structure Way (x:Tm) (n:Int):Prop where
 h:∃ g ys e,x=spn (yS g e) ys/\g.length=ys.length/\(∀ a∈ys,LitT a a.no/\a.res=true)/\(g.map Pm.nm).Nodup/\e.ok=true/\e.isB=true/\e.ev (zNE g ys)=n
theorem zRL:∀ (ys:List Tm) (t:Tm),(spn t ys).ok=true->t.ok=true
 | [],t,h=>h
 | a::ys,t,h=>by
   have:=zRL ys _ h
   exact (Tm.ok_mk.1 this).1 t (by simp)
theorem zLq:∀ (g:List Pm) (e:Tm),(yS g e).ok=true->e.ok=true
 | [],e,h=>h
 | p::g,e,h=>zLq g e ((Tm.ok_mk.1 h).1 _ (by simp))
theorem Way.step {x:Tm} {n:Int} (h:Way x n) (hx:x.ok=true) (I:(x.stp x.dp).1.ok=true):Way (x.stp x.dp).1 n:=by
 obtain ⟨g,ys,e,rfl,hl,ha,hn,he,hB,hv⟩:=h
 match g,ys,hl with
 | [],[],_=>
   obtain ⟨h1,h2⟩:=zRU e.dp e (oD _) he hB
   exact ⟨[],[],_,rfl,rfl,(λa h=>by cases h),mR,I,h1,by rw [<-hv];exact h2⟩
 | p :: g,a::ys,hl=>
   obtain ⟨J,O⟩:=ha a (by simp)
   have hs:=zOl ys (Tm.nod 7 [yS (p::g) e,a]) _ (λf hf=>zQW (p:=p) (B:=yS g e) O f hf) rfl _ (oD (spn (yS (p::g) e) (a::ys)).dp)
   simp only [od,nf] at hn
   have U:∀ q∈g,p.nm≠q.nm:=λq hq e=>hn.1 (e ▸ List.mem_map_of_mem hq)
   obtain ⟨e',h1,h2⟩:=zJx (b:=a) (x:=p.nm) J.2.2.1 g e (yS g e).dp U (oD _)
   have hs:((spn (yS (p::g) e) (a::ys)).stp (spn (yS (p::g) e) (a::ys)).dp).1=spn ((yS g e).sb p.nm a) ys:=hs
   rw [hs] at I ⊢
   unfold Tm.sb at I ⊢
   rw [h1] at I ⊢
   have Y:=zLq g _ (zRL ys _ I)
   have aa:∀ s,s≠p.nm->u4 s ((p.nm,a.no)::zNE g ys)=u4 s (zNE g ys):=λs hs=>by
    rw [zGb]
    cases u4 s (zNE g ys) with
    | some m=>rfl
    | none=>simp only;rw [if_neg (λe=>hs e.symm)]
   refine ⟨g,ys,e',rfl,by simpa using hl,λb hb=>ha b (by simp [hb]),hn.2,Y,?_,?_⟩
   ·rcases h2 with ⟨rfl,_⟩ | ⟨f',_,rfl⟩
    ·exact hB
    ·exact zKc _ _ _ _ hB J.2.2.2
   ·rw [<-hv]
    show e'.ev (zNE g ys)=e.ev ((p.nm,a.no)::zNE g ys)
    rcases h2 with ⟨rfl,ab⟩ | ⟨f',ac,rfl⟩
    ·exact zNa _ Y _ _ λs hs=>(aa s λe=>ab (e ▸ hs)).symm
    ·refine zNw J f' e ac he hB _ _ aa ?_
     rw [zGb,zOh λb hb=>by
      obtain ⟨q,hq,e⟩:=zLf hb
      exact λe2=>U q hq (by rw [<-e2,e])]
     simp
theorem zQm {n:Int}:∀ (m i:Nat) (x:Tm),x.ok=true->Way x n->(zNH m i x).1.1=1->(zNH m i x).1.2.1.ok=true/\(zNH m i x).1.2.1.res=true/\Way (zNH m i x).1.2.1 n:=by
 intro m
 induction m with
 | zero=>
   intro i x J h hd
   rw [zCL] at hd ⊢
   split at hd
   ·cases hd
   ·rename_i hs
    rw [if_neg hs]
    split at hd
    ·rename_i I
     rw [if_pos I]
     exact ⟨J,I,h⟩
    ·cases hd
 | succ m ih=>
   intro i x J h hd
   rw [zCL] at hd ⊢
   split at hd
   ·cases hd
   ·rename_i hs
    rw [if_neg hs]
    split at hd
    ·rename_i I
     rw [if_pos I]
     exact ⟨J,I,h⟩
    ·rename_i I
     rw [if_neg I]
     simp only at hd ⊢
     split at hd
     ·cases hd
     ·rename_i hz
      rw [if_neg hz]
      have U:(x.stp x.dp).1.sz<=400:=by
       have Y:(zNH m (i+1) (x.stp x.dp).1).1.1=1:=hd
       rw [zCL] at Y
       split at Y
       ·cases Y
       ·omega
      have O:=zKg _ x (oD _) J U
      exact ih _ _ O (h.step J O) hd
theorem zOB:∀ (ys:List Tm) (t:Tm),t.res=false->(spn t ys).res=false
 | [],t,h=>h
 | a::ys,t,h=>zOB ys _ rfl
theorem zSU {x:Tm} {n:Int} (h:Way x n) (I:x.res=true):(x.kd=2\/x.kd=3)/\x.no=n:=by
 obtain ⟨g,ys,e,rfl,J,ha,hn,U,Y,hv⟩:=h
 match g,ys,J with
 | [],[],_=>
   have O:=zLc U Y I
   have h2:=O.ev []
   exact ⟨O.1,by rw [<-hv];exact h2.symm⟩
 | p::g,a::ys,J=>
   have:=zOB ys (Tm.nod 7 [yS (p::g) e,a]) rfl
   have I:(spn (Tm.nod 7 [yS (p::g) e,a]) ys).res=true:=I
   rw [this] at I
   cases I
/-- a term applied to numbers -/
def zJn:Tm->List Pm->List Int->Tm
 | t,p::g,n::ns=>zJn (Tm.nod 7 [t,zHc p.ty n]) g ns
 | t,_,_=>t
def wa (g:List Pm) (e:Tm) (ns:List Int):Tm:=if ns.length=g.length then zJn (yS g e) g ns else Tm.nod 0 []
/-- numbers as terms -/
def uo:List Pm->List Int->List Tm
 | p::g,n::ns=>zHc p.ty n::uo g ns
 | _,_=>[]
theorem zL7:∀ (g:List Pm) (ns:List Int) (t:Tm),zJn t g ns=spn t (uo g ns)
 | [],[],t=>rfl
 | [],_::_,t=>rfl
 | _::_,[],t=>rfl
 | p::g,n::ns,t=>by simp only [zJn,uo,spn];exact zL7 g ns _
theorem zLP:∀ (g:List Pm) (ns:List Int) (t:Tm),(zJn t g ns).cnt<=t.cnt+6*g.length
 | [],ns,t=>by cases ns<;>simp [zJn]
 | _::_,[],t=>by simp only [zJn];omega
 | p::g,n::ns,t=>by
   have h:=zLP g ns (Tm.nod 7 [t,zHc p.ty n])
   have I:=zL2 p.ty n
   have J:(Tm.nod 7 [t,zHc p.ty n]).cnt=3+(t.cnt+((zHc p.ty n).cnt+0)):=by simp only [Tm.nod,Tm.cnt,Ty.cnt,zJ,zR]
   simp only [zJn,oJ]
   omega
theorem zMf (g:List Pm) (e:Tm) (ns:List Int):(wa g e ns).cnt<=3+pmW g+e.cnt+6*g.length:=by
 unfold wa
 split
 ·have:=zLP g ns (yS g e)
  rw [zBd] at this
  omega
 ·simp only [Tm.nod,Tm.cnt,Ty.cnt,zJ,zR];omega
def zU4 (f:FuncId) (args:List PV) (t:Tm):Prop:=∀ (N:Nat) (Q:QT [.ag 9]),(∀ d N',N<=N'->t.Is d->Q d N')->ACalls prog f [.ag 9] args N Q
theorem zNr {l:List Tm} {es:List D} (h:All2 Tm.Is l es) (I:es.length<=4611686018427387904) (k:Int) (a:Option Addr) (c:Nat) :
  (Tm.nod k l).Is (.ag [.j k,.t (bytes []),.t (bytes []),.j 0,.j 0,.sl none 2 [] 0,.j 0,.sl none 2 [] 0,.sl a 9 es c]):=
 Tm.is_mk.2 ⟨_,_,_,_,a,es,c,rfl,⟨by decide,by decide,xP 0,xP 0⟩,I,h⟩
theorem zRc:(Tm.nod 0 []).Is (.ag [.j 0,.t (bytes []),.t (bytes []),.j 0,.j 0,.sl none 2 [] 0,.j 0,.sl none 2 [] 0,.sl none 9 [] 0]):=
 zNr (l:=[]) (es:=[]) rfl (by simp) 0 none 0
theorem zGz {g:List Pm} {es:List D} (h:Pms g es) (hg:g.length<=1000) (hW:pmW g<=1000000) {e:Tm} {d:D} (he:e.Is d) (hc:e.cnt<=1000000) (ns:List Int) (hn:ns.length<=1000000) (a Y:Option Addr) (c c2:Nat) :
  zU4 12 [.sv a 4 es c,.dg 9 d,.sv Y 0 (xj ns) c2] (wa g e ns):=λN Q U=>by
 have hl:=h.all.len
 have aq:=vk ns
 refine zHJ N a es c d Y _ c2 Q λ_ _ _=>Br.bne (λJ N1 O=>?_) λheq N2 au=>?_
 ·have e1:wa g e ns=Tm.nod 0 []:=by unfold wa;rw [if_neg (by omega)]
  rw [e1] at U
  exact U _ _ O zRc
 ·have J:ns.length=g.length:=by omega
  have e1:wa g e ns=zJn (yS g e) g ns:=by unfold wa;rw [if_pos J]
  rw [e1] at U
  refine ti h (by omega) (by omega) he (by omega) a c N2 _ λx N3 aw hx _ _ _=>?_
  refine up h.all h.len (λi xs=>∀ (t:Tm) (y:D) (N':Nat),N<=N'->t.Is y->t.cnt<=10000000+6*i->zJn t xs (ns.drop i)=zJn (yS g e) g ns ->
   wm Q N a es c Y (xj ns) c2 i 0 (bytes []) (bytes []) 0 0 none [] 0 0 none [] 0 none [] 0 y N') ?_ ?_ (yS g e) x N3 (by omega) hx (by rw [zBd];omega) (by rw [List.drop_zero])
  ·intro i aa hi t y N' ab ht _ heq
   refine rR _ _ _ _ _ _ _ _ _ _ _ _ _ _ _ _ _ _ _ _ _ _ _ _ _ _ ?_
   rw [aa]
   have:zJn t [] (ns.drop i)=t:=by cases ns.drop i<;>rfl
   rw [this] at heq
   subst heq
   exact λN5 ac=>U _ _ (by omega) ht
  ·intro i p ps I _ ih t y N' ab ht ax heq
   have hb:=I.b
   obtain ⟨t0,t1,ae,ay,ah⟩:=I.r
   have ai:ns[i]?=some (ns[i]'(by omega)):=oE (by omega)
   have aj:ns.drop i=ns[i]'(by omega)::ns.drop (i+1):=nw (by omega)
   rw [aj] at heq
   have az:=zL2 p.ty (ns[i]'(by omega))
   refine rR _ _ _ _ _ _ _ _ _ _ _ _ _ _ _ _ _ _ _ _ _ _ _ _ _ _ ?_
   rw [I.lt,I.w,oH,ae]
   refine ⟨⟨by omega,by omega⟩,⟨by omega,by omega⟩,_,ri ai,λN1 O=>zBm (t:=p.ty) ah _ N1 _ λx2 N4 a0 ak _ _ _=>⟨⟨rfl,rfl⟩,λa3 _ N5 ac al=>?_⟩⟩
   refine qg 7 (zIL ht ak) (by simp) (by
    intro z hz
    simp only [oG,oe,mL] at hz
    rcases hz with rfl | rfl<;>omega) a3 2 N5 _ λd5 N6 a4 am ao _=>⟨wU al ao,λ_=>?_⟩
   exact ih _ d5 N6 (by omega) am (by simp only [Tm.cnt,Ty.cnt,zJ,zR];omega) heq
theorem zIX {g:List Pm} {es:List D} (h:Pms g es) (hg:g.length<=1000) (hW:pmW g<=1000000) {e:Tm} {d:D} (he:e.Is d) (hc:e.cnt<=1000000) (ns:List Int) (hn:ns.length<=1000000) (a U:Option Addr) (c Y:Nat) :
  zU4 8 [.sv a 4 es c,.dg 9 d,.sv U 0 (xj ns) Y] (wa g e ns):=λN Q hQ=>by
 have hl:=h.all.len
 have am:=vk ns
 refine zG4 N a es c d U _ Y Q λ_ _ _=>Br.bne (λJ N1 O=>?_) λheq N2 ao=>?_
 ·have e1:wa g e ns=Tm.nod 0 []:=by unfold wa;rw [if_neg (by omega)]
  rw [e1] at hQ
  exact hQ _ _ O zRc
 ·have J:ns.length=g.length:=by omega
  have e1:wa g e ns=zJn (yS g e) g ns:=by unfold wa;rw [if_pos J]
  rw [e1] at hQ
  refine sD h (by omega) (by omega) he (by omega) a c N2 _ λx N3 aq hx _ _ _ N4 au=>?_
  refine zHa N4 x a es c U _ Y _ λ_ _ _=>?_
  refine up h.all h.len (λi xs=>∀ (t:Tm) (y:D) (N':Nat),N4<=N'->t.Is y->zJn t xs (ns.drop i)=zJn (yS g e) g ns ->
   wh _ N4 U (xj ns) Y a es c (es.length:Int) i y 0 (bytes []) (bytes []) 0 0 none [] 0 0 none [] 0 none [] 0 N') ?_ ?_ (yS g e) x N4 (oD _) hx (by rw [List.drop_zero])
  ·intro i aa hi t y N' ab ht heq
   refine rr _ _ _ _ _ _ _ _ _ _ _ _ _ _ _ _ _ _ _ _ _ _ _ _ _ _ _ ?_
   rw [aa]
   have:zJn t [] (ns.drop i)=t:=by cases ns.drop i<;>rfl
   rw [this] at heq
   subst heq
   exact λN5 ac _ _ N6 ae=>hQ _ _ (by omega) ht
  ·intro i p ps I _ ih t y N' ab ht heq
   have hb:=I.b
   obtain ⟨t0,t1,ah,aw,ai⟩:=I.r
   have aj:ns[i]?=some (ns[i]'(by omega)):=oE (by omega)
   have ak:ns.drop i=ns[i]'(by omega)::ns.drop (i+1):=nw (by omega)
   rw [ak] at heq
   simp only [zJn] at heq
   obtain ⟨nm,ty,dy⟩:=p
   obtain ⟨kk,ll⟩:=ty
   obtain ⟨a7,ax,c7,e7,_,_⟩:=Ty.is_mk.1 ai
   have e8:=List.cons.inj (D.ag.inj e7)
   have e0:t0=D.j kk:=e8.1
   refine rr _ _ _ _ _ _ _ _ _ _ _ _ _ _ _ _ _ _ _ _ _ _ _ _ _ _ _ ?_
   rw [I.lt,I.w,oH,ah,e0]
   refine ⟨⟨by omega,by omega⟩,⟨by omega,by omega⟩,_,ri aj,kk,rfl,λN1 O=>zQJ (.mk kk ll) _ N1 _ λx2 N5 ac al _ _ _=>⟨⟨rfl,rfl⟩,λa3 N6 ae _ N7 ay=>?_⟩⟩
   refine zHQ N7 7 a3 [y,x2] 2 _ λ_ N8 az _ _=>?_
   exact ih _ _ N8 (by omega) (zNr (zIL ht al) (by simp) 7 a3 2) heq
theorem zCm {g:List Pm} {es fs:List D} (h:Pms g es) (h2:Pms g fs) (a b:Option Addr) (c c':Nat):vl 19 [.sv a 4 es c,.sv b 4 fs c'] true:=λN Q hQ=>by
 have hl:=h.all.len
 have ac:=h2.all.len
 have key:=up h.all h.len (λi xs=>∀ (N':Nat),N<=N'->xI Q N a es c b fs c' i N') ?_ ?_
 ·exact zBw N _ _ _ _ _ _ Q λ_ _=>Br.bne (λhc=>absurd (show (es.length:Int)=fs.length by omega) hc) λ_=>key N (oD _)
 ·intro i O hi N' U
  refine uX _ _ _ _ _ _ _ _ _ _ ?_
  rw [O]
  exact λN2 ae=>hQ _ (by omega)
 ·intro i p ps I _ ih N' U
  have hb:=I.b
  obtain ⟨t0,t1,hd,ah,Y⟩:=I.r
  obtain ⟨u0,u1,aa,ab,J⟩:=h2.all.get I.g
  refine uX _ _ _ _ _ _ _ _ _ _ ?_
  rw [I.lt,I.w,oH,hd,aa]
  refine ⟨⟨by omega,by omega⟩,p.nm,rfl,⟨by omega,by omega⟩,p.nm,rfl,Br.of (λh=>by simp at h) λ_=>⟨⟨by omega,by omega⟩,p.dy,rfl,⟨by omega,by omega⟩,p.dy,rfl,Br.of (λh=>by simp at h) λ_=>⟨⟨by omega,by omega⟩,⟨by omega,by omega⟩,λN3 ai=>?_⟩⟩⟩
  refine zi p.ty p.ty _ _ Y J N3 _ λN4 aj _=>Br.of (λh=>by rw [(uI p.ty p.ty).2 rfl] at h;cases h) λ_=>ih N4 (by omega)
theorem zMJ:∀ (t:Tm) (d e:D),t.Is d->t.Is e->vl 11 [.dg 9 d,.dg 9 e] true:=by
 refine Tm.ind λk nm ot m ty re l ih d e hd he N Q hQ=>?_
 obtain ⟨t0,t1,r0,r1,a,es,c,rfl,hh,O,U⟩:=Tm.is_mk.1 hd
 obtain ⟨u0,u1,v0,v1,a',ab,c',rfl,Y,ac,J⟩:=Tm.is_mk.1 he
 have hl:=U.len
 have ak:=J.len
 have aa:∀ t:Ty,tu t t=true:=λt=>(uI t t).2 rfl
 refine zDK N _ _ Q λ_ _=>⟨k,rfl,k,rfl,Br.bne (λh=>absurd rfl h) λ_=>⟨nm,rfl,nm,rfl,Br.of (λh=>by simp at h) λ_=>⟨ot,rfl,ot,rfl,Br.of (λh=>by simp at h) λ_=>⟨m,rfl,m,rfl,Br.bne (λh=>absurd rfl h) λ_ N1 al=>?_⟩⟩⟩⟩
 refine zi ty ty _ _ hh.ty Y.ty N1 _ λN2 am _=>Br.of (λh=>by rw [aa] at h;cases h) λ_ N3 ao=>zi re re _ _ hh.re Y.re N3 _ λN4 aq _=>Br.of (λh=>by rw [aa] at h;cases h) λ_=>⟨_,_,_,rfl,_,_,_,rfl,Br.bne (λh=>absurd (show (es.length:Int)=ab.length by omega) h) λ_=>?_⟩
 refine up U O (λi xs=>∀ (N':Nat),N<=N'->xc Q N i _ _ N') ?_ ?_ N4 (by omega)
 ·intro i ae hi N' ah
  exact tT _ _ _ _ _ _ ⟨_,_,_,rfl,Br.of (λh=>by rw [ae] at h;cases h) λ_ N5 ai=>hQ _ (by omega)⟩
 ·intro i x xs I _ aj N' ah
  have hb:=I.b
  refine tT _ _ _ _ _ _ ⟨_,_,_,rfl,Br.of (λ_=>⟨_,_,_,rfl,hb,_,_,_,rfl,⟨by omega,by omega⟩,λN5 ai=>?_⟩) λh=>by rw [I.lt] at h;cases h⟩
  rw [oH,I.w]
  exact ih x I.m _ _ I.r (J.get I.g) N5 _ λN6 au _=>Br.of (λh=>by cases h) λ_=>aj N6 (by omega)
end Go.Proofs.YtlahkdflngobiaaGreat
