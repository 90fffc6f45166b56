/- Values: what does not come late does not depend on what does; what is left of a body has the body's value. -/
import Derived.Test.YtkdjhkfiolhkiaaGreatWs
import Derived.Test.YtkdjhkfiolhkiaaGreatWx
set_option linter.unusedVariables false
set_option linter.unusedSimpArgs false
namespace Go.Proofs.YtkdjhkfiolhkiaaGreat
open Go Go.Proofs Go.Proofs.Tryz Go.IntWalk
theorem qH {v:List Bd}:∀ {l:List Tm},yU l v=false->∀ t∈l,t.late v=false
 | [],_,_,h=>by cases h
 | x::l,hl,t,h=>by
   simp only [yU,Bool.or_eq_false_iff] at hl
   rcases oJ.1 h with rfl | h
   ·exact hl.1
   ·exact qH hl.2 t h
/-- parts of the same values -/
def Ev2 (x y:List Nb):List Tm->List Tm->Prop
 | [],[]=>True
 | t::l,u::m=>t.ev x=u.ev y/\Ev2 x y l m
 | _,_=>False
theorem zFp {x y:List Nb}:∀ {l m:List Tm},Ev2 x y l m->∀ i,qb l i x=qb m i y
 | [],[],_,_=>by simp [qb]
 | t::l,u::m,h,0=>h.1
 | t::l,u::m,h,i+1=>by simp only [qb];exact zFp h.2 i
 | [],_::_,h,_=>h.elim
 | _::_,[],h,_=>h.elim
theorem zFh {x y:List Nb}:∀ {l:List Tm},(∀ t∈l,t.ev x=t.ev y)->Ev2 x y l l
 | [],_=>trivial
 | t::l,h=>⟨h t (by simp),zFh fun u hu=>h u (by simp [hu])⟩
/-- names that do not come late have the same numbers -/
def Ag (v:List Bd) (x y:List Nb):Prop:=∀ nm,(um nm v).getD false=false->wn nm x=wn nm y
theorem Ag.snoc {v:List Bd} {x y:List Nb} (h:Ag v x y) (nm:ByteArray) (b:Bool) (m:Int):Ag (v++[(nm,b)]) (x++[(nm,m)]) (y++[(nm,m)]):=fun s hs=>by
 rw [xD,xD]
 rw [uQ] at hs
 split
 ·rfl
 ·rename_i hn
  rw [if_neg hn] at hs
  exact h s hs
theorem zIJ:∀ (t:Tm) (v:List Bd) (x y:List Nb),Ag v x y->t.late v=false->t.ev x=t.ev y:=by
 refine Tm.ind fun k nm ot n ty re l ih v x y hA hl=>?_
 have al:yU l v=false->∀ i,qb l i x=qb l i y:=fun h=>zFp (zFh fun t ht=>ih t ht v x y hA (qH h t ht))
 simp only [Tm.late] at hl
 simp only [Tm.ev]
 split
 ·rename_i hk
  rw [if_pos hk] at hl
  rw [hA nm (by cases h:um nm v with
   | none=>rfl
   | some b=>rw [h] at hl;exact hl)]
 rename_i hk
 rw [if_neg hk] at hl
 split
 ·rename_i h4
  rw [if_neg (by omega)] at hl
  rw [al hl,al hl]
 split
 ·rename_i h5
  rw [if_neg (by omega)] at hl
  rw [al hl,al hl]
 split
 ·rename_i h8
  rw [if_pos h8] at hl
  cases l with
  | nil=>rfl
  | cons t ts=>
    simp only [zBv,Bool.or_eq_false_iff] at hl
    have h0:=ih t (by simp) v x y hA hl.1
    simp only [qb,h0]
    exact zFp (zFh fun u hu=>ih u (by simp [hu]) _ _ _ (hA.snoc nm (t.late v) _) (qH hl.2 u hu)) 0
 ·rfl
/-- what is known, what comes late: with the numbers of all, and of those that come late -/
structure Rl (w:List Pl) (va vl:List Nb):Prop where
 a:Ag (w.map plB) (w.map plN) va
 l:∀ nm,um nm (w.map plB)=some true->wn nm vl=wn nm va
theorem Rl.known {w:List Pl} {va vl:List Nb} (h:Rl w va vl) (nm:ByteArray) (m:Int):Rl (w++[(nm,m,false)]) (va++[(nm,m)]) vl:=by
 refine ⟨by rw [o7,o7];exact h.a.snoc nm false m,fun s hs=>?_⟩
 rw [o7] at hs
 have hs:um s (w.map plB++[(nm,false)])=some true:=hs
 rw [uQ] at hs
 rw [xD]
 split
 ·rename_i hn;rw [if_pos hn] at hs;cases hs
 ·rename_i hn;rw [if_neg hn] at hs;exact h.l s hs
theorem Rl.late {w:List Pl} {va vl:List Nb} (h:Rl w va vl) (nm:ByteArray) (m:Int):Rl (w++[(nm,0,true)]) (va++[(nm,m)]) (vl++[(nm,m)]):=by
 refine ⟨fun s hs=>?_,fun s hs=>?_⟩
 ·rw [o7] at hs
  have hs:(um s (w.map plB++[(nm,true)])).getD false=false:=hs
  rw [o7]
  show wn s (w.map plN++[(nm,0)])=_
  rw [uQ] at hs
  rw [xD,xD]
  by_cases hn:nm=s
  ·rw [if_pos hn] at hs;cases hs
  ·rw [if_neg hn] at hs ⊢;rw [if_neg hn];exact h.a s hs
 ·rw [o7] at hs
  have hs:um s (w.map plB++[(nm,true)])=some true:=hs
  rw [uQ] at hs
  rw [xD,xD]
  by_cases hn:nm=s
  ·rw [if_pos hn,if_pos hn]
  ·rw [if_neg hn] at hs ⊢;rw [if_neg hn];exact h.l s hs
theorem zOO (t:Ty) (n:Int) (v:List Nb):(zJU t n).ev v=n:=by
 unfold zJU
 split<;>simp [Tm.ev]
theorem zJs {w:List Pl} {g:List Tg} {va vl:List Nb}:∀ {l:List Tm},(∀ x∈l,(x.sp w g).ev vl=x.ev va)->Ev2 vl va (vf l w g) l
 | [],_=>by simp only [vf];trivial
 | x::l,h=>by simp only [vf];exact ⟨h x (by simp),zJs fun y hy=>h y (by simp [hy])⟩
theorem zHv {k:Int} {nm:ByteArray} {w:List Pl} {g:List Tg} (hk:k≠8):∀ l:List Tm,yA l k nm w g=vf l w g
 | []=>by simp only [yA,vf]
 | x::l=>by simp only [yA,vf,if_neg hk]
theorem zPr {α:Type} {l:List α} (h:l.length=3):∃ a b c,l=[a,b,c]:=by
 match l,h with
 | [a,b,c],_=>exact ⟨a,b,c,rfl⟩
theorem two {α:Type} {l:List α} (h:l.length=2):∃ a b,l=[a,b]:=by
 match l,h with
 | [a,b],_=>exact ⟨a,b,rfl⟩
theorem zQW:∀ (t:Tm) (w:List Pl) (g:List Tg) (va vl:List Nb),SpC t w g->Rl w va vl->(t.sp w g).ev vl=t.ev va:=by
 refine Tm.ind fun k nm ot n ty re l ih w g va vl hC hR=>?_
 have nd:=zX hC.ok
 have har:=nd.ar
 have hb:=hC.b
 simp only [Tm.isB,oI] at hb
 simp only [Tm.sp]
 split
 ·rename_i hl
  rw [zOO]
  exact zIJ _ _ _ _ hR.a hl
 rename_i hlate
 split
 ·rename_i h5
  obtain ⟨rfl,h0⟩:=h5
  rw [show tq 5 nm=3 from rfl] at har
  obtain ⟨x0,x1,x2,rfl⟩:=zPr (l:=l) (by omega)
  have e0:=zIJ x0 _ _ _ hR.a h0
  have i1:=ih x1 (by simp) w g va vl (hC.flat (.inr rfl) (by simp)) hR
  have i2:=ih x2 (by simp) w g va vl (hC.flat (.inr rfl) (by simp)) hR
  rcases hC.cond with hc | hc
  ·simp only [Tm.ev,qb,<-e0,hc];simpa [zGb,qb] using i2
  ·simp only [Tm.ev,qb,<-e0,hc];simpa [zGb,qb] using i1
 split
 ·rename_i h8
  obtain ⟨rfl,h0⟩:=h8
  rw [show tq 8 nm=2 from rfl] at har
  obtain ⟨x0,x1,rfl⟩:=two (l:=l) (by omega)
  have e0:=zIJ x0 _ _ _ hR.a h0
  obtain ⟨_,_,s1⟩:=hC.let_
  have i1:=ih x1 (by simp) _ _ (va++[(nm,x0.ev va)]) vl s1 (by rw [e0];exact hR.known nm _)
  simp only [zDQ,zGb,Tm.ev,qb]
  simpa using i1
 rename_i hn5 hn8
 by_cases hk1:k=1
 ·subst hk1
  rw [show tq 1 nm=0 from rfl] at har
  have:l=[]:=oR (by omega)
  subst this
  simp only [Tm.late,yU,nn] at hlate
  simp only [yA,Tm.ev,nn]
  rw [hR.l nm (by cases h:um nm (w.map plB) with
   | none=>rw [h] at hlate;exact absurd rfl hlate
   | some b=>cases b with
     | true=>rfl
     | false=>rw [h] at hlate;exact absurd rfl hlate)]
 by_cases hk8:k=8
 ·subst hk8
  rw [show tq 8 nm=2 from rfl] at har
  obtain ⟨x0,x1,rfl⟩:=two (l:=l) (by omega)
  obtain ⟨s0,s1,_⟩:=hC.let_
  have i0:=ih x0 (by simp) w g va vl s0 hR
  have i1:=ih x1 (by simp) _ _ (va++[(nm,x0.ev va)]) (vl++[(nm,x0.ev va)]) s1 (hR.late nm _)
  simp only [yA,vf,Tm.ev,qb,nn,i0]
  simpa using i1
 rw [zHv hk8]
 by_cases hk:k=4\/k=5
 ·have al:=zFp (zJs fun x hx=>ih x hx w g va vl (hC.flat hk hx) hR)
  simp only [Tm.ev,al,if_neg hk1,if_neg hk8]
 ·exfalso
  apply hlate
  have:k=2\/k=3:=by
   have:=hb.2
   simp only [zAe,nU,yG,np] at this
   omega
  have hz:tq k nm=0:=by rcases this with rfl | rfl<;>rfl
  rw [hz] at har
  have:l=[]:=oR (by omega)
  subst this
  simp only [Tm.late,if_neg hk1,if_neg hk8,yU]
mutual
theorem zNU:∀ (t:Tm) (w:List Pl) (g:List Tg),(t.sp w g).sz<=t.sz
 | .mk k nm ot n ty re l,w,g=>by
   have h1:=zIX l (2 - qb l 0 (w.map plN)).toNat w g
   have h2:=zNg l nm w g
   have h4:=zKa l k nm w g
   simp only [Tm.sp]
   (repeat' split)
   ·simp only [zJU,Tm.sz,xT];omega
   ·simp only [Tm.sz];omega
   ·simp only [Tm.sz];omega
   ·simp only [Tm.sz];omega
theorem zIX:∀ (l:List Tm) (i:Nat) (w:List Pl) (g:List Tg),(zGb l i w g).sz<=1+xT l
 | [],_,_,_=>by simp [zGb,Tm.nod,Tm.sz,xT]
 | x::xs,0,w,g=>by simp only [zGb,xT];have:=zNU x w g;omega
 | x::xs,i+1,w,g=>by simp only [zGb,xT];have:=zIX xs i w g;omega
theorem zNg:∀ (l:List Tm) (nm:ByteArray) (w:List Pl) (g:List Tg),(zDQ l nm w g).sz<=1+xT l
 | [],_,_,_=>by simp [zDQ,Tm.nod,Tm.sz,xT]
 | x::xs,nm,w,g=>by simp only [zDQ,xT];have:=zIX xs 0 (w++[(nm,x.ev (w.map plN),false)]) (g++[⟨nm,tyZ x g 0,0⟩]);omega
theorem zJc:∀ (l:List Tm) (w:List Pl) (g:List Tg),xT (vf l w g)<=xT l
 | [],_,_=>by simp only [vf,xT];omega
 | x::xs,w,g=>by simp only [vf,xT];have:=zNU x w g;have:=zJc xs w g;omega
theorem zKa:∀ (l:List Tm) (k:Int) (nm:ByteArray) (w:List Pl) (g:List Tg),xT (yA l k nm w g)<=xT l
 | [],_,_,_,_=>by simp only [yA,xT];omega
 | x::xs,k,nm,w,g=>by simp only [yA,xT];have:=zNU x w g;have:=zJc xs (if k=8 then w++[(nm,0,true)] else w) (if k=8 then g++[⟨nm,tyZ x g 0,0⟩] else g);omega
end
def xn:List Pm->List Int->List Int->List Int
 | [],_,_=>[]
 | p::g,ns,ms=>if p.dy then ms.headD 0::xn g ns ms.tail else ns.headD 0::xn g ns.tail ms
def u7 (g:List Pm) (ns ms:List Int):Option (List Int):=if ns.length=(x8 g).length/\ms.length=(zR g).length then some (xn g ns ms) else none
theorem zEC:∀ (g:List Pm) (ns ms:List Int),(xn g ns ms).length=g.length
 | [],_,_=>rfl
 | p::g,ns,ms=>by simp only [xn];split<;>simp [zEC g]
theorem zi {nm:ByteArray} {b:Nb} {v:List Nb}:wn nm (b::v)=(wn nm v).orElse fun _=>if b.1=nm then some b.2 else none:=by
 unfold wn
 rw [List.reverse_cons,List.find?_append]
 cases h:v.reverse.find? fun p=>decide (p.1=nm) with
 | some x=>simp
 | none=>by_cases hb:b.1=nm<;>simp [hb]
theorem xv {nm:ByteArray} {b:Bd} {v:List Bd}:um nm (b::v)=(um nm v).orElse fun _=>if b.1=nm then some b.2 else none:=by
 unfold um
 rw [List.reverse_cons,List.find?_append]
 cases h:v.reverse.find? fun p=>decide (p.1=nm) with
 | some x=>simp
 | none=>by_cases hb:b.1=nm<;>simp [hb]
/-- a name is bound nowhere, to something known, or to something late -/
inductive Tri (nm:ByteArray) (w:List Pl) (va vl:List Nb):Prop
 | no:um nm (w.map plB)=none->wn nm (w.map plN)=none->wn nm va=none->wn nm vl=none->Tri nm w va vl
 | known (m:Int):um nm (w.map plB)=some false->wn nm (w.map plN)=some m->wn nm va=some m->Tri nm w va vl
 | late (m:Int):um nm (w.map plB)=some true->wn nm va=some m->wn nm vl=some m->Tri nm w va vl
theorem zJt (nm:ByteArray):∀ (g:List Pm) (ns ms:List Int),ns.length=(x8 g).length->ms.length=(zR g).length->Tri nm (rK g ns) (zn g (xn g ns ms)) (zn (zR g) ms)
 | [],ns,ms,_,_=>.no rfl rfl rfl (by simp [zR,zn,wn])
 | p :: g,ns,ms,h1,h2=>by
   by_cases hd:p.dy=true
   ·have e1:x8 (p::g)=x8 g:=by simp [x8,hd]
    have e2:zR (p::g)=p::zR g:=by simp [zR,hd]
    rw [e1] at h1
    rw [e2] at h2 ⊢
    obtain ⟨m,ms,rfl⟩:∃ m ms',ms=m::ms':=by cases ms with
     | nil=>simp at h2
     | cons m ms=>exact ⟨m,ms,rfl⟩
    simp only [oH] at h2
    have ih:=zJt nm g ns ms h1 (by omega)
    simp only [rK,xn,hd,nn,zn,mG,nz]
    cases ih with
    | no a b c d=>
      by_cases hn:p.nm=nm
      ·exact .late m (by rw [oU,xv,a];simp [plB,hn]) (by rw [zi,c];simp [hn]) (by rw [zi,d];simp [hn])
      ·exact .no (by rw [oU,xv,a];simp [plB,hn]) (by rw [oU,zi,b];simp [plN,hn]) (by rw [zi,c];simp [hn]) (by rw [zi,d];simp [hn])
    | known x a b c=>exact .known x (by rw [oU,xv,a];rfl) (by rw [oU,zi,b];rfl) (by rw [zi,c];rfl)
    | late x a b c=>exact .late x (by rw [oU,xv,a];rfl) (by rw [zi,b];rfl) (by rw [zi,c];rfl)
   ·have hd:p.dy=false:=by simpa using hd
    have e1:x8 (p::g)=p::x8 g:=by simp [x8,hd]
    have e2:zR (p::g)=zR g:=by simp [zR,hd]
    rw [e1] at h1
    rw [e2] at h2 ⊢
    obtain ⟨m,ns,rfl⟩:∃ m ns',ns=m::ns':=by cases ns with
     | nil=>simp at h1
     | cons m ns=>exact ⟨m,ns,rfl⟩
    simp only [oH] at h1
    have ih:=zJt nm g ns ms (by omega) h2
    simp only [rK,xn,hd,nX,o3,zn,mG,nz]
    cases ih with
    | no a b c d=>
      by_cases hn:p.nm=nm
      ·exact .known m (by rw [oU,xv,a];simp [plB,hn]) (by rw [oU,zi,b];simp [plN,hn]) (by rw [zi,c];simp [hn])
      ·exact .no (by rw [oU,xv,a];simp [plB,hn]) (by rw [oU,zi,b];simp [plN,hn]) (by rw [zi,c];simp [hn]) d
    | known x a b c=>exact .known x (by rw [oU,xv,a];rfl) (by rw [oU,zi,b];rfl) (by rw [zi,c];rfl)
    | late x a b c=>exact .late x (by rw [oU,xv,a];rfl) (by rw [zi,b];rfl) c
theorem zQJ {g:List Pm} {ns ms:List Int} (h1:ns.length=(x8 g).length) (h2:ms.length=(zR g).length):Rl (rK g ns) (zn g (xn g ns ms)) (zn (zR g) ms):=by
 refine ⟨fun nm h=>?_,fun nm h=>?_⟩
 ·cases zJt nm g ns ms h1 h2 with
  | no a b c d=>rw [b,c]
  | known x a b c=>rw [b,c]
  | late x a b c=>rw [a] at h;cases h
 ·cases zJt nm g ns ms h1 h2 with
  | no a b c d=>rw [a] at h;cases h
  | known x a b c=>rw [a] at h;cases h
  | late x a b c=>rw [b,c]
/-- what is left has the body's value, and is no greater -/
theorem zKt {g:List Pm} {e x:Tm} {ns ms all:List Int} {n m:Int} (hc:e.cnt<=536870000) (hx:yT g e ns=some x) (hw:u7 g ns ms=some all) (hn:yj (zR g) x ms=(n,true)) (hm:yj g e all=(m,true)):n=m/\x.sz<=e.sz:=by
 unfold yT at hx
 split at hx
 rotate_left
 ·cases hx
 rename_i hs
 cases hx
 unfold u7 at hw
 split at hw
 rotate_left
 ·cases hw
 rename_i hw2
 cases hw
 have hsp:=zFf hs.1 hs.2.1 hs.2.2 hc
 have hv:=zQW e _ _ _ _ hsp (zQJ hw2.1 hw2.2)
 refine ⟨?_,zNU _ _ _⟩
 unfold yj at hn hm
 split at hn<;>(try (cases hn;done))
 split at hn<;>(try (cases hn;done))
 split at hn<;>(try (cases hn;done))
 split at hm<;>(try (cases hm;done))
 split at hm<;>(try (cases hm;done))
 split at hm<;>(try (cases hm;done))
 cases hn;cases hm
 exact hv
end Go.Proofs.YtkdjhkfiolhkiaaGreat
set_option maxRecDepth 100000
namespace Go.Proofs.YtkdjhkfiolhkiaaGreat
open Go Go.Proofs Go.Proofs.Tryz Go.IntWalk
theorem zIK {l:List D} {i:Nat} (h:i<l.length):l.getD i default∈l:=by
 rw [oA,oD h];exact nw h
/-- a cursor over bytes -/
structure Cu (es:List D) (i:Int):Prop where
 b:∀ d∈es,∃ n:Int,d=.lit (.int .u8 n)
 l:es.length<=1073741824
 lo:0<=i
 hi:i<=es.length
theorem zJR (x:Int):0<=IntKind.i64.wrap ((BitVec.ofInt 64 x &&& BitVec.ofInt 64 255).toNat:Int)/\IntKind.i64.wrap ((BitVec.ofInt 64 x &&& BitVec.ofInt 64 255).toNat:Int)<=255:=by
 have h:(BitVec.ofInt 64 x &&& BitVec.ofInt 64 255).toNat<=255:=by
  rw [BitVec.toNat_and]
  exact od Nat.and_le_right (by decide)
 rw [i64_in _ (by omega)]
 omega
theorem zQQ {es:List D} (hb:∀ d∈es,∃ n:Int,d=.lit (.int .u8 n)) (hl:es.length<=1073741824) (a:Option Addr) (c:Nat) (N:Nat) (Q:QT [.cu])
  (hQ:∀ h N',N<=N'->Cu es 0->Q a es c 0 h N'):ACalls prog 58 [.cu] [.sv a 0 es c] N Q:=by
 refine zHR N a es c Q fun _=>?_
 have fin:∀ h N',N<=N'->Q a es c 0 h N':=fun h N' hN'=>hQ h N' hN' ⟨hb,hl,by omega,by omega⟩
 have key:∀ (n i:Nat) (h:Int) (N':Nat),i+n=es.length->N<=N'->wa Q N a es c h i N':=by
  intro n
  induction n with
  | zero=>
    intro i h N' hi hN'
    refine r7 _ _ _ _ _ _ _ _ ?_
    rw [mi (by omega)]
    exact fun N1 hN1=>fin _ _ (by omega)
  | succ n ih=>
    intro i h N' hi hN'
    refine r7 _ _ _ _ _ _ _ _ ?_
    rw [nY (by omega)]
    rw [Y3]
    rcases Int.lt_or_le (i:Int) 4000 with h4 | h4
    rotate_left
    ·rw [mi (by omega)]
     exact fun N1 hN1=>fin _ _ (by omega)
    rw [nY h4,Y3]
    refine And.intro ⟨by omega,by omega⟩ ?_
    rw [oG]
    obtain ⟨x,hx⟩:=hb (es.getD i default) (zIK (by omega))
    refine ⟨x,hx,?_⟩
    rw [i64_in ((i:Int)+1) (by omega)]
    exact ih (i+1) _ N' (by omega) hN'
 exact key es.length 0 _ N (by omega) (oF _)
theorem zHw {es:List D} {i:Int} (hc:Cu es i) (a:Option Addr) (c:Nat) (h:Int) (N:Nat) (Q:QT [.int .i64,.sl 0,.int .i64,.int .i64])
  (hQ:∀ x a' es' c' i' h' N',N<=N'->Cu es' i'->0<=x->x<=255->Q x a' es' c' i' h' N'):BCalls prog 131 [.int .i64,.sl 0,.int .i64,.int .i64] [.pb 0 0 0 0] [.var [.sv a 0 es c,.int .i64 i,.int .i64 h]] N Q:=by
 have h1:=hc.lo
 have h2:=hc.hi
 have h3:=hc.l
 refine zBW N a es c i h Q fun E _=>⟨by omega,by omega,Br.dec (fun hlt=>⟨⟨h1,hlt⟩,?_⟩) fun _=>⟨zAO,fun N1 hN1=>hQ _ _ _ _ _ _ _ hN1 hc (zJR _).1 (zJR _).2⟩⟩
 obtain ⟨x,hx⟩:=hc.b (es.getD i.toNat default) (zIK (by omega))
 refine ⟨x,hx,zAO,fun N1 hN1=>hQ _ _ _ _ _ _ _ hN1 ?_ (zJR _).1 (zJR _).2⟩
 rw [i64_in (i+1) (by omega)]
 exact ⟨hc.b,hc.l,by omega,by omega⟩
theorem tO {es:List D} {i:Int} (hc:Cu es i) (n:Int) (hn:n<=4294967296) (a:Option Addr) (c:Nat) (h:Int) (N:Nat) (Q:QT [.int .i64,.sl 0,.int .i64,.int .i64])
  (hQ:∀ x a' es' c' i' h' N',N<=N'->Cu es' i'->0<=x->(0<n->x<n)->(n<=0->x=0)->Q x a' es' c' i' h' N'):BCalls prog 61 [.int .i64,.sl 0,.int .i64,.int .i64] [.pb 0 0 0 0,.int .i64 n] [.var [.sv a 0 es c,.int .i64 i,.int .i64 h]] N Q:=by
 have tm:∀ x:Int,0<=x->0<n->0<=Int.tmod x n/\Int.tmod x n<n:=fun x hx h0=>⟨Int.tmod_nonneg _ hx,Int.tmod_lt_of_pos _ h0⟩
 refine zAW N n a es c i h Q fun E _=>Br.dec (fun h0=>⟨zAO,fun N1 hN1=>hQ _ _ _ _ _ _ _ hN1 hc (by omega) (by omega) fun _=>rfl⟩) fun h0=>Br.dec (fun hs N1 hN1=>?_) fun hs N1 hN1=>?_
 ·exact zHw hc a c h N1 _ fun x a' es' c' i' h' N2 hN2 hc' x0 x1 _ _=>⟨by omega,zAO,fun N3 hN3=>hQ _ _ _ _ _ _ _ (by omega) hc' (tm x x0 (by omega)).1 (fun g=>(tm x x0 g).2) fun g=>by omega⟩
 ·refine zHw hc a c h N1 _ fun x a' es' c' i' h' N2 hN2 hc' x0 x1 _ _ N3 hN3=>?_
  refine zHw hc' a' c' h' N3 _ fun y a' es' c' i' h' N4 hN4 hc' y0 y1 _ _ N5 hN5=>?_
  refine zHw hc' a' c' h' N5 _ fun z a' es' c' i' h' N6 hN6 hc' z0 z1 _ _ N7 hN7=>?_
  refine zHw hc' a' c' h' N7 _ fun w a' es' c' i' h' N8 hN8 hc' w0 w1 _ _=>⟨by omega,zAO,fun N9 hN9=>?_⟩
  have e:IntKind.i64.wrap (IntKind.i64.wrap (IntKind.i64.wrap (IntKind.i64.wrap (x*16777216)+IntKind.i64.wrap (y*65536))+IntKind.i64.wrap (z*256))+w)=x*16777216+y*65536+z*256+w:=by
   rw [i64_in (x*16777216) (by omega),i64_in (y*65536) (by omega),i64_in (z*256) (by omega),i64_in (x*16777216+y*65536) (by omega),i64_in (x*16777216+y*65536+z*256) (by omega),i64_in _ (by omega)]
  have hq:=hQ (Int.tmod (x*16777216+y*65536+z*256+w) n) a' es' c' i' h' N9 (by omega) hc' (tm _ (by omega) (by omega)).1 (fun g=>(tm _ (by omega) g).2) fun g=>by omega
  rw [<-e] at hq
  exact hq
theorem zER {es:List D} {i:Int} (hc:Cu es i) (n:Int) (hn:n<=4294967296) (a:Option Addr) (c:Nat) (h:Int) (N:Nat) (Q:QT [.bool,.sl 0,.int .i64,.int .i64])
  (hQ:∀ b a' es' c' i' h' N',N<=N'->Cu es' i'->Q b a' es' c' i' h' N'):BCalls prog 81 [.bool,.sl 0,.int .i64,.int .i64] [.pb 0 0 0 0,.int .i64 n] [.var [.sv a 0 es c,.int .i64 i,.int .i64 h]] N Q:=
 zBc N n a es c i h Q fun E _ N1 hN1=>tO hc n hn a c h N1 _ fun x a' es' c' i' h' N2 hN2 hc' _ _ _ _ _=>⟨zAO,fun N3 hN3=>hQ _ _ _ _ _ _ _ (by omega) hc'⟩
theorem zLK {es:List D} {i:Int} (hc:Cu es i) (l:List ByteArray) (h0:0<l.length) (hl:l.length<=4294967296) (a:Option Addr) (c:Nat) (h:Int) (k q:Nat) (N:Nat) (Q:QT [.str,.sl 0,.int .i64,.int .i64,.sl 0])
  (hQ:∀ s a' es' c' i' h' N',N<=N'->Cu es' i'->s∈l->Q s a' es' c' i' h' none (yg l) q N'):BCalls prog 132 [.str,.sl 0,.int .i64,.int .i64,.sl 0] [.pb 0 0 0 0,.sb 1 0 0 l.length k] [.var [.sv a 0 es c,.int .i64 i,.int .i64 h],.arr 9 0 (yg l) q] N Q:=by
 have hwl:=rM l
 refine zBY N l.length k a es c i h (yg l) q Q fun E _ _ N1 hN1=>?_
 refine tO hc l.length (by omega) a c h N1 _ fun x a' es' c' i' h' N2 hN2 hc' x0 x1 _ _ _=>?_
 have x1:=x1 (by omega)
 have hx:x.toNat<l.length:=by omega
 refine ⟨⟨x0,x1,by omega⟩,by omega,l[x.toNat],?_,zAO,fun N3 hN3=>hQ _ _ _ _ _ _ _ (by omega) hc' (nw hx)⟩
 simp [yg,oA,oE,oD hx]
theorem zMH {es:List D} {i:Int} (hc:Cu es i) (l:List Int) (h0:0<l.length) (hl:l.length<=4294967296) (a:Option Addr) (c:Nat) (h:Int) (k q:Nat) (N:Nat) (Q:QT [.int .i64,.sl 0,.int .i64,.int .i64,.sl 0])
  (hQ:∀ s a' es' c' i' h' N',N<=N'->Cu es' i'->s∈l->Q s a' es' c' i' h' none (zI l) q N'):BCalls prog 63 [.int .i64,.sl 0,.int .i64,.int .i64,.sl 0] [.pb 0 0 0 0,.sb 1 0 0 l.length k] [.var [.sv a 0 es c,.int .i64 i,.int .i64 h],.arr 3 0 (zI l) q] N Q:=by
 have hwl:=z9 l
 refine qL N l.length k a es c i h (zI l) q Q fun E _ _ N1 hN1=>?_
 refine tO hc l.length (by omega) a c h N1 _ fun x a' es' c' i' h' N2 hN2 hc' x0 x1 _ _ _=>?_
 have x1:=x1 (by omega)
 have hx:x.toNat<l.length:=by omega
 refine ⟨⟨x0,x1,by omega⟩,by omega,l[x.toNat],?_,zAO,fun N3 hN3=>hQ _ _ _ _ _ _ _ (by omega) hc' (nw hx)⟩
 simp [zI,oA,oE,oD hx]
end Go.Proofs.YtkdjhkfiolhkiaaGreat
set_option maxRecDepth 100000
namespace Go.Proofs.YtkdjhkfiolhkiaaGreat
open Go Go.Proofs Go.Proofs.Tryz Go.IntWalk
/-- some term of at most this many nodes -/
def Some (m:Nat) (d:D):Prop:=∃ t:Tm,t.Is d/\t.cnt<=m
theorem Some.mono {m n:Nat} {d:D} (h:Some m d) (hn:m<=n):Some n d:=by obtain ⟨t,h1,h2⟩:=h;exact ⟨t,h1,by omega⟩
theorem zPY {m:Nat}:∀ {es:List D},(∀ d∈es,Some m d)->∃ l,All2 Tm.Is l es/\(∀ x∈l,x.cnt<=m)
 | [],_=>⟨[],rfl,by simp⟩
 | d::es,h=>by
   obtain ⟨t,h1,h2⟩:=h d (by simp)
   obtain ⟨l,h3,h4⟩:=zPY fun x hx=>h x (nW d hx)
   exact ⟨t::l,⟨d,es,rfl,h1,h3⟩,fun x hx=>by
    rcases oJ.1 hx with rfl | hx
    ·exact h2
    ·exact h4 x hx⟩
theorem zEh {m:Nat}:∀ {l:List Tm},(∀ x∈l,x.cnt<=m)->zJ l<=l.length*m
 | [],_=>by simp [zJ]
 | x::l,h=>by
   have h1:=zEh (l:=l) fun y hy=>h y (by simp [hy])
   have h2:=h x (by simp)
   simp only [zJ,oH,nM,Nat.one_mul]
   omega
theorem zNo (k:Int) {m:Nat} (hm:m<=1073741824) {es:List D} (hes:∀ d∈es,Some m d) (hl:es.length<=1000) (a:Option Addr) (c:Nat) (N:Nat) (Q:QT [.ag 9])
  (hQ:∀ d' N',N<=N'->Some (3+es.length*m) d'->Own N N' d'->Q d' N'):ACalls prog 123 [.ag 9] [.int .i64 k,.sv a 9 es c] N Q:=by
 obtain ⟨l,h1,h2⟩:=zPY hes
 have hll:=h1.len
 refine zFK k h1 (by omega) (fun x hx=>od (h2 x hx) hm) a c N _ fun d' N' hN' hd ho=>hQ d' N' hN' ⟨_,hd,?_⟩ ho
 have:=zEh h2
 simp only [Tm.cnt,Ty.cnt,zO]
 rw [hll]
 omega
/-- another name -/
theorem zGn {m:Nat} {d:D} (h:Some m d) {s:ByteArray} (hs:s.size<=4611686018427387904):Some m (.ag [d.cell 0,.lit (.string s),d.cell 2,d.cell 3,d.cell 4,d.cell 5,d.cell 6,d.cell 7,d.cell 8]):=by
 obtain ⟨t,h1,h2⟩:=h
 cases t with
 | mk k nm ot n ty re l=>
   obtain ⟨t0,t1,r0,r1,a,es,c,rfl,hh,hlen,hes⟩:=Tm.is_mk.1 h1
   exact ⟨.mk k s ot n ty re l,Tm.is_mk.2 ⟨_,_,_,_,_,_,_,rfl,⟨hs,hh.ot,hh.ty,hh.re⟩,hlen,hes⟩,h2⟩
theorem zNh {m N N':Nat} {d:D} (h:Some m d) (ho:Own N N' d) (s:ByteArray):Own N N' (.ag [d.cell 0,.lit (.string s),d.cell 2,d.cell 3,d.cell 4,d.cell 5,d.cell 6,d.cell 7,d.cell 8]):=by
 obtain ⟨t,h1,h2⟩:=h
 cases t with
 | mk k nm ot n ty re l=>
   obtain ⟨t0,t1,r0,r1,a,es,c,rfl,hh,hlen,hes⟩:=Tm.is_mk.1 h1
   exact zJq (v2:=.string s) ho
theorem zPu {s:ByteArray} (hs:s.size<=4611686018427387904) {m:Nat} (hm:m<=1073741824) {es:List D} (hes:∀ d∈es,Some m d) (hl:es.length<=1000) (a:Option Addr) (c:Nat) (N:Nat) (Q:QT [.ag 9])
  (hQ:∀ d' N',N<=N'->Some (3+es.length*m) d'->Own N N' d'->Q d' N'):ACalls prog 187 [.ag 9] [.str s,.sv a 9 es c] N Q:=
 zIL N s a es c Q fun _ N1 hN1=>zNo 4 hm hes hl a c N1 _ fun d' N2 hN2 hd ho _ _ N3 hN3=>hQ _ _ (by omega) (zGn hd hs) ((zNh hd ho s).mono hN1 hN3)
theorem qd (k n:Int) (s:ByteArray) (hs:s.size<=4611686018427387904):Some 3 (.ag [.lit (.int .i64 k),.lit (.string s),.lit (.string (bytes [])),.lit (.int .i64 n),.lit (.int .i64 0),.sl none 2 [] 0,.lit (.int .i64 0),.sl none 2 [] 0,.sl none 9 [] 0]):=
 zGn (s:=s) ⟨_,zGh k n,by simp only [Tm.cnt,Ty.cnt,zO,zJ];omega⟩ hs
theorem zP9 (s:ByteArray) (hs:s.size<=4611686018427387904) (N:Nat) (Q:QT [.ag 9]) (hQ:∀ d' N',N<=N'->Some 3 d'->Q d' N'):ACalls prog 155 [.ag 9] [.str s] N Q:=
 zHn N s Q fun N1 hN1=>hQ _ _ hN1 (qd 1 0 s hs)
theorem zPy (n:Int) (N:Nat) (Q:QT [.ag 9]) (hQ:∀ d' N',N<=N'->Some 3 d'->Q d' N'):ACalls prog 204 [.ag 9] [.int .i64 n] N Q:=
 zA4 N n Q fun N1 hN1=>hQ _ _ hN1 (qd 2 n (bytes []) (by decide))
theorem zPK (n:Int) (N:Nat) (Q:QT [.ag 9]) (hQ:∀ d' N',N<=N'->Some 3 d'->Q d' N'):ACalls prog 205 [.ag 9] [.int .i64 n] N Q:=
 p8 N n Q fun N1 hN1=>hQ _ _ hN1 (qd 3 n (bytes []) (by decide))
theorem zQG {s:ByteArray} (hs:s.size<=4611686018427387904) {m:Nat} (hm:m<=1073741824) {d e:D} (hd:Some m d) (he:Some m e) (N:Nat) (Q:QT [.ag 9])
  (hQ:∀ d' N',N<=N'->Some (3+2*m) d'->Q d' N'):ACalls prog 186 [.ag 9] [.str s,.dg 9 d,.dg 9 e] N Q:=by
 obtain ⟨t,h1,h2⟩:=hd
 obtain ⟨u,h3,h4⟩:=he
 refine zL7 s hs t u d e h1 h3 (by omega) (by omega) N _ fun d' N' hN' hx _=>hQ d' N' hN' ⟨_,hx,?_⟩
 simp only [Tm.letN,Tm.cnt,Ty.cnt,zO,zJ]
 omega
theorem zP1 {s:ByteArray} (hs:s.size<=4611686018427387904) {ty:Ty} {x1:D} (h1:ty.Is x1) (hc1:ty.cnt<=1073741824) {m:Nat} (hm:m<=1073741824) {d:D} (hd:Some m d) (N:Nat) (Q:QT [.ag 9])
  (hQ:∀ d' N',N<=N'->Some (2+ty.cnt+m) d'->Q d' N'):ACalls prog 161 [.ag 9] [.str s,.dg 2 x1,.dg 9 d] N Q:=by
 obtain ⟨t,h2,h3⟩:=hd
 refine zH7 N s x1 d Q fun _ _=>⟨⟨rfl,rfl⟩,fun a _ N1 hN1 hbel=>?_⟩
 refine zFK 6 (zGF h2) (by simp) (by simpa using (by omega:t.cnt<=1073741824)) a 1 N1 _ fun x N2 hN2 hx ho _=>⟨wS hbel ho,fun _ N3 hN3=>?_⟩
 refine zW ty x1 h1 hc1 N3 _ fun x' N4 hN4 hx' ho' _ _ N5 hN5=>?_
 obtain ⟨t0,t1,r0,r1,a',es,c,rfl,hh,hlen,hes⟩:=Tm.is_mk.1 hx
 refine hQ _ _ (by omega) ⟨.mk 6 s (bytes []) 0 ty (.mk 0 []) [t],Tm.is_mk.2 ⟨_,_,_,_,_,_,_,rfl,⟨hs,hh.ot,Ty.is_cells hx',hh.re⟩,hlen,hes⟩,?_⟩
 simp only [Tm.cnt,Ty.cnt,zO,zJ]
 omega
/-- a type by its form -/
inductive Wf:Ty->Prop
 | int:Wf tInt
 | bool:Wf tBool
 | fn {a b:Ty}:Wf a->Wf b->Wf (vJ a b)
 | code {a:Ty}:Wf a->Wf (pJ a)
theorem zMB {t:Ty} (hw:Wf t):t.cnt<=1000->∀ {d:D} (_:t.Is d) (n:Int) {es:List D} {i:Int} (_:Cu es i) (a:Option Addr) (c:Nat) (h:Int) (N:Nat) (Q:QT [.ag 9,.sl 0,.int .i64,.int .i64])
  (_:∀ d' a' es' c' i' h' N',N<=N'->Cu es' i'->Some (4*t.cnt) d'->Q d' a' es' c' i' h' N'),BCalls prog 158 [.ag 9,.sl 0,.int .i64,.int .i64] [.pb 0 0 0 0,.dg 2 d,.int .i64 n] [.var [.sv a 0 es c,.int .i64 i,.int .i64 h]] N Q:=by
 induction hw with
 | int=>
   intro hc d hd n es i hcu a c h N Q hQ
   obtain ⟨b,fs,k,rfl,_,h2⟩:=Ty.is_mk.1 hd
   refine xE N _ n a es c i h Q fun E _ _=>⟨1,rfl,Br.beq (fun _ N1 hN1=>?_) fun h=>absurd rfl h⟩
   exact tO hcu 4 (by omega) a c h N1 _ fun x a' es' c' i' h' N2 hN2 hc' _ _ _ _ _ N3 hN3=>zPy x N3 _ fun d' N4 hN4 hd' _ _=>⟨zAO,fun N5 hN5=>hQ _ _ _ _ _ _ _ (by omega) hc' (hd'.mono (by simp [tInt,Ty.cnt,zO]))⟩
 | bool=>
   intro hc d hd n es i hcu a c h N Q hQ
   obtain ⟨b,fs,k,rfl,_,h2⟩:=Ty.is_mk.1 hd
   refine xE N _ n a es c i h Q fun E _ _=>⟨2,rfl,Br.beq (fun h=>absurd h (by decide)) fun _=>Br.beq (fun _ N1 hN1=>?_) fun h=>absurd rfl h⟩
   exact tO hcu 2 (by omega) a c h N1 _ fun x a' es' c' i' h' N2 hN2 hc' _ _ _ _ _ N3 hN3=>zPK x N3 _ fun d' N4 hN4 hd' _ _=>⟨zAO,fun N5 hN5=>hQ _ _ _ _ _ _ _ (by omega) hc' (hd'.mono (by simp [tBool,Ty.cnt,zO]))⟩
 | @fn u v hu hv ihu ihv=>
   intro hc d hd n es i hcu a c h N Q hQ
   have hcc:(vJ u v).cnt=1+(u.cnt+(v.cnt+0)):=rfl
   obtain ⟨b,fs,k,rfl,hfl,d1,_,rfl,h3,d2,_,rfl,h4,rfl⟩:=Ty.is_mk.1 hd
   refine xE N _ n a es c i h Q fun E _ _=>⟨3,rfl,Br.beq (fun h=>absurd h (by decide)) fun _=>Br.beq (fun h=>absurd h (by decide)) fun _=>Br.beq (fun _=>⟨_,_,_,rfl,⟨by simp,by simp⟩,_,_,_,rfl,⟨by simp,by simp⟩,fun N1 hN1=>?_⟩) fun h=>absurd rfl h⟩
   refine ihv (by omega) h4 n hcu a c h N1 _ fun x a' es' c' i' h' N2 hN2 hc' hx _ _ _ N3 hN3=>?_
   exact zP1 (by decide) h3 (by omega) (by omega) hx N3 _ fun y N4 hN4 hy _ _=>⟨zAO,fun N5 hN5=>hQ _ _ _ _ _ _ _ (by omega) hc' (hy.mono (by omega))⟩
 | @code u hu ihu=>
   intro hc d hd n es i hcu a c h N Q hQ
   have hcc:(pJ u).cnt=1+(u.cnt+0):=rfl
   obtain ⟨b,fs,k,rfl,hfl,d1,_,rfl,h3,rfl⟩:=Ty.is_mk.1 hd
   refine xE N _ n a es c i h Q fun E _ _=>⟨4,rfl,Br.beq (fun h=>absurd h (by decide)) fun _=>Br.beq (fun h=>absurd h (by decide)) fun _=>Br.beq (fun h=>absurd h (by decide)) fun _=>⟨_,_,_,rfl,⟨by simp,by simp⟩,fun N1 hN1=>?_⟩⟩
   refine ihu (by omega) h3 _ hcu a c h N1 _ fun x a' es' c' i' h' N2 hN2 hc' hx _ _ _=>⟨⟨rfl,rfl⟩,⟨rfl,rfl⟩,⟨rfl,rfl⟩,fun a7 N3 hN3 _=>⟨zAO,fun N4 hN4=>hQ _ _ _ _ _ _ _ (by omega) hc' ?_⟩⟩
   obtain ⟨e,h5,h6⟩:=hx
   refine ⟨.mk 10 (bytes []) (bytes []) 0 (.mk 0 []) (.mk 0 []) [e],Tm.is_mk.2 ⟨_,_,_,_,_,_,_,rfl,⟨by decide,by decide,xV 0,xV 0⟩,by simp,zGF h5⟩,?_⟩
   simp only [Tm.cnt,Ty.cnt,zO,zJ]
   omega
theorem zMj:Some 3 (.ag [.lit (.int .i64 0),.lit (.string (bytes [])),.lit (.string (bytes [])),.lit (.int .i64 0),.lit (.int .i64 0),.sl none 2 [] 0,.lit (.int .i64 0),.sl none 2 [] 0,.sl none 9 [] 0]):=qd 0 0 (bytes []) (by decide)
/-- a variable of a type, if there is one -/
theorem zLY {g:List Tg} {es0:List D} (ctx:Ctx g es0) (hg:g.length<=1000000) {t:Ty} {d:D} (hd:t.Is d) (n:Int) (a0:Option Addr) (c0:Nat) {es:List D} {i:Int} (hcu:Cu es i) (a:Option Addr) (c:Nat) (h:Int) (N:Nat) (Q:QT [.ag 9,.bool,.sl 0,.int .i64,.int .i64])
  (hQ:∀ d' b a' es' c' i' h' N',N<=N'->Cu es' i'->Some 3 d'->Q d' b a' es' c' i' h' N'):BCalls prog 157 [.ag 9,.bool,.sl 0,.int .i64,.int .i64] [.pb 0 0 0 0,.sv a0 4 es0 c0,.dg 2 d,.int .i64 n] [.var [.sv a 0 es c,.int .i64 i,.int .i64 h]] N Q:=by
 have hl:=ctx.all.len
 refine zAD N a0 es0 c0 d n a es c i h Q fun E _ _ _=>?_
 refine up ctx.all ctx.len (fun k xs=>∀ (r:List D) (q N':Nat),N<=N'->(∀ x∈r,Some 3 x)->r.length<=k->zk E Q N a0 es0 c0 n r.length q k a es c i h d 0 (bytes []) (bytes []) 0 0 none [] 0 0 none [] 0 none [] 0 r q N') ?_ ?_ [] 0 N (oF _) (by simp) (by simp)
 ·intro k hlt hk r q N' hN' hr hrl
  refine tc _ _ _ _ _ _ _ _ _ _ _ _ _ _ _ _ _ _ _ _ _ _ _ _ _ _ _ _ _ _ _ _ _ _ ?_
  rw [hlt]
  refine Br.beq (fun _=>⟨zAO,fun N1 hN1=>hQ _ _ _ _ _ _ _ _ (by omega) hcu zMj⟩) fun h0 N1 hN1=>?_
  refine tO hcu _ (by omega) a c h N1 _ fun x a' es' c' i' h' N2 hN2 hc' x0 x1 _ _ _=>?_
  have x1:=x1 (by omega)
  exact ⟨⟨x0,x1,by omega⟩,by omega,zAO,fun N3 hN3=>hQ _ _ _ _ _ _ _ _ (by omega) hc' (hr _ (zIK (by omega)))⟩
 ·intro k x xs hat _ ih r q N' hN' hr hrl
  have hb:=hat.b
  obtain ⟨t0,t1,hd',hnm,hty⟩:=hat.r
  have skip:∀ N'',N<=N''->zk E Q N a0 es0 c0 n r.length q (IntKind.i64.wrap ((k:Int)+1)) a es c i h d 0 (bytes []) (bytes []) 0 0 none [] 0 0 none [] 0 none [] 0 r q N'':=fun N'' h=>by
   rw [hat.w];exact ih r q N'' h hr (by omega)
  refine tc _ _ _ _ _ _ _ _ _ _ _ _ _ _ _ _ _ _ _ _ _ _ _ _ _ _ _ _ _ _ _ _ _ _ ?_
  rw [hat.lt]
  simp only [oG]
  rw [hd']
  have bd:(0:Int)<=(k:Int)/\(k:Int)<(es0.length:Int):=⟨by omega,by omega⟩
  refine ⟨bd,x.lv,rfl,Br.beq (fun _=>⟨bd,fun N1 hN1=>?_⟩) fun _=>skip N' hN'⟩
  refine xe x.ty t _ d hty hd N1 _ fun N2 hN2 _=>Br.of (fun _=>⟨bd,x.nm,rfl,fun N3 hN3=>?_⟩) fun _=>skip N2 (by omega)
  refine w8 ctx a0 c0 x.nm N3 _ fun N4 hN4 _=>Br.beq (fun _=>⟨bd,x.nm,rfl,fun N5 hN5=>?_⟩) fun _=>skip N4 (by omega)
  refine zP9 x.nm hnm N5 _ fun y N6 hN6 hy _ _=>⟨⟨by trivial,by trivial⟩,by unfold zA;rw [oK];simp only [oH,oN];omega,fun c1=>?_⟩
  rw [hat.w]
  exact ih (r++[y]) c1 N6 (by omega) (fun z hz=>by
   rcases oL.1 hz with hz | hz
   ·exact hr z hz
   ·rw [o4] at hz;subst hz;exact hy) (by simp;omega)
/-- parameters -/
theorem zNE {es:List D} {i:Int} (hcu:Cu es i) (a:Option Addr) (c:Nat) (h:Int) (N:Nat) (Q:QT [.sl 4,.sl 0,.int .i64,.int .i64])
  (hQ:∀ g a1 e1 c1 a' es' c' i' h' N',N<=N'->Cu es' i'->Pms g e1->1<=g.length->g.length<=4->(∀ x∈g,x.ty.cnt<=1)->Q a1 e1 c1 a' es' c' i' h' N'):BCalls prog 128 [.sl 4,.sl 0,.int .i64,.int .i64] [.pb 0 0 0 0] [.var [.sv a 0 es c,.int .i64 i,.int .i64 h]] N Q:=by
 refine qY N a es c i h Q fun E _ N1 hN1=>tO hcu 4 (by omega) a c h N1 _ fun x a' es' c' i' h' N2 hN2 hc' x0 x1 _ _ _=>?_
 have x1:=x1 (by omega)
 rw [i64_in (1+x) (by omega)]
 have key:∀ (m k:Nat) (g:List Pm) (r:List D) (q N':Nat) (a es c i h),(k:Int)+m=1+x->N<=N'->Cu es i->All2 Pm.Is g r->g.length=k->(∀ x∈g,x.ty.cnt<=1)->zx E Q N r.length q (1+x) k a es c i h r q N':=by
  intro m
  induction m with
  | zero=>
    intro k g r q N' a es c i h hk hN' hcu hr hgl hgc
    have hrl:=hr.len
    refine vp _ _ _ _ _ _ _ _ _ _ _ _ _ _ _ (Br.dec (fun hlt=>by omega) fun _=>⟨⟨rfl,rfl⟩,⟨rfl,rfl⟩,⟨rfl,rfl⟩,fun a2 N3 hN3 _=>⟨zAO,fun N4 hN4=>hQ g _ _ _ _ _ _ _ _ _ (by omega) hcu ⟨by omega,hr⟩ (by omega) (by omega) hgc⟩⟩)
  | succ m ih=>
    intro k g r q N' a es c i h hk hN' hcu hr hgl hgc
    have hrl:=hr.len
    refine vp _ _ _ _ _ _ _ _ _ _ _ _ _ _ _ (Br.dec (fun _ N3 hN3=>?_) fun hlt=>by omega)
    have nm:∃ s,List.getD [D.lit (.string (bytes [120])),D.lit (.string (bytes [121])),D.lit (.string (bytes [110])),D.lit (.string (bytes [98]))] (0+(k:Int).toNat) default=D.lit (.string s)/\s.size<=4611686018427387904:=by
     have:k=0\/k=1\/k=2\/k=3:=by omega
     rcases this with rfl | rfl | rfl | rfl<;>exact ⟨_,rfl,by decide⟩
    obtain ⟨s,hs,hsz⟩:=nm
    have next:∀ (t:Ty) (y:D) (b:Bool) (a es c i h) (N'' c2:Nat),t.Is y->t.cnt<=1->N<=N''->Cu es i->zx E Q N (r++[D.ag [.lit (.string s),y.cell 0,y.cell 1,.lit (.bool b)]]).length c2 (1+x) (IntKind.i64.wrap ((k:Int)+1)) a es c i h (r++[D.ag [.lit (.string s),y.cell 0,y.cell 1,.lit (.bool b)]]) c2 N'':=fun t y b a es c i h N'' c2 hy ht hN hcu=>by
     rw [i64_in ((k:Int)+1) (by omega)]
     have:=ih (k+1) (g++[⟨s,t,b⟩]) _ c2 N'' a es c i h (by omega) hN hcu (hr.snoc (t:=(⟨s,t,b⟩:Pm)) ⟨_,_,rfl,hsz,Ty.is_cells hy⟩) (by simp [hgl]) (fun z hz=>by
      rcases oL.1 hz with hz | hz
      ·exact hgc z hz
      ·rw [o4] at hz;subst hz;exact ht)
     exact this
    have bnd:∀ z:D,zA r [z] 56:=fun z=>by unfold zA;rw [oK];simp only [oH,oN];omega
    refine wl N3 _ fun y N4 hN4 hy _ _ _=>Br.beq (fun _ N5 hN5=>?_) fun _=>⟨⟨by omega,by omega,by omega⟩,by omega,s,hs,fun N5 hN5=>?_⟩
    ·refine w7 N5 _ fun y N6 hN6 hy _ _ _=>⟨⟨by omega,by omega,by omega⟩,by omega,s,hs,fun N7 hN7=>?_⟩
     exact zER hcu 2 (by omega) a c h N7 _ fun b a' es' c' i' h' N8 hN8 hc' _ _=>⟨⟨rfl,rfl⟩,bnd _,fun c2=>next tBool y b _ _ _ _ _ _ _ hy (by simp [tBool,Ty.cnt,zO]) (by omega) hc'⟩
    ·exact zER hcu 2 (by omega) a c h N5 _ fun b a' es' c' i' h' N8 hN8 hc' _ _=>⟨⟨rfl,rfl⟩,bnd _,fun c2=>next tInt y b _ _ _ _ _ _ _ hy (by simp [tInt,Ty.cnt,zO]) (by omega) hc'⟩
 exact key (1+x).toNat 0 [] [] 0 N2 a' es' c' i' h' (by omega) (by omega) hc' rfl rfl (by simp)
/-- arguments -/
theorem zNs {g:List Pm} {es0:List D} (hg:Pms g es0) (hgl:g.length<=1000000) (a0:Option Addr) (c0:Nat) {es:List D} {i:Int} (hcu:Cu es i) (a:Option Addr) (c:Nat) (h:Int) (N:Nat) (Q:QT [.row 3 0,.sl 0,.int .i64,.int .i64])
  (hQ:∀ ns c1 a' es' c' i' h' N',N<=N'->Cu es' i'->ns.length=g.length->Q (zI ns) c1 a' es' c' i' h' N'):BCalls prog 60 [.row 3 0,.sl 0,.int .i64,.int .i64] [.pb 0 0 0 0,.sv a0 4 es0 c0] [.var [.sv a 0 es c,.int .i64 i,.int .i64 h]] N Q:=by
 have hl:=hg.all.len
 refine zAj N a0 es0 c0 a es c i h Q fun E _ _=>?_
 refine up hg.all hg.len (fun k xs=>∀ (ns:List Int) (q N':Nat) (a es c i h),N<=N'->Cu es i->ns.length=k->yJ E Q N a0 es0 c0 (zI ns).length q k a es c i h (zI ns) q N') ?_ ?_ [] 0 N a es c i h (oF _) hcu rfl
 ·intro k hlt hk ns q N' a es c i h hN' hcu hnl
  refine tX _ _ _ _ _ _ _ _ _ _ _ _ _ _ _ _ _ ?_
  rw [hlt]
  exact ⟨zAO,⟨rfl,rfl⟩,fun N4 hN4=>hQ ns _ _ _ _ _ _ _ (by omega) hcu (by omega)⟩
 ·intro k x xs hat _ ih ns q N' a es c i h hN' hcu hnl
  have hb:=hat.b
  have hnl2:=z9 ns
  obtain ⟨t0,t1,hd',hnm,hty⟩:=hat.r
  obtain ⟨b,fs,kk,ht,_,_⟩:∃ b fs kk,(D.ag [t0,t1])=.ag [.lit (.int .i64 x.ty.k),.sl b 2 fs kk]/\True/\True:=by
   cases hx:x.ty with
   | mk k l=>rw [hx] at hty;obtain ⟨b,fs,kk,h1,_,_⟩:=Ty.is_mk.1 hty;exact ⟨b,fs,kk,h1,trivial,trivial⟩
  obtain ⟨rfl,rfl⟩:t0=.lit (.int .i64 x.ty.k)/\t1=.sl b 2 fs kk:=by simpa using ht
  refine tX _ _ _ _ _ _ _ _ _ _ _ _ _ _ _ _ _ ?_
  rw [hat.lt]
  simp only [oG]
  rw [hd']
  refine fun N1 hN1=>?_
  refine zMH (l:=[0,1,2,3,10006,500]) hcu (by decide) (by decide) a c h 6 6 N1 _ fun s a' es' c' i' h' N2 hN2 hc' _ _ _ _=>⟨⟨by omega,by omega⟩,x.ty.k,rfl,?_⟩
  have next:∀ (m:Int) (c2:Nat),yJ E Q N a0 es0 c0 (zI ns++[D.lit (.int .i64 m)]).length c2 (IntKind.i64.wrap ((k:Int)+1)) a' es' c' i' h' (zI ns++[D.lit (.int .i64 m)]) c2 N2:=fun m c2=>by
   have e:zI ns++[D.lit (.int .i64 m)]=zI (ns++[m]):=by simp [zI]
   rw [e,hat.w]
   exact ih (ns++[m]) c2 N2 _ _ _ _ _ (by omega) hc' (by simp [hnl])
  have bnd:∀ z:D,zA (zI ns) [z] 8:=fun z=>by unfold zA;rw [oK];simp only [oH,oN];omega
  exact Br.beq (fun _=>⟨by decide,⟨by trivial,by trivial⟩,bnd _,fun c2=>next _ c2⟩) fun _=>⟨⟨by trivial,by trivial⟩,bnd _,fun c2=>next _ c2⟩
end Go.Proofs.YtkdjhkfiolhkiaaGreat
set_option maxRecDepth 100000
namespace Go.Proofs.YtkdjhkfiolhkiaaGreat
open Go Go.Proofs Go.Proofs.Tryz Go.IntWalk
/-- a base type -/
def Bs (t:Ty):Prop:=t=tInt\/t=tBool
theorem Bs.wf {t:Ty} (h:Bs t):Wf t:=by rcases h with rfl | rfl;exact .int;exact .bool
theorem Bs.cnt {t:Ty} (h:Bs t):t.cnt=1:=by rcases h with rfl | rfl<;>rfl
theorem Bs.cell {t:Ty} {d:D} (h:Bs t) (hd:t.Is d):∃ n:Int,d.cell 0=.lit (.int .i64 n):=by
 rcases h with rfl | rfl<;>obtain ⟨b,fs,k,rfl,_,_⟩:=Ty.is_mk.1 hd<;>exact ⟨_,rfl⟩
theorem zMy {f:Nat} (h:1<=f):3+3*4 ^ f<=4 ^ (f+1)/\4<=4 ^ f:=by
 have h1:4 ^ 1<=4 ^ f:=Nat.pow_le_pow_right (by decide) h
 rw [Nat.pow_succ]
 omega
theorem zPR {f:Nat} (h:f<=10):4 ^ (f+1)<=1073741824:=od (Nat.pow_le_pow_right (by decide) (by omega:f+1<=11)) (by decide)
theorem zQq {s a b c d:ByteArray} (h:s∈[a,b,c,d]) (ha:a.size<=1000) (hb:b.size<=1000) (hc:c.size<=1000) (hd:d.size<=1000):s.size<=1000:=by
 simp only [oJ,nk,mq] at h
 rcases h with rfl | rfl | rfl | rfl<;>assumption
theorem zP6:∀ (f:Nat),f<=10->∀ {g:List Tg} {es0:List D} (_:Ctx g es0) (_:g.length+f<=1000) {t:Ty} (_:Bs t) {d:D} (_:t.Is d) (n:Int) (_:n<=f) (a0:Option Addr) (c0:Nat) {es:List D} {i:Int} (_:Cu es i) (a:Option Addr) (c:Nat) (h:Int) (N:Nat) (Q:QT [.ag 9,.sl 0,.int .i64,.int .i64])
  (_:∀ d' a' es' c' i' h' N',N<=N'->Cu es' i'->Some (4 ^ (f+1)) d'->Q d' a' es' c' i' h' N'),BCalls prog 129 [.ag 9,.sl 0,.int .i64,.int .i64] [.pb 0 0 0 0,.sv a0 4 es0 c0,.dg 2 d,.int .i64 n] [.var [.sv a 0 es c,.int .i64 i,.int .i64 h]] N Q:=by
 intro f
 induction f with
 | zero=>
   intro _ g es0 ctx hg t hb d hd n hn a0 c0 es i hcu a c h N Q hQ
   have J:∀ (E:Env) a es c i h N',N<=N'->Cu es i->zu E Q N a0 es0 c0 n a es c i h d 0 (bytes []) (bytes []) 0 0 none [] 0 0 none [] 0 none [] 0 N':=fun E a es c i h N' hN' hcu=>by
    refine sN _ _ _ _ _ _ _ _ _ _ _ _ _ _ _ _ _ _ _ _ _ _ _ _ _ _ _ _ _ (Br.dec (fun _ N1 hN1=>zMB hb.wf (by rw [hb.cnt];omega) hd 0 hcu a c h N1 _ fun x a' es' c' i' h' N2 hN2 hc' hx _ _ _=>⟨zAO,fun N3 hN3=>hQ _ _ _ _ _ _ _ (by omega) hc' (hx.mono (by rw [hb.cnt];decide))⟩) fun hlt=>by omega)
   have K:∀ (E:Env) a es c i h N1,N<=N1->Cu es i->BCalls prog 157 [.ag 9,.bool,.sl 0,.int .i64,.int .i64] [.pb 0 0 0 0,.sv a0 4 es0 c0,.dg 2 d,.int .i64 0] [.var [.sv a 0 es c,.int .i64 i,.int .i64 h]] N1 (fun x b a es c i h N4=>N1<=N4->Bel N4 x->Bel N4 (D.sl a 0 es c)->Br b (px E [.var [.sv none 0 [] 0,.int .i64 0,.int .i64 0]]/\∀ N5,N4<=N5->Q x a es c i h N5) (zu E Q N a0 es0 c0 n a es c i h d 0 (bytes []) (bytes []) 0 0 none [] 0 0 none [] 0 none [] 0 N4)):=fun E a es c i h N1 hN1 hcu=>
    zLY ctx (by omega) hd 0 a0 c0 hcu a c h N1 _ fun x b a' es' c' i' h' N2 hN2 hc' hx _ _ _=>Br.of (fun _=>⟨zAO,fun N3 hN3=>hQ _ _ _ _ _ _ _ (by omega) hc' (hx.mono (by decide))⟩) fun _=>J E _ _ _ _ _ N2 (by omega) hc'
   exact tY N a0 es0 c0 d n a es c i h Q fun E _ _ _ N1 hN1=>zER hcu 3 (by omega) a c h N1 _ fun b a' es' c' i' h' N2 hN2 hc' _ _=>Br.not (fun _ N3 hN3=>K E _ _ _ _ _ N3 (by omega) hc') fun _=>Br.dec (fun _ N3 hN3=>K E _ _ _ _ _ N3 (by omega) hc') fun _=>J E _ _ _ _ _ N2 (by omega) hc'
 | succ f ihf=>
   intro hf10 g es0 ctx hg t hb d hd n hn a0 c0 es i hcu a c h N Q hQ
   have ps:=zMy (f:=f+1) (by omega)
   have ple:=zPR (f:=f) (by omega)
   have ih:=@ihf (by omega)
   have J:∀ (E:Env) a es c i h N',N<=N'->Cu es i->zu E Q N a0 es0 c0 n a es c i h d 0 (bytes []) (bytes []) 0 0 none [] 0 0 none [] 0 none [] 0 N':=fun E a es c i h N' hN' hcu=>by
    refine sN _ _ _ _ _ _ _ _ _ _ _ _ _ _ _ _ _ _ _ _ _ _ _ _ _ _ _ _ _ (Br.dec (fun _ N1 hN1=>zMB hb.wf (by rw [hb.cnt];omega) hd 0 hcu a c h N1 _ fun x a' es' c' i' h' N2 hN2 hc' hx _ _ _=>⟨zAO,fun N3 hN3=>hQ _ _ _ _ _ _ _ (by omega) hc' (hx.mono (by rw [hb.cnt];omega))⟩) fun hlt N1 hN1=>?_)
    rw [i64_in (n - 1) (by omega)]
    obtain ⟨kk,hkk⟩:=hb.cell hd
    refine wl N1 _ fun y N2 hN2 hy _ _ _ N3 hN3=>tO hcu 5 (by omega) a c h N3 _ fun x a1 es1 c1 i1 h1 N4 hN4 hc1 _ _ _ _ _=>Br.beq (fun _ N5 hN5=>?_) fun _=>Br.beq (fun _ N5 hN5=>?_) fun _=>⟨kk,hkk,Br.beq (fun _ N5 hN5=>?_) fun _ N5 hN5=>?_⟩
    ·refine w7 N5 _ fun z N6 hN6 hz _ _ _ N7 hN7=>?_
     refine ih ctx (by omega) (.inr rfl) hz _ (by omega) a0 c0 hc1 a1 c1 h1 N7 _ fun x1 a2 es2 c2 i2 h2 N8 hN8 hc2 hx1 _ _ _ N9 hN9=>?_
     refine ih ctx (by omega) hb hd _ (by omega) a0 c0 hc2 a2 c2 h2 N9 _ fun x2 a3 es3 c3 i3 h3 N10 hN10 hc3 hx2 _ _ _ N11 hN11=>?_
     refine ih ctx (by omega) hb hd _ (by omega) a0 c0 hc3 a3 c3 h3 N11 _ fun x3 a4 es4 c4 i4 h4 N12 hN12 hc4 hx3 _ _ _=>⟨⟨rfl,rfl⟩,fun a5 _ N13 hN13 hbel=>?_⟩
     refine zNo 5 ple (es:=[x1,x2,x3]) (by simp only [oJ,nk,mq];rintro _ (rfl | rfl | rfl)<;>assumption) (by simp) a5 3 N13 _ fun u N14 hN14 hu ho _=>⟨wS hbel ho,fun _=>⟨zAO,fun N15 hN15=>hQ _ _ _ _ _ _ _ (by omega) hc4 (hu.mono (by simp only [oH,oN];omega))⟩⟩
    ·refine zLK (l:=[bytes [120],bytes [117],bytes [118],bytes [121]]) hc1 (by decide) (by decide) a1 c1 h1 4 4 N5 _ fun s a2 es2 c2 i2 h2 N6 hN6 hc2 hs _ _ _ N7 hN7=>?_
     have hs:=zQq hs (by decide) (by decide) (by decide) (by decide)
     refine ih ctx (by omega) (.inl rfl) hy _ (by omega) a0 c0 hc2 a2 c2 h2 N7 _ fun x1 a3 es3 c3 i3 h3 N8 hN8 hc3 hx1 _ _ _ N9 hN9=>?_
     refine yN ctx (by omega) a0 c0 (s:=s) (by omega) hy 0 N9 _ fun a9 es9 c9 N10 hN10 ctx2 _ _ N11 hN11=>?_
     refine ih ctx2 (by simp;omega) hb hd _ (by omega) a9 c9 hc3 a3 c3 h3 N11 _ fun x2 a4 es4 c4 i4 h4 N12 hN12 hc4 hx2 _ _ _ N13 hN13=>?_
     refine zQG (by omega) ple hx1 hx2 N13 _ fun u N14 hN14 hu _ _=>⟨zAO,fun N15 hN15=>hQ _ _ _ _ _ _ _ (by omega) hc4 (hu.mono (by omega))⟩
    ·refine zLK (l:=[bytes [43],bytes [42],bytes [45]]) hc1 (by decide) (by decide) a1 c1 h1 3 3 N5 _ fun s a2 es2 c2 i2 h2 N6 hN6 hc2 hs _ _ _ N7 hN7=>?_
     have hs:s.size<=1000:=by
      simp only [oJ,nk,mq] at hs
      rcases hs with rfl | rfl | rfl<;>decide
     refine ih ctx (by omega) (.inl rfl) hy _ (by omega) a0 c0 hc2 a2 c2 h2 N7 _ fun x1 a3 es3 c3 i3 h3 N8 hN8 hc3 hx1 _ _ _ N9 hN9=>?_
     refine ih ctx (by omega) (.inl rfl) hy _ (by omega) a0 c0 hc3 a3 c3 h3 N9 _ fun x2 a4 es4 c4 i4 h4 N10 hN10 hc4 hx2 _ _ _=>⟨⟨rfl,rfl⟩,fun a5 _ N13 hN13 hbel=>?_⟩
     refine zPu (by omega) ple (es:=[x1,x2]) (by simp only [oJ,nk,mq];rintro _ (rfl | rfl)<;>assumption) (by simp) a5 2 N13 _ fun u N14 hN14 hu ho _=>⟨wS hbel ho,fun _=>⟨zAO,fun N15 hN15=>hQ _ _ _ _ _ _ _ (by omega) hc4 (hu.mono (by simp only [oH,oN];omega))⟩⟩
    ·refine zER hc1 4 (by omega) a1 c1 h1 N5 _ fun b a2 es2 c2 i2 h2 N6 hN6 hc2 _ _=>Br.of (fun _ N7 hN7=>?_) fun _ N7 hN7=>?_
     ·refine ih ctx (by omega) hb hd _ (by omega) a0 c0 hc2 a2 c2 h2 N7 _ fun x1 a3 es3 c3 i3 h3 N8 hN8 hc3 hx1 _ _ _=>⟨⟨rfl,rfl⟩,fun a5 _ N13 hN13 hbel=>?_⟩
      refine zPu (by decide) ple (es:=[x1]) (by simp only [oJ,nk,mq];rintro _ rfl;assumption) (by simp) a5 1 N13 _ fun u N14 hN14 hu ho _=>⟨wS hbel ho,fun _=>⟨zAO,fun N15 hN15=>hQ _ _ _ _ _ _ _ (by omega) hc3 (hu.mono (by simp only [oH,oN];omega))⟩⟩
     ·refine zLK (l:=[bytes [61],bytes [60]]) hc2 (by decide) (by decide) a2 c2 h2 2 2 N7 _ fun s a3 es3 c3 i3 h3 N8 hN8 hc3 hs _ _ _ N9 hN9=>?_
      have hs:s.size<=1000:=by
       simp only [oJ,nk,mq] at hs
       rcases hs with rfl | rfl<;>decide
      refine ih ctx (by omega) (.inl rfl) hy _ (by omega) a0 c0 hc3 a3 c3 h3 N9 _ fun x1 a4 es4 c4 i4 h4 N10 hN10 hc4 hx1 _ _ _ N11 hN11=>?_
      refine ih ctx (by omega) (.inl rfl) hy _ (by omega) a0 c0 hc4 a4 c4 h4 N11 _ fun x2 a5 es5 c5 i5 h5 N12 hN12 hc5 hx2 _ _ _=>⟨⟨rfl,rfl⟩,fun a6 _ N13 hN13 hbel=>?_⟩
      refine zPu (by omega) ple (es:=[x1,x2]) (by simp only [oJ,nk,mq];rintro _ (rfl | rfl)<;>assumption) (by simp) a6 2 N13 _ fun u N14 hN14 hu ho _=>⟨wS hbel ho,fun _=>⟨zAO,fun N15 hN15=>hQ _ _ _ _ _ _ _ (by omega) hc5 (hu.mono (by simp only [oH,oN];omega))⟩⟩
   have K:∀ (E:Env) a es c i h N1,N<=N1->Cu es i->BCalls prog 157 [.ag 9,.bool,.sl 0,.int .i64,.int .i64] [.pb 0 0 0 0,.sv a0 4 es0 c0,.dg 2 d,.int .i64 0] [.var [.sv a 0 es c,.int .i64 i,.int .i64 h]] N1 (fun x b a es c i h N4=>N1<=N4->Bel N4 x->Bel N4 (D.sl a 0 es c)->Br b (px E [.var [.sv none 0 [] 0,.int .i64 0,.int .i64 0]]/\∀ N5,N4<=N5->Q x a es c i h N5) (zu E Q N a0 es0 c0 n a es c i h d 0 (bytes []) (bytes []) 0 0 none [] 0 0 none [] 0 none [] 0 N4)):=fun E a es c i h N1 hN1 hcu=>
    zLY ctx (by omega) hd 0 a0 c0 hcu a c h N1 _ fun x b a' es' c' i' h' N2 hN2 hc' hx _ _ _=>Br.of (fun _=>⟨zAO,fun N3 hN3=>hQ _ _ _ _ _ _ _ (by omega) hc' (hx.mono (by omega))⟩) fun _=>J E _ _ _ _ _ N2 (by omega) hc'
   exact tY N a0 es0 c0 d n a es c i h Q fun E _ _ _ N1 hN1=>zER hcu 3 (by omega) a c h N1 _ fun b a' es' c' i' h' N2 hN2 hc' _ _=>Br.not (fun _ N3 hN3=>K E _ _ _ _ _ N3 (by omega) hc') fun _=>Br.dec (fun _ N3 hN3=>K E _ _ _ _ _ N3 (by omega) hc') fun _=>J E _ _ _ _ _ N2 (by omega) hc'
/-- parameters and a body -/
theorem zPf {es:List D} {i:Int} (hcu:Cu es i) (a:Option Addr) (c:Nat) (h:Int) (N:Nat) (Q:QT [.sl 4,.ag 9,.sl 0,.int .i64,.int .i64])
  (hQ:∀ g a1 e1 c1 d a' es' c' i' h' N',N<=N'->Cu es' i'->Pms g e1->1<=g.length->g.length<=4->(∀ x∈g,x.ty.cnt<=1)->Some 4096 d->Q a1 e1 c1 d a' es' c' i' h' N'):BCalls prog 59 [.sl 4,.ag 9,.sl 0,.int .i64,.int .i64] [.pb 0 0 0 0] [.var [.sv a 0 es c,.int .i64 i,.int .i64 h]] N Q:=by
 refine zAw N a es c i h Q fun E _ N1 hN1=>zNE hcu a c h N1 _ fun g a1 e1 c1 a2 es2 c2 i2 h2 N2 hN2 hc2 hg g1 g4 gc _ _ _ N3 hN3=>?_
 refine tB hg (by omega) a1 c1 N3 _ fun a3 e3 c3 N4 hN4 ctx _ _ N5 hN5=>wl N5 _ fun y N6 hN6 hy _ _ _ N7 hN7=>?_
 refine tO hc2 4 (by omega) a2 c2 h2 N7 _ fun x a4 es4 c4 i4 h4 N8 hN8 hc4 x0 x1 _ _ _ N9 hN9=>?_
 have x1:=x1 (by omega)
 rw [i64_in (2+x) (by omega)]
 exact zP6 5 (by omega) ctx (by rw [vS];omega) (.inl rfl) hy (2+x) (by omega) a3 c3 hc4 a4 c4 h4 N9 _ fun d a5 es5 c5 i5 h5 N10 hN10 hc5 hd _ _ _=>⟨zAO,fun N11 hN11=>hQ g _ _ _ _ _ _ _ _ _ _ (by omega) hc5 hg g1 g4 gc (hd.mono (by decide))⟩
theorem zP8 {g:List Pm} {e1:List D} (hg:Pms g e1) (hgl:g.length<=1000) (hgc:∀ x∈g,x.ty.cnt<=1) (a1:Option Addr) (c1:Nat) {es:List D} {i:Int} (hcu:Cu es i) (a:Option Addr) (c:Nat) (h:Int) (N:Nat) (Q:QT [.sl 0,.sl 0,.int .i64,.int .i64])
  (hQ:∀ ns a2 c2 a' es' c' i' h' N',N<=N'->Cu es' i'->ns.length<=g.length->Q a2 (zI ns) c2 a' es' c' i' h' N'):BCalls prog 79 [.sl 0,.sl 0,.int .i64,.int .i64] [.pb 0 0 0 0,.sv a1 4 e1 c1] [.var [.sv a 0 es c,.int .i64 i,.int .i64 h]] N Q:=by
 have n1:=uB g
 refine zBk N a1 e1 c1 a es c i h Q fun E _ _ N1 hN1=>yK hg (by omega) (fun x hx=>by have:=hgc x hx;omega) a1 c1 N1 _ fun a3 e3 c3 a4 e4 c4 N2 hN2 h3 h4 _ _ _ N3 hN3=>?_
 exact zNs h3 (by omega) a3 c3 hcu a c h N3 _ fun ns c5 a6 es6 c6 i6 h6 N4 hN4 hc6 hnl _ _ _=>⟨⟨rfl,rfl⟩,⟨rfl,rfl⟩,fun a7 N5 hN5 _=>⟨zAO,fun N6 hN6=>hQ ns _ _ _ _ _ _ _ _ (by omega) hc6 (by omega)⟩⟩
/-- what FnSpecialized draws -/
theorem zJ8 {es:List D} (hb:∀ d∈es,∃ n:Int,d=.lit (.int .u8 n)) (hl:es.length<=1073741824) (a:Option Addr) (c:Nat) (N:Nat) (Q:QT [.sl 4,.ag 9,.sl 0,.sl 0])
  (hQ:∀ g a1 e1 c1 d ns a2 c2 ms a3 c3 N',N<=N'->Pms g e1->g.length<=4->(∀ x∈g,x.ty.cnt<=1)->Some 4096 d->ns.length<=10->ms.length<=10->Q a1 e1 c1 d a2 (zI ns) c2 a3 (zI ms) c3 N'):ACalls prog 23 [.sl 4,.ag 9,.sl 0,.sl 0] [.sv a 0 es c] N Q:=by
 refine tN N a es c Q fun _ N1 hN1=>zQQ hb hl a c N1 _ fun h N2 hN2 hcu _ N3 hN3=>?_
 refine zPf hcu a c h N3 _ fun g a1 e1 c1 d a2 es2 c2 i2 h2 N4 hN4 hc2 hg g1 g4 gc hd _ _ _ _ N5 hN5=>?_
 refine zP8 hg (by omega) gc a1 c1 hc2 a2 c2 h2 N5 _ fun ns a3 c3 a4 es4 c4 i4 h4 N6 hN6 hc4 hns _ _ _ N7 hN7=>?_
 have n2:=xM g
 refine yK hg (by omega) (fun x hx=>by have:=gc x hx;omega) a1 c1 N7 _ fun a5 e5 c5 a6 e6 c6 N8 hN8 h5 h6 _ _ _ N9 hN9=>?_
 refine zNs h6 (by omega) a6 c6 hc4 a4 c4 h4 N9 _ fun ms c7 a8 es8 c8 i8 h8 N10 hN10 hc8 hms _ _ _ N11 hN11=>?_
 have hml:=z9 ms
 have e:zI ms++[D.lit (.int .i64 0)]=zI (ms++[0]):=by simp [zI]
 refine zER hc8 12 (by omega) a8 c8 h8 N11 _ fun b a9 es9 c9 i9 h9 N12 hN12 hc9 _ _=>Br.of (fun _=>⟨⟨rfl,rfl⟩,by unfold zA;rw [oK];simp only [oH,oN];omega,fun c10=>⟨⟨rfl,rfl⟩,⟨rfl,rfl⟩,⟨rfl,rfl⟩,⟨rfl,rfl⟩,fun a10 N13 hN13 _ N14 hN14=>?_⟩⟩) fun _=>⟨⟨rfl,rfl⟩,⟨rfl,rfl⟩,⟨rfl,rfl⟩,⟨rfl,rfl⟩,fun a10 N13 hN13 _ N14 hN14=>hQ g _ _ _ _ ns _ _ ms _ _ _ (by omega) hg g4 gc hd (by omega) (by omega)⟩
 rw [e]
 exact hQ g _ _ _ _ ns _ _ (ms++[0]) _ _ _ (by omega) hg g4 gc hd (by omega) (by simp;omega)
end Go.Proofs.YtkdjhkfiolhkiaaGreat
set_option maxRecDepth 100000
namespace Go.Proofs.YtkdjhkfiolhkiaaGreat
open Go Go.Proofs Go.Proofs.Tryz Go.IntWalk
theorem rx:∀ (t:Tm) (d:D),t.Is d->t.cnt<=1073741824->tz 20 [.dg 9 d] t.sz:=by
 refine Tm.ind fun k nm ot n0 ty re l ih d hd hc N Q hQ=>?_
 obtain ⟨t0,t1,r0,r1,a,es,c,rfl,hh,hlen,hes⟩:=Tm.is_mk.1 hd
 simp only [Tm.cnt] at hc
 have hsl:=pA l
 refine zGK N _ Q fun _=>?_
 refine up hes hlen (fun i xs=>∀ (m:Nat) (N':Nat),N<=N'->m+xT xs=1+xT l->wO Q N m i (.ag [.lit (.int .i64 k),.lit (.string nm),.lit (.string ot),.lit (.int .i64 n0),t0,t1,r0,r1,.sl a 9 es c]) N') ?_ ?_ 1 N (oF _) rfl
 ·intro i hlt _ m N' hN' hm
  refine sZ _ _ _ _ _ _ ⟨_,_,_,rfl,?_⟩
  simp only [xT] at hm
  rw [hlt]
  exact fun N2 hN2=>Qi (hQ _ (by omega)) (by simp only [Tm.sz];omega)
 ·intro i x xs hat _ ih2 m N' hN' hm
  have hb:=hat.b
  have hxc:=zP hat.m
  simp only [xT] at hm
  refine sZ _ _ _ _ _ _ ⟨_,_,_,rfl,?_⟩
  rw [hat.lt,hat.w,oG]
  refine ⟨_,_,_,rfl,⟨by omega,by omega⟩,fun N1 hN1=>ih x hat.m _ hat.r (by omega) N1 _ fun N2 hN2 _=>?_⟩
  rw [i64_in _ (by omega)]
  have:=ih2 (m+x.sz) N2 (by omega) (by omega)
  simpa using this
theorem zEF (n:Int) (ns:List Int):zI (n::ns)=.lit (.int .i64 n)::zI ns:=rfl
theorem rA (ns:List Int) (n:Int):zI ns++[D.lit (.int .i64 n)]=zI (ns++[n]):=by simp [zI]
theorem zBr (ns:List Int) (h:ns.length<=1000000) (n:Int):zA (zI ns) [.lit (.int .i64 n)] 8:=by
 unfold zA;rw [oK,z9];simp only [oH,oN];omega
theorem zBl {g:List Pm} {ns ms:List Int} (h:ns.length≠(x8 g).length\/ms.length≠(zR g).length):u7 g ns ms=none:=by unfold u7;rw [if_neg (by omega)]
theorem zHF {g:List Pm} {ns ms:List Int} (h1:ns.length=(x8 g).length) (h2:ms.length=(zR g).length):u7 g ns ms=some (xn g ns ms):=by unfold u7;rw [if_pos ⟨h1,h2⟩]
theorem zBH {g:List Pm} {es:List D} (h:Pms g es) (hg:g.length<=1000) (hgc:∀ x∈g,x.ty.cnt<=1) (ns ms:List Int) (a a2 a3:Option Addr) (c c2 c3:Nat) (N:Nat) (Q:QT [.sl 0,.bool])
  (hQ:∀ a' c' N',N<=N'->Q a' (zI ((u7 g ns ms).getD [])) c' (u7 g ns ms).isSome N'):ACalls prog 27 [.sl 0,.bool] [.sv a 4 es c,.sv a2 0 (zI ns) c2,.sv a3 0 (zI ms) c3] N Q:=by
 have hl:=h.all.len
 have hnl:=z9 ns
 have hml:=z9 ms
 have n1:=uB g
 have n2:=xM g
 refine zBf N a es c a2 _ c2 a3 _ c3 Q fun _ _ _ N1 hN1=>yK h (by omega) (fun x hx=>by have:=hgc x hx;omega) a c N1 _ fun b1 f1 k1 b2 f2 k2 N2 hN2 h1 h2 _ _ _=>?_
 have l1:=h1.all.len
 have l2:=h2.all.len
 refine Br.bne (fun hne=>⟨⟨rfl,rfl⟩,⟨rfl,rfl⟩,fun a4 N3 hN3 _ N4 hN4=>?_⟩) fun e1=>Br.bne (fun hne=>⟨⟨rfl,rfl⟩,⟨rfl,rfl⟩,fun a4 N3 hN3 _ N4 hN4=>?_⟩) fun e2=>?_
 ·have:=hQ a4 0 N4 (by omega)
  rw [zBl (.inl (by omega))] at this
  exact this
 ·have:=hQ a4 0 N4 (by omega)
  rw [zBl (.inr (by omega))] at this
  exact this
 have e1:ns.length=(x8 g).length:=by omega
 have e2:ms.length=(zR g).length:=by omega
 rw [zHF e1 e2] at hQ
 refine up h.all h.len (fun k xs=>∀ (p q:Nat) (don:List Int) (qq N':Nat),N<=N'->p<=ns.length->q<=ms.length->(ns.drop p).length=(x8 xs).length->(ms.drop q).length=(zR xs).length->don.length=k->don++xn xs (ns.drop p) (ms.drop q)=xn g ns ms ->
  yL Q N a es c a2 (zI ns) c2 a3 (zI ms) c3 (zI don).length qq p q k (zI don) qq N') ?_ ?_ 0 0 [] 0 N2 (by omega) (by omega) (by omega) (by simpa using e1) (by simpa using e2) rfl rfl
 ·intro k hlt hk p q don qq N' hN' hp hq _ _ hdl hw
  refine uF _ _ _ _ _ _ _ _ _ _ _ _ _ _ _ _ _ _ _ ?_
  rw [hlt]
  simp only [xn,nD] at hw
  subst hw
  exact ⟨⟨rfl,rfl⟩,⟨rfl,rfl⟩,⟨rfl,rfl⟩,fun a4 N3 hN3 _ N4 hN4=>hQ a4 _ N4 (by omega)⟩
 ·intro k x xs hat _ ih p q don qq N' hN' hp hq hpl hql hdl hw
  have hb:=hat.b
  obtain ⟨t0,t1,hd',hnm,hty⟩:=hat.r
  refine uF _ _ _ _ _ _ _ _ _ _ _ _ _ _ _ _ _ _ _ ?_
  rw [hat.lt]
  simp only [oG]
  rw [hd']
  rw [nK] at hpl hql
  refine ⟨⟨by omega,by omega⟩,x.dy,rfl,Br.of (fun hdy=>?_) fun hdy=>?_⟩
  ·have f1:x8 (x::xs)=x8 xs:=by simp [x8,hdy]
   have f2:zR (x::xs)=x::zR xs:=by simp [zR,hdy]
   rw [f1] at hpl
   rw [f2,oH] at hql
   have hlt:q<ms.length:=by omega
   have hdr:ms.drop q=ms[q]::ms.drop (q+1):=by rw [nj]
   simp only [xn,hdy,nn] at hw
   rw [hdr,mG,nz] at hw
   refine ⟨⟨by omega,by omega⟩,ms[q],uc (oD hlt),⟨by trivial,by trivial⟩,zBr _ (by omega) _,fun c4=>?_⟩
   rw [rA,i64_in ((q:Int)+1) (by omega),hat.w]
   exact ih p (q+1) (don++[ms[q]]) c4 N' hN' hp (by omega) (by rw [nK];omega) (by rw [nK];omega) (by simp [hdl]) (by rw [<-hw];simp)
  ·have f1:x8 (x::xs)=x::x8 xs:=by simp [x8,hdy]
   have f2:zR (x::xs)=zR xs:=by simp [zR,hdy]
   rw [f1,oH] at hpl
   rw [f2] at hql
   have hlt:p<ns.length:=by omega
   have hdr:ns.drop p=ns[p]::ns.drop (p+1):=by rw [nj]
   simp only [xn,hdy,nX,o3] at hw
   rw [hdr,mG,nz] at hw
   refine ⟨⟨by omega,by omega⟩,ns[p],uc (oD hlt),⟨by trivial,by trivial⟩,zBr _ (by omega) _,fun c4=>?_⟩
   rw [rA,i64_in ((p:Int)+1) (by omega),hat.w]
   exact ih (p+1) q (don++[ns[p]]) c4 N' hN' (by omega) hq (by rw [nK];omega) (by rw [nK];omega) (by simp [hdl]) (by rw [<-hw];simp)
theorem zBJ {g:List Pm} {es:List D} (h:Pms g es) (hg:g.length<=1000) (hgc:∀ x∈g,x.ty.cnt<=1) (ns ms:List Int) (a a2 a3:Option Addr) (c c2 c3:Nat) (N:Nat) (Q:QT [.sl 0,.bool])
  (hQ:∀ a' c' N',N<=N'->Q a' (zI ((u7 g ns ms).getD [])) c' (u7 g ns ms).isSome N'):ACalls prog 26 [.sl 0,.bool] [.sv a 4 es c,.sv a2 0 (zI ns) c2,.sv a3 0 (zI ms) c3] N Q:=by
 have hl:=h.all.len
 have hnl:=z9 ns
 have hml:=z9 ms
 have n1:=uB g
 have n2:=xM g
 refine zBO N a es c a2 _ c2 a3 _ c3 Q fun _ _ _ N1 hN1=>xz h (by omega) (fun x hx=>by have:=hgc x hx;omega) a c N1 _ fun b1 f1 k1 b2 f2 k2 N2 hN2 h1 h2 _ _ _=>?_
 have l1:=h1.all.len
 have l2:=h2.all.len
 refine Br.bne (fun hne N4 hN4=>?_) fun e1=>Br.bne (fun hne N4 hN4=>?_) fun e2=>?_
 ·have:=hQ none 0 N4 (by omega)
  rw [zBl (.inl (by omega))] at this
  exact this
 ·have:=hQ none 0 N4 (by omega)
  rw [zBl (.inr (by omega))] at this
  exact this
 have e1:ns.length=(x8 g).length:=by omega
 have e2:ms.length=(zR g).length:=by omega
 rw [zHF e1 e2] at hQ
 refine up h.all h.len (fun k xs=>∀ (ns' ms' don:List Int) (a2 a3:Option Addr) (c2 c3 qq N':Nat),N<=N'->ns'.length=(x8 xs).length->ms'.length=(zR xs).length->don.length=k->don++xn xs ns' ms'=xn g ns ms ->
  yP Q N a2 (zI ns') c2 a3 (zI ms') c3 (zI don).length qq a es c es.length k (zI don) qq N') ?_ ?_ ns ms [] a2 a3 c2 c3 0 N2 (by omega) e1 e2 rfl rfl
 ·intro k hlt hk ns' ms' don a2 a3 c2 c3 qq N' hN' _ _ hdl hw
  refine vw _ _ _ _ _ _ _ _ _ _ _ _ _ _ _ _ _ _ ?_
  rw [hlt]
  simp only [xn,nD] at hw
  subst hw
  exact ⟨⟨rfl,rfl⟩,⟨rfl,rfl⟩,⟨rfl,rfl⟩,fun a4 N3 hN3 _ N4 hN4=>hQ a4 _ N4 (by omega)⟩
 ·intro k x xs hat _ ih ns' ms' don a2 a3 c2 c3 qq N' hN' hpl hql hdl hw
  have hb:=hat.b
  obtain ⟨t0,t1,hd',hnm,hty⟩:=hat.r
  have hnl:=z9 ns'
  have hml:=z9 ms'
  refine vw _ _ _ _ _ _ _ _ _ _ _ _ _ _ _ _ _ _ ?_
  rw [hat.lt]
  simp only [oG]
  rw [hd']
  refine ⟨⟨by omega,by omega⟩,x.dy,rfl,Br.of (fun hdy=>?_) fun hdy=>?_⟩
  ·have f1:x8 (x::xs)=x8 xs:=by simp [x8,hdy]
   have f2:zR (x::xs)=x::zR xs:=by simp [zR,hdy]
   rw [f1] at hpl
   rw [f2,oH] at hql
   obtain ⟨m,ms',rfl⟩:∃ m ms2,ms'=m::ms2:=by cases ms' with
    | nil=>simp at hql
    | cons m ms'=>exact ⟨m,ms',rfl⟩
   simp only [xn,hdy,nn,mG,nz] at hw
   simp only [oH] at hql hml
   refine ⟨⟨by omega,by omega⟩,m,rfl,⟨by omega,by omega,by omega⟩,⟨by trivial,by trivial⟩,zBr _ (by omega) _,fun c4=>?_⟩
   rw [rA,hat.w,mS,zEF,List.drop_one,nz]
   exact ih ns' ms' (don++[m]) _ _ _ _ c4 N' hN' hpl (by omega) (by simp [hdl]) (by rw [<-hw];simp)
  ·have f1:x8 (x::xs)=x::x8 xs:=by simp [x8,hdy]
   have f2:zR (x::xs)=zR xs:=by simp [zR,hdy]
   rw [f1,oH] at hpl
   rw [f2] at hql
   obtain ⟨m,ns',rfl⟩:∃ m ns2,ns'=m::ns2:=by cases ns' with
    | nil=>simp at hpl
    | cons m ns'=>exact ⟨m,ns',rfl⟩
   simp only [xn,hdy,nX,o3,mG,nz] at hw
   simp only [oH] at hpl hnl
   refine ⟨⟨by omega,by omega⟩,m,rfl,⟨by omega,by omega,by omega⟩,⟨by trivial,by trivial⟩,zBr _ (by omega) _,fun c4=>?_⟩
   rw [rA,hat.w,mS,zEF,List.drop_one,nz]
   exact ih ns' ms' (don++[m]) _ _ _ _ c4 N' hN' (by omega) hql (by simp [hdl]) (by rw [<-hw];simp)
theorem zKp (l:List Int) (hl:l.length<=1073741824) (a b:Option Addr) (c c':Nat):wm 28 [.sv a 0 (zI l) c,.sv b 0 (zI l) c'] true:=fun N Q hQ=>by
 have hll:=z9 l
 refine zCz N a _ c b _ c' Q fun _ _=>Br.bne (fun h=>absurd rfl h) fun _=>?_
 refine up (zJz l) (by omega) (fun i xs=>∀ (N':Nat),N<=N'->xJ Q N a (zI l) c b (zI l) c' i N') ?_ ?_ N (oF _)
 ·intro i hlt hi N' hN'
  refine uf _ _ _ _ _ _ _ _ _ _ ?_
  rw [hlt]
  exact fun N2 hN2=>hQ _ (by omega)
 ·intro i x xs hat _ ih2 N' hN'
  have hb:=hat.b
  refine uf _ _ _ _ _ _ _ _ _ _ ?_
  rw [hat.lt,hat.w,oG]
  exact ⟨⟨by omega,by omega⟩,x,hat.r,⟨by omega,by omega⟩,x,hat.r,Br.bne (fun h=>absurd rfl h) fun _=>ih2 _ hN'⟩
theorem zLE {g:List Pm} {ns ms:List Int}:((u7 g ns ms).getD []).length<=g.length:=by
 unfold u7
 split
 ·simp [zEC]
 ·simp
theorem zBw {es:List D} (hb:∀ d∈es,∃ n:Int,d=.lit (.int .u8 n)) (a:Option Addr) (c:Nat) (N:Nat) :
  ACalls prog 4 [.bool] [.sv a 0 es c] N (fun r _=>r=true):=by
 refine ra N a es c _ fun hB N1 hN1=>zJ7 N1 a es c _ fun _ N2 hN2 _=>Br.dec (fun _ N3 _=>rfl) fun hlen N4 hN4=>?_
 refine zJ8 hb (by omega) a c N4 _ fun g a1 e1 c1 d ns a2 c2 ms a3 c3 N5 hN5 hg hgl hgc hd hnl hml _ _ _ _ _ N6 hN6=>?_
 obtain ⟨t,ht,htc⟩:=hd
 have gc2:∀ x∈g,x.ty.cnt<=1073741824:=fun x hx=>by have:=hgc x hx;omega
 refine qZ hg (by omega) gc2 ht (by omega) ns ms (by omega) (by omega) a1 a2 a3 c1 c2 c3 N6 _ fun N7 hN7 _ N8 hN8=>?_
 refine qE hg (by omega) gc2 ht (by omega) ns ms (by omega) (by omega) a1 a2 a3 c1 c2 c3 N8 _ fun N9 hN9 _ N10 hN10=>?_
 have hwl:=zLE (g:=g) (ns:=ns) (ms:=ms)
 refine zBJ hg (by omega) hgc ns ms a1 a2 a3 c1 c2 c3 N10 _ fun a4 c4 N11 hN11 _ _ N12 hN12=>?_
 refine zBH hg (by omega) hgc ns ms a1 a2 a3 c1 c2 c3 N12 _ fun a5 c5 N13 hN13 _ _=>?_
 refine Br.bne (fun h=>absurd rfl h) fun _=>Br.not (fun h=>by simp at h) fun _=>Br.not (fun h=>by simp at h) fun _ N17 hN17=>?_
 refine zKp _ (by omega) a4 a5 c4 c5 N17 _ fun N18 hN18 _=>Br.not (fun h=>by cases h) fun _ N20 hN20=>?_
 refine si hg (by omega) ht (by omega) _ (by omega) a1 a4 c1 c4 N20 _ fun N21 hN21 _ N22 hN22=>?_
 refine ud hg (by omega) gc2 ht (by omega) ns (by omega) a1 a2 c1 c2 N22 _ fun x N23 hN23 hx _ _ _=>?_
 refine Br.not (fun _ N24 _=>rfl) fun hres=>Br.not (fun _ N24 _=>rfl) fun hwh=>Br.not (fun _ N24 _=>rfl) fun hev=>?_
 have hsc:=qI g t ns
 cases hsp:yT g t ns with
 | none=>simp [tL,hsp] at hres
 | some y=>
   cases hw:u7 g ns ms with
   | none=>rw [hw] at hwh;cases hwh
   | some all=>
     rw [hw] at hev
     simp only [oZ] at hev
     rw [hsp] at hx hsc
     simp only [oZ] at hx hsc
     have er:tL g t ns ms=yj (zR g) y ms:=by simp [tL,hsp]
     rw [er] at hres ⊢
     have hv:=zKt (g:=g) (e:=t) (x:=y) (ns:=ns) (ms:=ms) (all:=all) (n:=(yj (zR g) y ms).1) (m:=(yj g t all).1) (by omega) hsp hw (by rw [<-hres]) (by rw [<-hev])
     simp only [oZ]
     refine Br.beq (fun _ N27 hN27=>?_) fun hne=>absurd hv.1 hne
     exact rx y x hx (by omega) N27 _ fun N28 hN28 _ N29 hN29=>rx t d ht (by omega) N29 _ fun N30 hN30 _ N31 hN31=>nY (by have:=hv.2;omega)
end Go.Proofs.YtkdjhkfiolhkiaaGreat
