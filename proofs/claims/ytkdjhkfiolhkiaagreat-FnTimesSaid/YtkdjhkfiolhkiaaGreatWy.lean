/- Values: what does not come late does not depend on what does; what is left of a body has the body's value. -/
import Derived.Test.YtkdjhkfiolhkiaaGreatWs
import Derived.Test.YtkdjhkfiolhkiaaGreatWe
import Derived.Test.YtkdjhkfiolhkiaaGreatWn
import Derived.Test.YtkdjhkfiolhkiaaGreatWg
import Derived.Test.YtkdjhkfiolhkiaaGreatWx
set_option linter.unusedVariables false
set_option linter.unusedSimpArgs false
namespace Go.Proofs.YtkdjhkfiolhkiaaGreat
open Go Go.Proofs Go.Proofs.Tryz Go.IntWalk
theorem qh {v:List Bd}:∀ {l:List Tm},yD l v=false->∀ t∈l,t.late v=false
 | [],_,_,h=>by cases h
 | x::l,hl,t,h=>by
   simp only [yD,Bool.or_eq_false_iff] at hl
   rcases oG.1 h with rfl | h
   ·exact hl.1
   ·exact qh hl.2 t h
/-- parts of the same values -/
def Ev2 (x y:List Nb):List Tm->List Tm->Prop
 | [],[]=>True
 | t::l,u::m=>t.ev x=u.ev y/\Ev2 x y l m
 | _,_=>False
theorem zI3 {x y:List Nb}:∀ {l m:List Tm},Ev2 x y l m->∀ i,zHM l i x=zHM m i y
 | [],[],_,_=>by simp [zHM]
 | t::l,u::m,h,0=>h.1
 | t::l,u::m,h,i+1=>by simp only [zHM];exact zI3 h.2 i
 | [],_::_,h,_=>h.elim
 | _::_,[],h,_=>h.elim
theorem zGg {x y:List Nb}:∀ {l:List Tm},(∀ t∈l,t.ev x=t.ev y)->Ev2 x y l l
 | [],_=>trivial
 | t::l,h=>⟨h t (by simp),zGg fun u hu=>h u (by simp [hu])⟩
/-- names that do not come late have the same numbers -/
def Ag (v:List Bd) (x y:List Nb):Prop:=∀ nm,(sH nm v).getD false=false->rl nm x=rl nm y
theorem Ag.snoc {v:List Bd} {x y:List Nb} (h:Ag v x y) (nm:ByteArray) (b:Bool) (m:Int):Ag (v++[(nm,b)]) (x++[(nm,m)]) (y++[(nm,m)]):=fun s hs=>by
 rw [rW,rW]
 rw [rO] at hs
 split
 ·rfl
 ·rename_i hn
  rw [if_neg hn] at hs
  exact h s hs
theorem zP4:∀ (t:Tm) (v:List Bd) (x y:List Nb),Ag v x y->t.late v=false->t.ev x=t.ev y:=by
 refine Tm.ind fun k nm ot n ty re l ih v x y hA hl=>?_
 have al:yD l v=false->∀ i,zHM l i x=zHM l i y:=fun h=>zI3 (zGg fun t ht=>ih t ht v x y hA (qh h t ht))
 simp only [Tm.late] at hl
 simp only [Tm.ev]
 split
 ·rename_i hk
  rw [if_pos hk] at hl
  rw [hA nm (by cases h:sH nm v with
   | none=>rfl
   | some b=>rw [h] at hl;exact hl)]
 rename_i hk
 rw [if_neg hk] at hl
 split
 ·rename_i h4
  rw [if_neg (by omega)] at hl
  rw [al hl,al hl]
 split
 ·rename_i h5
  rw [if_neg (by omega)] at hl
  rw [al hl,al hl]
 split
 ·rename_i h8
  rw [if_pos h8] at hl
  cases l with
  | nil=>rfl
  | cons t ts=>
    simp only [zBW,Bool.or_eq_false_iff] at hl
    have h0:=ih t (by simp) v x y hA hl.1
    simp only [zHM,h0]
    exact zI3 (zGg fun u hu=>ih u (by simp [hu]) _ _ _ (hA.snoc nm (t.late v) _) (qh hl.2 u hu)) 0
 ·rfl
theorem two {α:Type} {l:List α} (h:l.length=2):∃ a b,l=[a,b]:=by
 match l,h with
 | [a,b],_=>exact ⟨a,b,rfl⟩
def zMf:List Pm->List Int->List Int->List Int
 | [],_,_=>[]
 | p::g,ns,ms=>if p.dy then ms.headD 0::zMf g ns ms.tail else ns.headD 0::zMf g ns.tail ms
def zKz (g:List Pm) (ns ms:List Int):Option (List Int):=if ns.length=(zSQ g).length/\ms.length=(zRD g).length then some (zMf g ns ms) else none
theorem zEj {nm:ByteArray} {b:Nb} {v:List Nb}:rl nm (b::v)=(rl nm v).orElse fun _=>if b.1=nm then some b.2 else none:=by
 unfold rl
 rw [List.reverse_cons,List.find?_append]
 cases h:v.reverse.find? fun p=>decide (p.1=nm) with
 | some x=>simp
 | none=>by_cases hb:b.1=nm<;>simp [hb]
theorem zAy {nm:ByteArray} {b:Bd} {v:List Bd}:sH nm (b::v)=(sH nm v).orElse fun _=>if b.1=nm then some b.2 else none:=by
 unfold sH
 rw [List.reverse_cons,List.find?_append]
 cases h:v.reverse.find? fun p=>decide (p.1=nm) with
 | some x=>simp
 | none=>by_cases hb:b.1=nm<;>simp [hb]
theorem zKD {α:Type} {P:List α->Prop} (h0:P []) (h1:∀ l x,P l->P (l++[x])) (l:List α):P l:=by
 have key:∀ n,∀ l:List α,l.length=n->P l:=by
  intro n
  induction n with
  | zero=>intro l hl;rw [oX hl];exact h0
  | succ n ih=>
    intro l hl
    have hne:l≠[]:=fun hc=>by subst hc;simp at hl
    rw [<-List.dropLast_concat_getLast hne]
    exact h1 _ _ (ih _ (by simp [hl]))
 exact key _ l rfl
theorem zCi (g:List Tg) (y:Tg) (s:ByteArray):∀ n,n<=g.length->wH (g++[y]) s n=wH g s n
 | 0,_=>rfl
 | n+1,h=>by
   have e:(g++[y]).getD n tg0=g.getD n tg0:=by rw [oA,oA,oL (by omega)]
   simp only [wH,e,zCi g y s n (by omega)]
theorem wl (g:List Tg) (y:Tg) (s:ByteArray) (n:Int):vA (g++[y]) s n=if y.nm=s then (if y.lv=n then some y.ty else none) else vA g s n:=by
 have e:(g++[y]).getD g.length tg0=y:=by simp [oA]
 have hl:zU (g++[y]) s=if y.nm=s then (g.length:Int) else zU g s:=by
  unfold zU
  rw [oI,nY]
  simp only [wH,e,zCi g y s _ (oE _)]
 unfold vA
 rw [hl]
 by_cases hs:y.nm=s
 ·simp only [if_pos hs]
  rw [if_neg (by omega),oH,e]
 ·simp only [if_neg hs]
  by_cases h0:zU g s<0
  ·rw [if_pos h0,if_pos h0]
  ·rw [if_neg h0,if_neg h0]
   have hr:=zAB g s g.length
   have hr:zU g s = -1\/(0<=zU g s/\zU g s<g.length):=hr
   have e2:(g++[y]).getD (zU g s).toNat tg0=g.getD (zU g s).toNat tg0:=by
    rw [oA,oA,oL (by omega)]
   rw [e2]
theorem zLp (a:List Tg) (p:Tg) {s:ByteArray} (hs:p.nm≠s) (n:Int) (b:List Tg):vA (a++p::b) s n=vA (a++b) s n:=by
 induction b using zKD with
 | h0=>rw [wl,if_neg hs,nH]
 | h1 b q ih=>rw [<-nF,<-nG,<-nG,wl,wl,ih]
theorem zK0 {s:ByteArray} (n:Int) (g:List Tg):(∀ y∈g,y.nm≠s)->vA g s n=none:=by
 induction g using zKD with
 | h0=>intro _;rfl
 | h1 b q ih=>intro h;rw [wl,if_neg (h q (by simp)),ih fun y hy=>h y (by simp [hy])]
theorem zC9 {g g':List Tg}:∀ {l:List Tm},(∀ x∈l,x.type g 0=x.type g' 0)->zM l g 0=zM l g' 0
 | [],_=>rfl
 | x::l,h=>by simp only [zM,h x (by simp),zC9 fun y hy=>h y (oi x hy)]
theorem zJy {k n:Int} {nm ot:ByteArray} {ty re:Ty} {l:List Tm} (h:(Tm.mk k nm ot n ty re l).isB=true):(∀ x∈l,x.isB=true)/\(k=1\/k=2\/k=3\/k=4\/k=5\/k=8):=by
 simp only [Tm.isB,oK,zCc,na,yI,mB] at h
 exact ⟨fun x hx=>rd h.1 hx,by omega⟩
theorem zP2 {k n:Int} {nm ot:ByteArray} {ty re:Ty} {l:List Tm} (hk:k=4\/k=5) {x:Tm} (hx:x∈l) {s:ByteArray} (hs:s∈x.fv):s∈(Tm.mk k nm ot n ty re l).fv:=by
 obtain ⟨j,hj⟩:=oP.1 hx
 refine Tm.fv_mem.2 (.inr ⟨by omega,j,x,hj,?_⟩)
 have hb:zEy k l.length = -1:=by unfold zEy;rw [if_neg (by omega),if_neg (by omega),if_neg (by omega)]
 unfold fvI
 rw [hb,if_neg (by omega)]
 exact hs
theorem zPw {n:Int} {nm ot:ByteArray} {ty re:Ty} {x y:Tm} {s:ByteArray} (hs:s∈x.fv):s∈(Tm.mk 8 nm ot n ty re [x,y]).fv:=
 Tm.fv_mem.2 (.inr ⟨by omega,0,x,rfl,hs⟩)
theorem zPY {n:Int} {nm ot:ByteArray} {ty re:Ty} {x y:Tm} {s:ByteArray} (hs:s∈y.fv) (hn:nm≠s):s∈(Tm.mk 8 nm ot n ty re [x,y]).fv:=
 Tm.fv_mem.2 (.inr ⟨by omega,1,y,rfl,nl.2 ⟨hs,by simpa [bdN] using fun h=>hn h.symm⟩⟩)
theorem zQD:∀ t:Tm,t.ok=true->t.isB=true->∀ g g':List Tg,(∀ s∈t.fv,vA g s 0=vA g' s 0)->t.type g 0=t.type g' 0:=by
 refine Tm.ind fun k nm ot n ty re l ih hok hb g g' hg=>?_
 have node:=zk hok
 obtain ⟨hbl,hk⟩:=zJy hb
 have har:=node.ar
 simp only [Tm.type]
 congr 1
 have parts:k=4\/k=5->zM l g 0=zM l g' 0:=fun h=>zC9 fun x hx=>ih x hx (node.sub x hx) (hbl x hx) g g' fun s hs=>hg s (zP2 h hx hs)
 rcases hk with rfl | rfl | rfl | rfl | rfl | rfl
 ·rw [if_pos rfl,if_pos rfl]
  exact hg nm (Tm.fv_mem.2 (.inl ⟨rfl,rfl⟩))
 ·simp
 ·simp
 ·simp [parts (.inl rfl)]
 ·simp [parts (.inr rfl)]
 ·obtain ⟨x,y,rfl⟩:=two (l:=l) (by have:zAv 8 nm=2:=rfl;omega)
  have h0:=ih x (by simp) (node.sub x (by simp)) (hbl x (by simp)) g g' fun s hs=>hg s (zPw hs)
  have h1:∀ a:Ty,y.type (g++[⟨nm,a,0⟩]) 0=y.type (g'++[⟨nm,a,0⟩]) 0:=fun a=>ih y (by simp) (node.sub y (by simp)) (hbl y (by simp)) _ _ fun s hs=>by
   rw [wl,wl]
   by_cases hn:nm=s
   ·simp [hn]
   ·simp only [if_neg hn];exact hg s (zPY hs hn)
  simp [wj,h0,h1]
theorem zCw {g:List Tg}:∀ {l:List Tm} {us:List Ty},zM l g 0=some us->∀ x∈l,∃ u,x.type g 0=some u
 | [],_,_,x,hx=>by simp at hx
 | y::l,us,h,x,hx=>by
   obtain ⟨u,vs,h1,h2,_⟩:=xz h
   rcases oG.1 hx with rfl | hx
   ·exact ⟨u,h1⟩
   ·exact zCw h2 x hx
theorem zNa:∀ t:Tm,t.ok=true->t.isB=true->∀ (g:List Tg) (u:Ty),t.type g 0=some u->∀ s∈t.fv,vA g s 0≠none:=by
 refine Tm.ind fun k nm ot n ty re l ih hok hb g u hu s hs=>?_
 have node:=zk hok
 obtain ⟨hbl,hk⟩:=zJy hb
 have har:=node.ar
 simp only [Tm.type] at hu
 obtain ⟨hu,_⟩:=pW hu
 have parts:k=4\/k=5->∀ us,zM l g 0=some us->vA g s 0≠none:=fun hk us hus=>by
  rcases Tm.fv_mem.1 hs with ⟨h1,_⟩ | ⟨_,j,x,hj,hx⟩
  ·omega
  ·have hb:zEy k l.length = -1:=by unfold zEy;rw [if_neg (by omega),if_neg (by omega),if_neg (by omega)]
   unfold fvI at hx
   rw [hb,if_neg (by omega)] at hx
   have hm:=oC hj
   obtain ⟨v,hv⟩:=zCw hus x hm
   exact ih x hm (node.sub x hm) (hbl x hm) g v hv s hx
 have leaf:k=2\/k=3->l=[]:=fun h=>oX (by rcases h with rfl | rfl<;>(have:(l.length:Int)=0:=har;omega))
 rcases hk with rfl | rfl | rfl | rfl | rfl | rfl
 ·rw [if_pos rfl] at hu
  rcases Tm.fv_mem.1 hs with ⟨_,rfl⟩ | ⟨h,_⟩
  ·rw [hu];simp
  ·exact absurd rfl h
 ·have:=leaf (.inl rfl);subst this
  rcases Tm.fv_mem.1 hs with ⟨h,_⟩ | ⟨_,j,x,hj,_⟩
  ·omega
  ·simp at hj
 ·have:=leaf (.inr rfl);subst this
  rcases Tm.fv_mem.1 hs with ⟨h,_⟩ | ⟨_,j,x,hj,_⟩
  ·omega
  ·simp at hj
 ·simp at hu
  split at hu
  ·rename_i us hus;exact parts (.inl rfl) us hus
  ·cases hu
 ·simp at hu
  split at hu
  ·rename_i us hus;exact parts (.inr rfl) us hus
  ·cases hu
 ·obtain ⟨x,y,rfl⟩:=two (l:=l) (by have:zAv 8 nm=2:=rfl;omega)
  simp [wj] at hu
  split at hu
  rotate_left
  ·cases hu
  rename_i a ha
  rcases Tm.fv_mem.1 hs with ⟨h,_⟩ | ⟨_,j,z,hj,hz⟩
  ·omega
  ·match j,hj with
   | 0,hj=>
     simp at hj;subst hj
     exact ih x (by simp) (node.sub x (by simp)) (hbl x (by simp)) g a ha s hz
   | 1,hj=>
     simp at hj;subst hj
     have hz:s∈zG8 [nm] y.fv:=hz
     obtain ⟨h1,h2⟩:=nl.1 hz
     have:=ih y (by simp) (node.sub y (by simp)) (hbl y (by simp)) _ u hu s h1
     rw [wl,if_neg (by simp at h2;exact fun h=>h2 h.symm)] at this
     exact this
   | j+2,hj=>simp at hj
theorem qt:∀ (g:List Pm) (seen:List ByteArray),rk seen g=true↔(∀ p∈g,ub p.nm=true/\p.ty.base=true)/\(∀ p∈g,p.nm∉seen)/\(g.map (·.nm)).Nodup
 | [],seen=>by simp [rk]
 | p::ps,seen=>by
   have hs:(!(seen.any fun x=>decide (x=p.nm)))=true↔p.nm∉seen:=by
    simp
    exact ⟨fun h hc=>h _ hc rfl,fun h x hx hc=>h (hc ▸ hx)⟩
   simp only [rk,oK,qt ps,hs,oG,o4,nZ,oR,not_exists,not_and,oM,o5,not_or,forall_eq_or_imp,o3,nz]
   constructor
   ·rintro ⟨h1,h2,h3,h4,h5,h6⟩
    exact ⟨⟨⟨h1,h2⟩,h4⟩,⟨h3,fun q hq=>(h5 q hq).1⟩,fun q hq=>(h5 q hq).2,h6⟩
   ·rintro ⟨⟨⟨h1,h2⟩,h4⟩,⟨h3,h5⟩,h6,h7⟩
    exact ⟨h1,h2,h3,h4,fun q hq=>⟨h5 q hq,h6 q hq⟩,h7⟩
theorem zL9 {g:List Pm} {k:Nat} {p:Pm} (h:g[k]?=some p):∃ a b,g=a++p::b/\a.length=k/\ry g k=a++b:=by
 obtain ⟨h1,h2⟩:=oB.1 h
 refine ⟨g.take k,g.drop (k+1),?_,by simp;omega,rfl⟩
 rw [<-h2,mS,o9]
theorem zJ7 {g:List Pm} {e:Tm} {k:Nat} {p:Pm} (hb:(zR g e).isSome=true) (hp:g[k]?=some p):(zR (ry g k) e).isSome=true↔p.nm∉e.fv:=by
 obtain ⟨a,b,rfl,hk,hc⟩:=zL9 hp
 rw [hc]
 unfold zR at hb ⊢
 split at hb
 rotate_left
 ·cases hb
 rename_i h
 obtain ⟨h1,h2,h3⟩:=h
 have hok:=zLX h2
 unfold uq at h1
 rw [oK,qt,nD] at h1
 obtain ⟨⟨n1,n2,n3⟩,n4⟩:=h1
 have hn:∀ q∈a++b,q.nm≠p.nm:=fun q hq hc=>by
  rw [nP,o4,nL] at n3
  obtain ⟨_,m2,m3⟩:=n3
  rcases oM.1 hq with hq | hq
  ·exact m3 _ (oR.2 ⟨q,hq,rfl⟩) _ (by simp) hc
  ·exact (nZ.1 m2).1 (oR.2 ⟨q,hq,hc⟩)
 have hpm:uq (a++b)=true:=by
  unfold uq
  rw [oK,qt,nD]
  refine ⟨⟨fun q hq=>n1 q ?_,by simp,?_⟩,by simp at n4 ⊢;omega⟩
  ·rcases oM.1 hq with hq | hq<;>simp [hq]
  ·refine List.Nodup.sublist ?_ n3
   rw [nP,nP]
   exact List.Sublist.append (List.Sublist.refl _) (by simp)
 rw [if_pos ⟨hpm,h2,h3⟩]
 have ec:yc (a++p::b)=yc a++⟨p.nm,p.ty,0⟩::yc b:=by simp [yc]
 have ec2:yc (a++b)=yc a++yc b:=by simp [yc]
 constructor
 ·intro hs hf
  obtain ⟨u,hu⟩:=mf.1 hs
  refine zNa e hok h3 _ u hu _ hf (zK0 0 _ fun y hy=>?_)
  obtain ⟨q,hq,rfl⟩:=oR.1 hy
  exact hn q hq
 ·intro hf
  rw [ec] at hb
  rw [ec2,<-zQD e hok h3 _ _ fun s hs=>zLp (yc a) ⟨p.nm,p.ty,0⟩ (s:=s) (fun hc=>hf (by subst hc;exact hs)) 0 (yc b)]
  exact hb
theorem zFD {g:List Pm} {e:Tm} {s:ByteArray}:∀ (xs:List Pm) (i:Nat),s∈uB g e i xs↔∃ (j:Nat) (x:Pm),xs[j]?=some x/\x.nm=s/\(zR (ry g (i+j)) e).isSome=false
 | [],i=>by simp [uB]
 | x :: xs,i=>by
   have ih:=zFD (g:=g) (e:=e) (s:=s) xs (i+1)
   have tail:s∈uB g e (i+1) xs↔∃ (j:Nat) (y:Pm),(x::xs)[j+1]?=some y/\y.nm=s/\(zR (ry g (i+(j+1))) e).isSome=false:=by
    rw [ih]
    constructor
    ·rintro ⟨j,y,h1,h2,h3⟩;exact ⟨j,y,by simpa using h1,h2,by rw [show i+(j+1)=i+1+j by omega];exact h3⟩
    ·rintro ⟨j,y,h1,h2,h3⟩;exact ⟨j,y,by simpa using h1,h2,by rw [show i+1+j=i+(j+1) by omega];exact h3⟩
   simp only [uB]
   split
   ·rename_i hsome
    rw [tail]
    constructor
    ·rintro ⟨j,y,h⟩;exact ⟨j+1,y,h⟩
    ·rintro ⟨j,y,h1,h2,h3⟩
     cases j with
     | zero=>rw [mR,hsome] at h3;cases h3
     | succ j=>exact ⟨j,y,h1,h2,h3⟩
   ·rename_i hnone
    rw [oG,tail]
    constructor
    ·rintro (rfl | ⟨j,y,h⟩)
     ·exact ⟨0,x,rfl,rfl,by simpa using hnone⟩
     ·exact ⟨j+1,y,h⟩
    ·rintro ⟨j,y,h1,h2,h3⟩
     cases j with
     | zero=>simp at h1;subst h1;exact .inl h2.symm
     | succ j=>exact .inr ⟨j,y,h1,h2,h3⟩
theorem zNn {g:List Pm} {e:Tm} {k:Nat} {p:Pm} (hb:(zR g e).isSome=true) (hp:g[k]?=some p):p.nm∈uo g e↔p.nm∈e.fv:=by
 unfold uo
 rw [if_pos hb,zFD]
 have hnd:(g.map (·.nm)).Nodup:=by
  unfold zR at hb
  split at hb
  ·rename_i h
   have h1:=h.1
   unfold uq at h1
   rw [oK,qt] at h1
   exact h1.1.2.2
  ·cases hb
 constructor
 ·rintro ⟨j,x,h1,h2,h3⟩
  rw [nk] at h3
  have:=zJ7 hb h1
  rw [h3] at this
  rw [<-h2]
  simpa using this
 ·intro hf
  refine ⟨k,p,hp,rfl,?_⟩
  have:=zJ7 hb hp
  rw [nk]
  cases h:(zR (ry g k) e).isSome with
  | false=>rfl
  | true=>exact absurd hf (this.1 h)
def LeB (v v':List Bd):Prop:=∀ nm,(sH nm v=none/\sH nm v'=none)\/∃ b b',sH nm v=some b/\sH nm v'=some b'/\(b=true->b'=true)
theorem LeB.snoc {v v':List Bd} (h:LeB v v') (nm:ByteArray) {b b':Bool} (hb:b=true->b'=true):LeB (v++[(nm,b)]) (v'++[(nm,b')]):=fun s=>by
 rw [rO,rO]
 by_cases hs:nm=s
 ·exact .inr ⟨b,b',by simp [hs],by simp [hs],hb⟩
 ·simp only [if_neg hs];exact h s
theorem sQ {v v':List Bd}:∀ {l:List Tm},(∀ t∈l,t.late v=true->t.late v'=true)->yD l v=true->yD l v'=true
 | [],_,h=>h
 | t::l,hl,h=>by
   simp only [yD,na] at h ⊢
   exact h.imp (hl t (by simp)) (sQ fun x hx=>hl x (oi t hx))
theorem zH9:∀ (t:Tm) (v v':List Bd),LeB v v'->t.late v=true->t.late v'=true:=by
 refine Tm.ind fun k nm ot n ty re l ih v v' hv h=>?_
 have al:∀ {v v':List Bd},LeB v v'->yD l v=true->yD l v'=true:=fun hv=>sQ fun t ht=>ih t ht _ _ hv
 simp only [Tm.late] at h ⊢
 split
 ·rename_i hk
  rw [if_pos hk] at h
  rcases hv nm with ⟨h1,h2⟩ | ⟨b,b',h1,h2,h3⟩
  ·rw [h1] at h;rw [h2];exact al hv h
  ·rw [h1] at h;rw [h2];exact h3 h
 rename_i hk
 rw [if_neg hk] at h
 split
 ·rename_i h8
  rw [if_pos h8] at h
  cases l with
  | nil=>exact h
  | cons t ts=>
    simp only [zBW,na] at h ⊢
    exact h.imp (ih t (by simp) v v' hv) (sQ fun x hx=>ih x (oi t hx) _ _ (hv.snoc nm (ih t (by simp) v v' hv)))
 ·rename_i h8
  rw [if_neg h8] at h
  exact al hv h
theorem zKF (a b:List Bool):pw (a++b)=pw a+pw b:=by
 induction a with
 | nil=>simp [pw]
 | cons x a ih=>simp only [nF,pw,ih];omega
theorem zDP {v v':List Bd}:∀ {l:List Tm},(∀ t∈l,pw (t.times v)<=pw (t.times v'))->pw (zJt l v)<=pw (zJt l v')
 | [],_=>oE _
 | t::l,h=>by
   simp only [zJt,zKF]
   have:=h t (by simp)
   have:=zDP fun x hx=>h x (oi t hx)
   omega
theorem zN0:∀ (t:Tm) (v v':List Bd),LeB v v'->pw (t.times v)<=pw (t.times v'):=by
 refine Tm.ind fun k nm ot n ty re l ih v v' hv=>?_
 have top:=zH9 (.mk k nm ot n ty re l) v v' hv
 have rest:pw (if k=8 then zIH l nm v else zJt l v)<=pw (if k=8 then zIH l nm v' else zJt l v'):=by
  split
  ·cases l with
   | nil=>exact oE _
   | cons t ts=>
     simp only [zIH,zKF]
     have h0:=ih t (by simp) v v' hv
     have h1:=zDP (l:=ts) fun x hx=>ih x (oi t hx) _ _ (hv.snoc nm (zH9 t v v' hv))
     omega
  ·exact zDP fun x hx=>ih x hx v v' hv
 simp only [Tm.times,pw]
 have h2:(if (Tm.mk k nm ot n ty re l).late v=true then 1 else 0)<=(if (Tm.mk k nm ot n ty re l).late v'=true then 1 else 0):=by
  split
  ·rename_i h;rw [if_pos (top h)];exact oE _
  ·exact Nat.zero_le _
 exact Nat.add_le_add h2 rest
/-- all parameters come late -/
def upG (g:List Pm):List Pm:=g.map fun p=>⟨p.nm,p.ty,true⟩
theorem zPF:∀ g:List Pm,LeB (xI g) (xI (upG g))
 | []=>fun nm=>.inl ⟨rfl,rfl⟩
 | p::g=>fun nm=>by
   have e1:xI (p::g)=(p.nm,p.dy)::xI g:=rfl
   have e2:xI (upG (p::g))=(p.nm,true)::xI (upG g):=rfl
   rw [e1,e2,zAy,zAy]
   rcases zPF g nm with ⟨h1,h2⟩ | ⟨b,b',h1,h2,h3⟩
   ·rw [h1,h2]
    by_cases hp:p.nm=nm
    ·exact .inr ⟨p.dy,true,by simp [hp],by simp [hp],fun _=>rfl⟩
    ·exact .inl ⟨by simp [hp],by simp [hp]⟩
   ·rw [h1,h2];exact .inr ⟨b,b',rfl,rfl,h3⟩
theorem zJu:∀ (g:List Pm) (seen:List ByteArray),rk seen (upG g)=rk seen g
 | [],_=>rfl
 | p::g,seen=>by
   have e:upG (p::g)=⟨p.nm,p.ty,true⟩::upG g:=rfl
   rw [e];simp only [rk,zJu g]
theorem zLl (g:List Pm) (e:Tm):zR (upG g) e=zR g e:=by
 have h1:uq (upG g)=uq g:=by unfold uq;rw [zJu];simp [upG]
 have h2:yc (upG g)=yc g:=by simp [yc,upG]
 unfold zR
 rw [h1,h2]
theorem zOq (g:List Pm) (e:Tm):pw (yf g e)<=pw (yf (upG g) e):=by
 unfold yf
 rw [zLl]
 split
 ·exact zN0 e _ _ (zPF g)
 ·exact oE _
def oth (p:Pm) (n:Int):Int:=if p.dy=true then (if p.ty.k=2 then 1 - n else Int.tmod (n+1) 10007) else n
def vJ:List Pm->List Int->List Int
 | p::g,n::ns=>oth p n::vJ g ns
 | _,_=>[]
theorem zAb:∀ {g:List Pm} {ns:List Int},ns.length=g.length->(vJ g ns).length=g.length
 | [],[],_=>rfl
 | p::g,n::ns,h=>by simp only [vJ,oJ] at h ⊢;rw [zAb (by omega)]
 | [],_::_,h=>by simp at h
 | _::_,[],h=>by simp at h
theorem zOC {p:Pm} {n:Int} (h:zCJ p.ty n=true):zCJ p.ty (oth p n)=true:=by
 unfold oth
 split
 ·unfold zCJ at h ⊢
  split at h
  ·rename_i h2
   rw [if_pos h2,if_pos h2]
   rw [yI] at h ⊢
   omega
  ·rename_i h2
   rw [if_neg h2,if_neg h2]
   rw [yI] at h ⊢
   have h0:=Int.tmod_nonneg (a:=n+1) 10007 (by omega)
   have h1:=Int.tmod_lt_of_pos (n+1) (b:=10007) (by omega)
   omega
 ·exact h
theorem zFM:∀ {g:List Pm} {ns:List Int},v3 g ns=true->v3 g (vJ g ns)=true
 | [],_,_=>rfl
 | p::g,[],_=>rfl
 | p::g,n::ns,h=>by
   simp only [v3,vJ,oK] at h ⊢
   exact ⟨zOC h.1,zFM h.2⟩
theorem zKH:∀ {g:List Pm} {ns:List Int},ns.length=g.length->∀ nm,(sH nm (xI g)=none/\rl nm (yC g ns)=none/\rl nm (yC g (vJ g ns))=none) \/
  ∃ b x y,sH nm (xI g)=some b/\rl nm (yC g ns)=some x/\rl nm (yC g (vJ g ns))=some y/\(b=false->x=y)
 | [],[],_,nm=>.inl ⟨rfl,rfl,rfl⟩
 | p :: g,n::ns,h,nm=>by
   have e1:xI (p::g)=(p.nm,p.dy)::xI g:=rfl
   have e2:yC (p::g) (n::ns)=(p.nm,n)::yC g ns:=rfl
   have e3:yC (p::g) (vJ (p::g) (n::ns))=(p.nm,oth p n)::yC g (vJ g ns):=rfl
   rw [e1,e2,e3,zAy,zEj,zEj]
   rcases zKH (g:=g) (ns:=ns) (by simpa using h) nm with ⟨h1,h2,h3⟩ | ⟨b,x,y,h1,h2,h3,h4⟩
   ·rw [h1,h2,h3]
    by_cases hp:p.nm=nm
    ·refine .inr ⟨p.dy,n,oth p n,by simp [hp],by simp [hp],by simp [hp],fun hd=>?_⟩
     unfold oth;rw [if_neg (by simp [hd])]
    ·exact .inl ⟨by simp [hp],by simp [hp],by simp [hp]⟩
   ·rw [h1,h2,h3];exact .inr ⟨b,x,y,rfl,rfl,rfl,h4⟩
 | [],_::_,h,_=>by simp at h
 | _::_,[],h,_=>by simp at h
theorem zCM {g:List Pm} {e:Tm} {ns:List Int} (h:(wi g e ns).2=true):(zR g e).isSome=true/\ns.length=g.length/\v3 g ns=true/\(wi g e ns).1=e.ev (yC g ns):=by
 unfold wi at h ⊢
 split at h
 ·rename_i h1
  split at h
  ·rename_i h2
   split at h
   ·rename_i h3
    rw [if_pos h1,if_pos h2,if_pos h3]
    exact ⟨h1,h2,h3,rfl⟩
   ·cases h
  ·cases h
 ·cases h
theorem zJm {g:List Pm} {e:Tm} {ns:List Int} (h:(wi g e ns).2=true):(wi g e (vJ g ns)).2=true/\(zB8 g e=false->(wi g e ns).1=(wi g e (vJ g ns)).1):=by
 obtain ⟨h1,h2,h3,h4⟩:=zCM h
 have h5:wi g e (vJ g ns)=(e.ev (yC g (vJ g ns)),true):=by
  unfold wi
  rw [if_pos h1,if_pos (zAb h2),if_pos (zFM h3)]
 rw [h5,h4]
 refine ⟨rfl,fun hd=>?_⟩
 unfold zB8 at hd
 rw [h1,Bool.true_and] at hd
 refine zP4 e (xI g) _ _ (fun nm hn=>?_) hd
 rcases zKH h2 nm with ⟨_,a2,a3⟩ | ⟨b,x,y,a1,a2,a3,a4⟩
 ·rw [a2,a3]
 ·rw [a1] at hn
  rw [a2,a3,a4 hn]
end Go.Proofs.YtkdjhkfiolhkiaaGreat
set_option maxRecDepth 100000
namespace Go.Proofs.YtkdjhkfiolhkiaaGreat
open Go Go.Proofs Go.Proofs.Tryz Go.IntWalk
theorem zFg {l:List D} {i:Nat} (h:i<l.length):l.getD i default∈l:=by
 rw [oA,oD h];exact np h
/-- a cursor over bytes -/
structure Cu (es:List D) (i:Int):Prop where
 b:∀ d∈es,∃ n:Int,d=.lit (.int .u8 n)
 l:es.length<=1073741824
 lo:0<=i
 hi:i<=es.length
theorem zKb (x:Int):0<=IntKind.i64.wrap ((BitVec.ofInt 64 x &&& BitVec.ofInt 64 255).toNat:Int)/\IntKind.i64.wrap ((BitVec.ofInt 64 x &&& BitVec.ofInt 64 255).toNat:Int)<=255:=by
 have h:(BitVec.ofInt 64 x &&& BitVec.ofInt 64 255).toNat<=255:=by
  rw [BitVec.toNat_and]
  exact oW Nat.and_le_right (by decide)
 rw [i64_in _ (by omega)]
 omega
theorem zRZ {es:List D} (hb:∀ d∈es,∃ n:Int,d=.lit (.int .u8 n)) (hl:es.length<=1073741824) (a:Option Addr) (c:Nat) (N:Nat) (Q:QT [.cu])
  (hQ:∀ h N',N<=N'->Cu es 0->Q a es c 0 h N'):ACalls prog 58 [.cu] [.sv a 0 es c] N Q:=by
 refine zHY N a es c Q fun _=>?_
 have fin:∀ h N',N<=N'->Q a es c 0 h N':=fun h N' hN'=>hQ h N' hN' ⟨hb,hl,by omega,by omega⟩
 have key:∀ (n i:Nat) (h:Int) (N':Nat),i+n=es.length->N<=N'->wu Q N a es c h i N':=by
  intro n
  induction n with
  | zero=>
    intro i h N' hi hN'
    refine qN _ _ _ _ _ _ _ _ ?_
    rw [decide_eq_false (by omega)]
    exact fun N1 hN1=>fin _ _ (by omega)
  | succ n ih=>
    intro i h N' hi hN'
    refine qN _ _ _ _ _ _ _ _ ?_
    rw [ny (by omega)]
    rw [Y3]
    rcases Int.lt_or_le (i:Int) 4000 with h4 | h4
    rotate_left
    ·rw [decide_eq_false (by omega)]
     exact fun N1 hN1=>fin _ _ (by omega)
    rw [ny h4,Y3]
    refine And.intro ⟨by omega,by omega⟩ ?_
    rw [oH]
    obtain ⟨x,hx⟩:=hb (es.getD i default) (zFg (by omega))
    refine ⟨x,hx,?_⟩
    rw [i64_in ((i:Int)+1) (by omega)]
    exact ih (i+1) _ N' (by omega) hN'
 exact key es.length 0 _ N (by omega) (oE _)
theorem zIB {es:List D} {i:Int} (hc:Cu es i) (a:Option Addr) (c:Nat) (h:Int) (N:Nat) (Q:QT [.int .i64,.sl 0,.int .i64,.int .i64])
  (hQ:∀ x a' es' c' i' h' N',N<=N'->Cu es' i'->0<=x->x<=255->Q x a' es' c' i' h' N'):BCalls prog 131 [.int .i64,.sl 0,.int .i64,.int .i64] [.pb 0 0 0 0] [.var [.sv a 0 es c,.int .i64 i,.int .i64 h]] N Q:=by
 have h1:=hc.lo
 have h2:=hc.hi
 have h3:=hc.l
 refine zBl N a es c i h Q fun E _=>⟨by omega,by omega,Br.dec (fun hlt=>⟨⟨h1,hlt⟩,?_⟩) fun _=>⟨wG,fun N1 hN1=>hQ _ _ _ _ _ _ _ hN1 hc (zKb _).1 (zKb _).2⟩⟩
 obtain ⟨x,hx⟩:=hc.b (es.getD i.toNat default) (zFg (by omega))
 refine ⟨x,hx,wG,fun N1 hN1=>hQ _ _ _ _ _ _ _ hN1 ?_ (zKb _).1 (zKb _).2⟩
 rw [i64_in (i+1) (by omega)]
 exact ⟨hc.b,hc.l,by omega,by omega⟩
theorem yo {es:List D} {i:Int} (hc:Cu es i) (n:Int) (hn:n<=4294967296) (a:Option Addr) (c:Nat) (h:Int) (N:Nat) (Q:QT [.int .i64,.sl 0,.int .i64,.int .i64])
  (hQ:∀ x a' es' c' i' h' N',N<=N'->Cu es' i'->0<=x->(0<n->x<n)->(n<=0->x=0)->Q x a' es' c' i' h' N'):BCalls prog 61 [.int .i64,.sl 0,.int .i64,.int .i64] [.pb 0 0 0 0,.int .i64 n] [.var [.sv a 0 es c,.int .i64 i,.int .i64 h]] N Q:=by
 have tm:∀ x:Int,0<=x->0<n->0<=Int.tmod x n/\Int.tmod x n<n:=fun x hx h0=>⟨Int.tmod_nonneg _ hx,Int.tmod_lt_of_pos _ h0⟩
 refine zAf N n a es c i h Q fun E _=>Br.dec (fun h0=>⟨wG,fun N1 hN1=>hQ _ _ _ _ _ _ _ hN1 hc (by omega) (by omega) fun _=>rfl⟩) fun h0=>Br.dec (fun hs N1 hN1=>?_) fun hs N1 hN1=>?_
 ·exact zIB hc a c h N1 _ fun x a' es' c' i' h' N2 hN2 hc' x0 x1 _ _=>⟨by omega,wG,fun N3 hN3=>hQ _ _ _ _ _ _ _ (by omega) hc' (tm x x0 (by omega)).1 (fun g=>(tm x x0 g).2) fun g=>by omega⟩
 ·refine zIB hc a c h N1 _ fun x a' es' c' i' h' N2 hN2 hc' x0 x1 _ _ N3 hN3=>?_
  refine zIB hc' a' c' h' N3 _ fun y a' es' c' i' h' N4 hN4 hc' y0 y1 _ _ N5 hN5=>?_
  refine zIB hc' a' c' h' N5 _ fun z a' es' c' i' h' N6 hN6 hc' z0 z1 _ _ N7 hN7=>?_
  refine zIB hc' a' c' h' N7 _ fun w a' es' c' i' h' N8 hN8 hc' w0 w1 _ _=>⟨by omega,wG,fun N9 hN9=>?_⟩
  have e:IntKind.i64.wrap (IntKind.i64.wrap (IntKind.i64.wrap (IntKind.i64.wrap (x*16777216)+IntKind.i64.wrap (y*65536))+IntKind.i64.wrap (z*256))+w)=x*16777216+y*65536+z*256+w:=by
   rw [i64_in (x*16777216) (by omega),i64_in (y*65536) (by omega),i64_in (z*256) (by omega),i64_in (x*16777216+y*65536) (by omega),i64_in (x*16777216+y*65536+z*256) (by omega),i64_in _ (by omega)]
  have hq:=hQ (Int.tmod (x*16777216+y*65536+z*256+w) n) a' es' c' i' h' N9 (by omega) hc' (tm _ (by omega) (by omega)).1 (fun g=>(tm _ (by omega) g).2) fun g=>by omega
  rw [<-e] at hq
  exact hq
theorem zBO {es:List D} {i:Int} (hc:Cu es i) (n:Int) (hn:n<=4294967296) (a:Option Addr) (c:Nat) (h:Int) (N:Nat) (Q:QT [.bool,.sl 0,.int .i64,.int .i64])
  (hQ:∀ b a' es' c' i' h' N',N<=N'->Cu es' i'->Q b a' es' c' i' h' N'):BCalls prog 81 [.bool,.sl 0,.int .i64,.int .i64] [.pb 0 0 0 0,.int .i64 n] [.var [.sv a 0 es c,.int .i64 i,.int .i64 h]] N Q:=
 zBx N n a es c i h Q fun E _ N1 hN1=>yo hc n hn a c h N1 _ fun x a' es' c' i' h' N2 hN2 hc' _ _ _ _ _=>⟨wG,fun N3 hN3=>hQ _ _ _ _ _ _ _ (by omega) hc'⟩
theorem rA {es:List D} {i:Int} (hc:Cu es i) (l:List ByteArray) (h0:0<l.length) (hl:l.length<=4294967296) (a:Option Addr) (c:Nat) (h:Int) (k q:Nat) (N:Nat) (Q:QT [.str,.sl 0,.int .i64,.int .i64,.sl 0])
  (hQ:∀ s a' es' c' i' h' N',N<=N'->Cu es' i'->s∈l->Q s a' es' c' i' h' none (zB l) q N'):BCalls prog 132 [.str,.sl 0,.int .i64,.int .i64,.sl 0] [.pb 0 0 0 0,.sb 1 0 0 l.length k] [.var [.sv a 0 es c,.int .i64 i,.int .i64 h],.arr 9 0 (zB l) q] N Q:=by
 have hwl:=zi l
 refine zB5 N l.length k a es c i h (zB l) q Q fun E _ _ N1 hN1=>?_
 refine yo hc l.length (by omega) a c h N1 _ fun x a' es' c' i' h' N2 hN2 hc' x0 x1 _ _ _=>?_
 have x1:=x1 (by omega)
 have hx:x.toNat<l.length:=by omega
 refine ⟨⟨x0,x1,by omega⟩,by omega,l[x.toNat],?_,wG,fun N3 hN3=>hQ _ _ _ _ _ _ _ (by omega) hc' (np hx)⟩
 simp [zB,oA,oF,oD hx]
theorem vo {es:List D} {i:Int} (hc:Cu es i) (l:List Int) (h0:0<l.length) (hl:l.length<=4294967296) (a:Option Addr) (c:Nat) (h:Int) (k q:Nat) (N:Nat) (Q:QT [.int .i64,.sl 0,.int .i64,.int .i64,.sl 0])
  (hQ:∀ s a' es' c' i' h' N',N<=N'->Cu es' i'->s∈l->Q s a' es' c' i' h' none (yj l) q N'):BCalls prog 63 [.int .i64,.sl 0,.int .i64,.int .i64,.sl 0] [.pb 0 0 0 0,.sb 1 0 0 l.length k] [.var [.sv a 0 es c,.int .i64 i,.int .i64 h],.arr 3 0 (yj l) q] N Q:=by
 have hwl:=v6 l
 refine qi N l.length k a es c i h (yj l) q Q fun E _ _ N1 hN1=>?_
 refine yo hc l.length (by omega) a c h N1 _ fun x a' es' c' i' h' N2 hN2 hc' x0 x1 _ _ _=>?_
 have x1:=x1 (by omega)
 have hx:x.toNat<l.length:=by omega
 refine ⟨⟨x0,x1,by omega⟩,by omega,l[x.toNat],?_,wG,fun N3 hN3=>hQ _ _ _ _ _ _ _ (by omega) hc' (np hx)⟩
 simp [yj,oA,oF,oD hx]
end Go.Proofs.YtkdjhkfiolhkiaaGreat
set_option maxRecDepth 100000
namespace Go.Proofs.YtkdjhkfiolhkiaaGreat
open Go Go.Proofs Go.Proofs.Tryz Go.IntWalk
/-- some term of at most this many nodes -/
def Some (m:Nat) (d:D):Prop:=∃ t:Tm,t.Is d/\t.cnt<=m
theorem Some.mono {m n:Nat} {d:D} (h:Some m d) (hn:m<=n):Some n d:=by obtain ⟨t,h1,h2⟩:=h;exact ⟨t,h1,by omega⟩
theorem zQT {m:Nat}:∀ {es:List D},(∀ d∈es,Some m d)->∃ l,All2 Tm.Is l es/\(∀ x∈l,x.cnt<=m)
 | [],_=>⟨[],rfl,by simp⟩
 | d::es,h=>by
   obtain ⟨t,h1,h2⟩:=h d (by simp)
   obtain ⟨l,h3,h4⟩:=zQT fun x hx=>h x (oi d hx)
   exact ⟨t::l,⟨d,es,rfl,h1,h3⟩,fun x hx=>by
    rcases oG.1 hx with rfl | hx
    ·exact h2
    ·exact h4 x hx⟩
theorem zFB {m:Nat}:∀ {l:List Tm},(∀ x∈l,x.cnt<=m)->yG l<=l.length*m
 | [],_=>by simp [yG]
 | x::l,h=>by
   have h1:=zFB (l:=l) fun y hy=>h y (by simp [hy])
   have h2:=h x (by simp)
   simp only [yG,oJ,nS,Nat.one_mul]
   omega
theorem zPB (k:Int) {m:Nat} (hm:m<=1073741824) {es:List D} (hes:∀ d∈es,Some m d) (hl:es.length<=1000) (a:Option Addr) (c:Nat) (N:Nat) (Q:QT [.ag 9])
  (hQ:∀ d' N',N<=N'->Some (3+es.length*m) d'->Own N N' d'->Q d' N'):ACalls prog 123 [.ag 9] [.int .i64 k,.sv a 9 es c] N Q:=by
 obtain ⟨l,h1,h2⟩:=zQT hes
 have hll:=h1.len
 refine zGE k h1 (by omega) (fun x hx=>oW (h2 x hx) hm) a c N _ fun d' N' hN' hd ho=>hQ d' N' hN' ⟨_,hd,?_⟩ ho
 have:=zFB h2
 simp only [Tm.cnt,Ty.cnt,zG]
 rw [hll]
 omega
/-- another name -/
theorem zHx {m:Nat} {d:D} (h:Some m d) {s:ByteArray} (hs:s.size<=4611686018427387904):Some m (.ag [d.cell 0,.lit (.string s),d.cell 2,d.cell 3,d.cell 4,d.cell 5,d.cell 6,d.cell 7,d.cell 8]):=by
 obtain ⟨t,h1,h2⟩:=h
 cases t with
 | mk k nm ot n ty re l=>
   obtain ⟨t0,t1,r0,r1,a,es,c,rfl,hh,hlen,hes⟩:=Tm.is_mk.1 h1
   exact ⟨.mk k s ot n ty re l,Tm.is_mk.2 ⟨_,_,_,_,_,_,_,rfl,⟨hs,hh.ot,hh.ty,hh.re⟩,hlen,hes⟩,h2⟩
theorem zNh {m N N':Nat} {d:D} (h:Some m d) (ho:Own N N' d) (s:ByteArray):Own N N' (.ag [d.cell 0,.lit (.string s),d.cell 2,d.cell 3,d.cell 4,d.cell 5,d.cell 6,d.cell 7,d.cell 8]):=by
 obtain ⟨t,h1,h2⟩:=h
 cases t with
 | mk k nm ot n ty re l=>
   obtain ⟨t0,t1,r0,r1,a,es,c,rfl,hh,hlen,hes⟩:=Tm.is_mk.1 h1
   exact zJ8 (v2:=.string s) ho
theorem zRW {s:ByteArray} (hs:s.size<=4611686018427387904) {m:Nat} (hm:m<=1073741824) {es:List D} (hes:∀ d∈es,Some m d) (hl:es.length<=1000) (a:Option Addr) (c:Nat) (N:Nat) (Q:QT [.ag 9])
  (hQ:∀ d' N',N<=N'->Some (3+es.length*m) d'->Own N N' d'->Q d' N'):ACalls prog 187 [.ag 9] [.str s,.sv a 9 es c] N Q:=
 zJY N s a es c Q fun _ N1 hN1=>zPB 4 hm hes hl a c N1 _ fun d' N2 hN2 hd ho _ _ N3 hN3=>hQ _ _ (by omega) (zHx hd hs) ((zNh hd ho s).mono hN1 hN3)
theorem zAV (k n:Int) (s:ByteArray) (hs:s.size<=4611686018427387904):Some 3 (.ag [.lit (.int .i64 k),.lit (.string s),.lit (.string (bytes [])),.lit (.int .i64 n),.lit (.int .i64 0),.sl none 2 [] 0,.lit (.int .i64 0),.sl none 2 [] 0,.sl none 9 [] 0]):=
 zHx (s:=s) ⟨_,zQ8 k n,by simp only [Tm.cnt,Ty.cnt,zG,yG];omega⟩ hs
theorem zRd (s:ByteArray) (hs:s.size<=4611686018427387904) (N:Nat) (Q:QT [.ag 9]) (hQ:∀ d' N',N<=N'->Some 3 d'->Q d' N'):ACalls prog 155 [.ag 9] [.str s] N Q:=
 zIa N s Q fun N1 hN1=>hQ _ _ hN1 (zAV 1 0 s hs)
theorem zRu (n:Int) (N:Nat) (Q:QT [.ag 9]) (hQ:∀ d' N',N<=N'->Some 3 d'->Q d' N'):ACalls prog 204 [.ag 9] [.int .i64 n] N Q:=
 zIb N n Q fun N1 hN1=>hQ _ _ hN1 (zAV 2 n (bytes []) (by decide))
theorem zQ0 (n:Int) (N:Nat) (Q:QT [.ag 9]) (hQ:∀ d' N',N<=N'->Some 3 d'->Q d' N'):ACalls prog 205 [.ag 9] [.int .i64 n] N Q:=
 zF1 N n Q fun N1 hN1=>hQ _ _ hN1 (zAV 3 n (bytes []) (by decide))
theorem zRz {s:ByteArray} (hs:s.size<=4611686018427387904) {m:Nat} (hm:m<=1073741824) {d e:D} (hd:Some m d) (he:Some m e) (N:Nat) (Q:QT [.ag 9])
  (hQ:∀ d' N',N<=N'->Some (3+2*m) d'->Q d' N'):ACalls prog 186 [.ag 9] [.str s,.dg 9 d,.dg 9 e] N Q:=by
 obtain ⟨t,h1,h2⟩:=hd
 obtain ⟨u,h3,h4⟩:=he
 refine zQI s hs t u d e h1 h3 (by omega) (by omega) N _ fun d' N' hN' hx _=>hQ d' N' hN' ⟨_,hx,?_⟩
 simp only [Tm.letN,Tm.cnt,Ty.cnt,zG,yG]
 omega
theorem zRq {s:ByteArray} (hs:s.size<=4611686018427387904) {ty:Ty} {x1:D} (h1:ty.Is x1) (hc1:ty.cnt<=1073741824) {m:Nat} (hm:m<=1073741824) {d:D} (hd:Some m d) (N:Nat) (Q:QT [.ag 9])
  (hQ:∀ d' N',N<=N'->Some (2+ty.cnt+m) d'->Q d' N'):ACalls prog 161 [.ag 9] [.str s,.dg 2 x1,.dg 9 d] N Q:=by
 obtain ⟨t,h2,h3⟩:=hd
 refine zIr N s x1 d Q fun _ _=>⟨⟨rfl,rfl⟩,fun a _ N1 hN1 hbel=>?_⟩
 refine zGE 6 (zGy h2) (by simp) (by simpa using (by omega:t.cnt<=1073741824)) a 1 N1 _ fun x N2 hN2 hx ho _=>⟨vv hbel ho,fun _ N3 hN3=>?_⟩
 refine zH ty x1 h1 hc1 N3 _ fun x' N4 hN4 hx' ho' _ _ N5 hN5=>?_
 obtain ⟨t0,t1,r0,r1,a',es,c,rfl,hh,hlen,hes⟩:=Tm.is_mk.1 hx
 refine hQ _ _ (by omega) ⟨.mk 6 s (bytes []) 0 ty (.mk 0 []) [t],Tm.is_mk.2 ⟨_,_,_,_,_,_,_,rfl,⟨hs,hh.ot,Ty.is_cells hx',hh.re⟩,hlen,hes⟩,?_⟩
 simp only [Tm.cnt,Ty.cnt,zG,yG]
 omega
/-- a type by its form -/
inductive Wf:Ty->Prop
 | int:Wf tInt
 | bool:Wf tBool
 | fn {a b:Ty}:Wf a->Wf b->Wf (vP a b)
 | code {a:Ty}:Wf a->Wf (rr a)
theorem zLo {t:Ty} (hw:Wf t):t.cnt<=1000->∀ {d:D} (_:t.Is d) (n:Int) {es:List D} {i:Int} (_:Cu es i) (a:Option Addr) (c:Nat) (h:Int) (N:Nat) (Q:QT [.ag 9,.sl 0,.int .i64,.int .i64])
  (_:∀ d' a' es' c' i' h' N',N<=N'->Cu es' i'->Some (4*t.cnt) d'->Q d' a' es' c' i' h' N'),BCalls prog 158 [.ag 9,.sl 0,.int .i64,.int .i64] [.pb 0 0 0 0,.dg 2 d,.int .i64 n] [.var [.sv a 0 es c,.int .i64 i,.int .i64 h]] N Q:=by
 induction hw with
 | int=>
   intro hc d hd n es i hcu a c h N Q hQ
   obtain ⟨b,fs,k,rfl,_,h2⟩:=Ty.is_mk.1 hd
   refine xM N _ n a es c i h Q fun E _ _=>⟨1,rfl,Br.beq (fun _ N1 hN1=>?_) fun h=>absurd rfl h⟩
   exact yo hcu 4 (by omega) a c h N1 _ fun x a' es' c' i' h' N2 hN2 hc' _ _ _ _ _ N3 hN3=>zRu x N3 _ fun d' N4 hN4 hd' _ _=>⟨wG,fun N5 hN5=>hQ _ _ _ _ _ _ _ (by omega) hc' (hd'.mono (by simp [tInt,Ty.cnt,zG]))⟩
 | bool=>
   intro hc d hd n es i hcu a c h N Q hQ
   obtain ⟨b,fs,k,rfl,_,h2⟩:=Ty.is_mk.1 hd
   refine xM N _ n a es c i h Q fun E _ _=>⟨2,rfl,Br.beq (fun h=>absurd h (by decide)) fun _=>Br.beq (fun _ N1 hN1=>?_) fun h=>absurd rfl h⟩
   exact yo hcu 2 (by omega) a c h N1 _ fun x a' es' c' i' h' N2 hN2 hc' _ _ _ _ _ N3 hN3=>zQ0 x N3 _ fun d' N4 hN4 hd' _ _=>⟨wG,fun N5 hN5=>hQ _ _ _ _ _ _ _ (by omega) hc' (hd'.mono (by simp [tBool,Ty.cnt,zG]))⟩
 | @fn u v hu hv ihu ihv=>
   intro hc d hd n es i hcu a c h N Q hQ
   have hcc:(vP u v).cnt=1+(u.cnt+(v.cnt+0)):=rfl
   obtain ⟨b,fs,k,rfl,hfl,d1,_,rfl,h3,d2,_,rfl,h4,rfl⟩:=Ty.is_mk.1 hd
   refine xM N _ n a es c i h Q fun E _ _=>⟨3,rfl,Br.beq (fun h=>absurd h (by decide)) fun _=>Br.beq (fun h=>absurd h (by decide)) fun _=>Br.beq (fun _=>⟨_,_,_,rfl,⟨by simp,by simp⟩,_,_,_,rfl,⟨by simp,by simp⟩,fun N1 hN1=>?_⟩) fun h=>absurd rfl h⟩
   refine ihv (by omega) h4 n hcu a c h N1 _ fun x a' es' c' i' h' N2 hN2 hc' hx _ _ _ N3 hN3=>?_
   exact zRq (by decide) h3 (by omega) (by omega) hx N3 _ fun y N4 hN4 hy _ _=>⟨wG,fun N5 hN5=>hQ _ _ _ _ _ _ _ (by omega) hc' (hy.mono (by omega))⟩
 | @code u hu ihu=>
   intro hc d hd n es i hcu a c h N Q hQ
   have hcc:(rr u).cnt=1+(u.cnt+0):=rfl
   obtain ⟨b,fs,k,rfl,hfl,d1,_,rfl,h3,rfl⟩:=Ty.is_mk.1 hd
   refine xM N _ n a es c i h Q fun E _ _=>⟨4,rfl,Br.beq (fun h=>absurd h (by decide)) fun _=>Br.beq (fun h=>absurd h (by decide)) fun _=>Br.beq (fun h=>absurd h (by decide)) fun _=>⟨_,_,_,rfl,⟨by simp,by simp⟩,fun N1 hN1=>?_⟩⟩
   refine ihu (by omega) h3 _ hcu a c h N1 _ fun x a' es' c' i' h' N2 hN2 hc' hx _ _ _=>⟨⟨rfl,rfl⟩,⟨rfl,rfl⟩,⟨rfl,rfl⟩,fun a7 N3 hN3 _=>⟨wG,fun N4 hN4=>hQ _ _ _ _ _ _ _ (by omega) hc' ?_⟩⟩
   obtain ⟨e,h5,h6⟩:=hx
   refine ⟨.mk 10 (bytes []) (bytes []) 0 (.mk 0 []) (.mk 0 []) [e],Tm.is_mk.2 ⟨_,_,_,_,_,_,_,rfl,⟨by decide,by decide,xw 0,xw 0⟩,by simp,zGy h5⟩,?_⟩
   simp only [Tm.cnt,Ty.cnt,zG,yG]
   omega
theorem zNf:Some 3 (.ag [.lit (.int .i64 0),.lit (.string (bytes [])),.lit (.string (bytes [])),.lit (.int .i64 0),.lit (.int .i64 0),.sl none 2 [] 0,.lit (.int .i64 0),.sl none 2 [] 0,.sl none 9 [] 0]):=zAV 0 0 (bytes []) (by decide)
/-- a variable of a type, if there is one -/
theorem zLw {g:List Tg} {es0:List D} (ctx:Ctx g es0) (hg:g.length<=1000000) {t:Ty} {d:D} (hd:t.Is d) (n:Int) (a0:Option Addr) (c0:Nat) {es:List D} {i:Int} (hcu:Cu es i) (a:Option Addr) (c:Nat) (h:Int) (N:Nat) (Q:QT [.ag 9,.bool,.sl 0,.int .i64,.int .i64])
  (hQ:∀ d' b a' es' c' i' h' N',N<=N'->Cu es' i'->Some 3 d'->Q d' b a' es' c' i' h' N'):BCalls prog 157 [.ag 9,.bool,.sl 0,.int .i64,.int .i64] [.pb 0 0 0 0,.sv a0 4 es0 c0,.dg 2 d,.int .i64 n] [.var [.sv a 0 es c,.int .i64 i,.int .i64 h]] N Q:=by
 have hl:=ctx.all.len
 refine zAx N a0 es0 c0 d n a es c i h Q fun E _ _ _=>?_
 refine up ctx.all ctx.len (fun k xs=>∀ (r:List D) (q N':Nat),N<=N'->(∀ x∈r,Some 3 x)->r.length<=k->ze E Q N a0 es0 c0 n r.length q k a es c i h d 0 (bytes []) (bytes []) 0 0 none [] 0 0 none [] 0 none [] 0 r q N') ?_ ?_ [] 0 N (oE _) (by simp) (by simp)
 ·intro k hlt hk r q N' hN' hr hrl
  refine tw _ _ _ _ _ _ _ _ _ _ _ _ _ _ _ _ _ _ _ _ _ _ _ _ _ _ _ _ _ _ _ _ _ _ ?_
  rw [hlt]
  refine Br.beq (fun _=>⟨wG,fun N1 hN1=>hQ _ _ _ _ _ _ _ _ (by omega) hcu zNf⟩) fun h0 N1 hN1=>?_
  refine yo hcu _ (by omega) a c h N1 _ fun x a' es' c' i' h' N2 hN2 hc' x0 x1 _ _ _=>?_
  have x1:=x1 (by omega)
  exact ⟨⟨x0,x1,by omega⟩,by omega,wG,fun N3 hN3=>hQ _ _ _ _ _ _ _ _ (by omega) hc' (hr _ (zFg (by omega)))⟩
 ·intro k x xs hat _ ih r q N' hN' hr hrl
  have hb:=hat.b
  obtain ⟨t0,t1,hd',hnm,hty⟩:=hat.r
  have skip:∀ N'',N<=N''->ze E Q N a0 es0 c0 n r.length q (IntKind.i64.wrap ((k:Int)+1)) a es c i h d 0 (bytes []) (bytes []) 0 0 none [] 0 0 none [] 0 none [] 0 r q N'':=fun N'' h=>by
   rw [hat.w];exact ih r q N'' h hr (by omega)
  refine tw _ _ _ _ _ _ _ _ _ _ _ _ _ _ _ _ _ _ _ _ _ _ _ _ _ _ _ _ _ _ _ _ _ _ ?_
  rw [hat.lt]
  simp only [oH]
  rw [hd']
  have bd:(0:Int)<=(k:Int)/\(k:Int)<(es0.length:Int):=⟨by omega,by omega⟩
  refine ⟨bd,x.lv,rfl,Br.beq (fun _=>⟨bd,fun N1 hN1=>?_⟩) fun _=>skip N' hN'⟩
  refine xj x.ty t _ d hty hd N1 _ fun N2 hN2 _=>Br.of (fun _=>⟨bd,x.nm,rfl,fun N3 hN3=>?_⟩) fun _=>skip N2 (by omega)
  refine vQ ctx a0 c0 x.nm N3 _ fun N4 hN4 _=>Br.beq (fun _=>⟨bd,x.nm,rfl,fun N5 hN5=>?_⟩) fun _=>skip N4 (by omega)
  refine zRd x.nm hnm N5 _ fun y N6 hN6 hy _ _=>⟨⟨by trivial,by trivial⟩,by unfold zA;rw [oI];simp only [oJ,oN];omega,fun c1=>?_⟩
  rw [hat.w]
  exact ih (r++[y]) c1 N6 (by omega) (fun z hz=>by
   rcases oM.1 hz with hz | hz
   ·exact hr z hz
   ·rw [o5] at hz;subst hz;exact hy) (by simp;omega)
/-- parameters -/
theorem zNe {es:List D} {i:Int} (hcu:Cu es i) (a:Option Addr) (c:Nat) (h:Int) (N:Nat) (Q:QT [.row 47 4,.sl 0,.int .i64,.int .i64])
  (hQ:∀ g e1 c1 a' es' c' i' h' N',N<=N'->Cu es' i'->Pms g e1->1<=g.length->g.length<=4->(∀ x∈g,x.ty.cnt<=1)->Q e1 c1 a' es' c' i' h' N'):BCalls prog 128 [.row 47 4,.sl 0,.int .i64,.int .i64] [.pb 0 0 0 0] [.var [.sv a 0 es c,.int .i64 i,.int .i64 h]] N Q:=by
 refine qd N a es c i h Q fun E _ N1 hN1=>yo hcu 4 (by omega) a c h N1 _ fun x a' es' c' i' h' N2 hN2 hc' x0 x1 _ _ _=>?_
 have x1:=x1 (by omega)
 rw [i64_in (1+x) (by omega)]
 have key:∀ (m k:Nat) (g:List Pm) (r:List D) (q N':Nat) (a es c i h),(k:Int)+m=1+x->N<=N'->Cu es i->All2 Pm.Is g r->g.length=k->(∀ x∈g,x.ty.cnt<=1)->z4 E Q N r.length q (1+x) k a es c i h r q N':=by
  intro m
  induction m with
  | zero=>
    intro k g r q N' a es c i h hk hN' hcu hr hgl hgc
    have hrl:=hr.len
    refine uU _ _ _ _ _ _ _ _ _ _ _ _ _ _ _ (Br.dec (fun hlt=>by omega) fun _=>⟨wG,⟨rfl,rfl⟩,fun N4 hN4=>hQ g _ _ _ _ _ _ _ _ (by omega) hcu ⟨by omega,hr⟩ (by omega) (by omega) hgc⟩)
  | succ m ih=>
    intro k g r q N' a es c i h hk hN' hcu hr hgl hgc
    have hrl:=hr.len
    refine uU _ _ _ _ _ _ _ _ _ _ _ _ _ _ _ (Br.dec (fun _ N3 hN3=>?_) fun hlt=>by omega)
    have nm:∃ s,List.getD [D.lit (.string (bytes [120])),D.lit (.string (bytes [121])),D.lit (.string (bytes [110])),D.lit (.string (bytes [98]))] (0+(k:Int).toNat) default=D.lit (.string s)/\s.size<=4611686018427387904:=by
     have:k=0\/k=1\/k=2\/k=3:=by omega
     rcases this with rfl | rfl | rfl | rfl<;>exact ⟨_,rfl,by decide⟩
    obtain ⟨s,hs,hsz⟩:=nm
    have next:∀ (t:Ty) (y:D) (b:Bool) (a es c i h) (N'' c2:Nat),t.Is y->t.cnt<=1->N<=N''->Cu es i->z4 E Q N (r++[D.ag [.lit (.string s),y.cell 0,y.cell 1,.lit (.bool b)]]).length c2 (1+x) (IntKind.i64.wrap ((k:Int)+1)) a es c i h (r++[D.ag [.lit (.string s),y.cell 0,y.cell 1,.lit (.bool b)]]) c2 N'':=fun t y b a es c i h N'' c2 hy ht hN hcu=>by
     rw [i64_in ((k:Int)+1) (by omega)]
     have:=ih (k+1) (g++[⟨s,t,b⟩]) _ c2 N'' a es c i h (by omega) hN hcu (hr.snoc (t:=(⟨s,t,b⟩:Pm)) ⟨_,_,rfl,hsz,Ty.is_cells hy⟩) (by simp [hgl]) (fun z hz=>by
      rcases oM.1 hz with hz | hz
      ·exact hgc z hz
      ·rw [o5] at hz;subst hz;exact ht)
     exact this
    have bnd:∀ z:D,zA r [z] 56:=fun z=>by unfold zA;rw [oI];simp only [oJ,oN];omega
    refine xv N3 _ fun y N4 hN4 hy _ _ _=>Br.beq (fun _ N5 hN5=>?_) fun _=>⟨⟨by omega,by omega,by omega⟩,by omega,s,hs,fun N5 hN5=>?_⟩
    ·refine vO N5 _ fun y N6 hN6 hy _ _ _=>⟨⟨by omega,by omega,by omega⟩,by omega,s,hs,fun N7 hN7=>?_⟩
     exact zBO hcu 2 (by omega) a c h N7 _ fun b a' es' c' i' h' N8 hN8 hc' _ _=>⟨⟨rfl,rfl⟩,bnd _,fun c2=>next tBool y b _ _ _ _ _ _ _ hy (by simp [tBool,Ty.cnt,zG]) (by omega) hc'⟩
    ·exact zBO hcu 2 (by omega) a c h N5 _ fun b a' es' c' i' h' N8 hN8 hc' _ _=>⟨⟨rfl,rfl⟩,bnd _,fun c2=>next tInt y b _ _ _ _ _ _ _ hy (by simp [tInt,Ty.cnt,zG]) (by omega) hc'⟩
 exact key (1+x).toNat 0 [] [] 0 N2 a' es' c' i' h' (by omega) (by omega) hc' rfl rfl (by simp)
/-- arguments -/
theorem zQ7 {g:List Pm} {es0:List D} (hg:Pms g es0) (hgl:g.length<=1000000) (a0:Option Addr) (c0:Nat) {es:List D} {i:Int} (hcu:Cu es i) (a:Option Addr) (c:Nat) (h:Int) (N:Nat) (Q:QT [.row 3 0,.sl 0,.int .i64,.int .i64])
  (hQ:∀ ns c1 a' es' c' i' h' N',N<=N'->Cu es' i'->ns.length=g.length->Q (yj ns) c1 a' es' c' i' h' N'):BCalls prog 60 [.row 3 0,.sl 0,.int .i64,.int .i64] [.pb 0 0 0 0,.sv a0 4 es0 c0] [.var [.sv a 0 es c,.int .i64 i,.int .i64 h]] N Q:=by
 have hl:=hg.all.len
 refine zAq N a0 es0 c0 a es c i h Q fun E _ _=>?_
 refine up hg.all hg.len (fun k xs=>∀ (ns:List Int) (q N':Nat) (a es c i h),N<=N'->Cu es i->ns.length=k->yJ E Q N a0 es0 c0 (yj ns).length q k a es c i h (yj ns) q N') ?_ ?_ [] 0 N a es c i h (oE _) hcu rfl
 ·intro k hlt hk ns q N' a es c i h hN' hcu hnl
  refine sC _ _ _ _ _ _ _ _ _ _ _ _ _ _ _ _ _ ?_
  rw [hlt]
  exact ⟨wG,⟨rfl,rfl⟩,fun N4 hN4=>hQ ns _ _ _ _ _ _ _ (by omega) hcu (by omega)⟩
 ·intro k x xs hat _ ih ns q N' a es c i h hN' hcu hnl
  have hb:=hat.b
  have hnl2:=v6 ns
  obtain ⟨t0,t1,hd',hnm,hty⟩:=hat.r
  obtain ⟨b,fs,kk,ht,_,_⟩:∃ b fs kk,(D.ag [t0,t1])=.ag [.lit (.int .i64 x.ty.k),.sl b 2 fs kk]/\True/\True:=by
   cases hx:x.ty with
   | mk k l=>rw [hx] at hty;obtain ⟨b,fs,kk,h1,_,_⟩:=Ty.is_mk.1 hty;exact ⟨b,fs,kk,h1,trivial,trivial⟩
  obtain ⟨rfl,rfl⟩:t0=.lit (.int .i64 x.ty.k)/\t1=.sl b 2 fs kk:=by simpa using ht
  refine sC _ _ _ _ _ _ _ _ _ _ _ _ _ _ _ _ _ ?_
  rw [hat.lt]
  simp only [oH]
  rw [hd']
  refine fun N1 hN1=>?_
  refine vo (l:=[0,1,2,3,10006,500]) hcu (by decide) (by decide) a c h 6 6 N1 _ fun s a' es' c' i' h' N2 hN2 hc' _ _ _ _=>⟨⟨by omega,by omega⟩,x.ty.k,rfl,?_⟩
  have next:∀ (m:Int) (c2:Nat),yJ E Q N a0 es0 c0 (yj ns++[D.lit (.int .i64 m)]).length c2 (IntKind.i64.wrap ((k:Int)+1)) a' es' c' i' h' (yj ns++[D.lit (.int .i64 m)]) c2 N2:=fun m c2=>by
   have e:yj ns++[D.lit (.int .i64 m)]=yj (ns++[m]):=by simp [yj]
   rw [e,hat.w]
   exact ih (ns++[m]) c2 N2 _ _ _ _ _ (by omega) hc' (by simp [hnl])
  have bnd:∀ z:D,zA (yj ns) [z] 8:=fun z=>by unfold zA;rw [oI];simp only [oJ,oN];omega
  exact Br.beq (fun _=>⟨by decide,⟨by trivial,by trivial⟩,bnd _,fun c2=>next _ c2⟩) fun _=>⟨⟨by trivial,by trivial⟩,bnd _,fun c2=>next _ c2⟩
end Go.Proofs.YtkdjhkfiolhkiaaGreat
set_option maxRecDepth 100000
namespace Go.Proofs.YtkdjhkfiolhkiaaGreat
open Go Go.Proofs Go.Proofs.Tryz Go.IntWalk
/-- a base type -/
def Bs (t:Ty):Prop:=t=tInt\/t=tBool
theorem Bs.wf {t:Ty} (h:Bs t):Wf t:=by rcases h with rfl | rfl;exact .int;exact .bool
theorem Bs.cnt {t:Ty} (h:Bs t):t.cnt=1:=by rcases h with rfl | rfl<;>rfl
theorem Bs.cell {t:Ty} {d:D} (h:Bs t) (hd:t.Is d):∃ n:Int,d.cell 0=.lit (.int .i64 n):=by
 rcases h with rfl | rfl<;>obtain ⟨b,fs,k,rfl,_,_⟩:=Ty.is_mk.1 hd<;>exact ⟨_,rfl⟩
theorem zOj {f:Nat} (h:1<=f):3+3*4 ^ f<=4 ^ (f+1)/\4<=4 ^ f:=by
 have h1:4 ^ 1<=4 ^ f:=Nat.pow_le_pow_right (by decide) h
 rw [Nat.pow_succ]
 omega
theorem zRC {f:Nat} (h:f<=10):4 ^ (f+1)<=1073741824:=oW (Nat.pow_le_pow_right (by decide) (by omega:f+1<=11)) (by decide)
theorem zSM {s a b c d:ByteArray} (h:s∈[a,b,c,d]) (ha:a.size<=1000) (hb:b.size<=1000) (hc:c.size<=1000) (hd:d.size<=1000):s.size<=1000:=by
 simp only [oG,o3,nz] at h
 rcases h with rfl | rfl | rfl | rfl<;>assumption
theorem zRn:∀ (f:Nat),f<=10->∀ {g:List Tg} {es0:List D} (_:Ctx g es0) (_:g.length+f<=1000) {t:Ty} (_:Bs t) {d:D} (_:t.Is d) (n:Int) (_:n<=f) (a0:Option Addr) (c0:Nat) {es:List D} {i:Int} (_:Cu es i) (a:Option Addr) (c:Nat) (h:Int) (N:Nat) (Q:QT [.ag 9,.sl 0,.int .i64,.int .i64])
  (_:∀ d' a' es' c' i' h' N',N<=N'->Cu es' i'->Some (4 ^ (f+1)) d'->Q d' a' es' c' i' h' N'),BCalls prog 129 [.ag 9,.sl 0,.int .i64,.int .i64] [.pb 0 0 0 0,.sv a0 4 es0 c0,.dg 2 d,.int .i64 n] [.var [.sv a 0 es c,.int .i64 i,.int .i64 h]] N Q:=by
 intro f
 induction f with
 | zero=>
   intro _ g es0 ctx hg t hb d hd n hn a0 c0 es i hcu a c h N Q hQ
   have J:∀ (E:Env) a es c i h N',N<=N'->Cu es i->zr E Q N a0 es0 c0 n a es c i h d 0 (bytes []) (bytes []) 0 0 none [] 0 0 none [] 0 none [] 0 N':=fun E a es c i h N' hN' hcu=>by
    refine sL _ _ _ _ _ _ _ _ _ _ _ _ _ _ _ _ _ _ _ _ _ _ _ _ _ _ _ _ _ (Br.dec (fun _ N1 hN1=>zLo hb.wf (by rw [hb.cnt];omega) hd 0 hcu a c h N1 _ fun x a' es' c' i' h' N2 hN2 hc' hx _ _ _=>⟨wG,fun N3 hN3=>hQ _ _ _ _ _ _ _ (by omega) hc' (hx.mono (by rw [hb.cnt];decide))⟩) fun hlt=>by omega)
   have K:∀ (E:Env) a es c i h N1,N<=N1->Cu es i->BCalls prog 157 [.ag 9,.bool,.sl 0,.int .i64,.int .i64] [.pb 0 0 0 0,.sv a0 4 es0 c0,.dg 2 d,.int .i64 0] [.var [.sv a 0 es c,.int .i64 i,.int .i64 h]] N1 (fun x b a es c i h N4=>N1<=N4->Bel N4 x->Bel N4 (D.sl a 0 es c)->Br b (wh E [.var [.sv none 0 [] 0,.int .i64 0,.int .i64 0]]/\∀ N5,N4<=N5->Q x a es c i h N5) (zr E Q N a0 es0 c0 n a es c i h d 0 (bytes []) (bytes []) 0 0 none [] 0 0 none [] 0 none [] 0 N4)):=fun E a es c i h N1 hN1 hcu=>
    zLw ctx (by omega) hd 0 a0 c0 hcu a c h N1 _ fun x b a' es' c' i' h' N2 hN2 hc' hx _ _ _=>Br.of (fun _=>⟨wG,fun N3 hN3=>hQ _ _ _ _ _ _ _ (by omega) hc' (hx.mono (by decide))⟩) fun _=>J E _ _ _ _ _ N2 (by omega) hc'
   exact sB N a0 es0 c0 d n a es c i h Q fun E _ _ _ N1 hN1=>zBO hcu 3 (by omega) a c h N1 _ fun b a' es' c' i' h' N2 hN2 hc' _ _=>Br.not (fun _ N3 hN3=>K E _ _ _ _ _ N3 (by omega) hc') fun _=>Br.dec (fun _ N3 hN3=>K E _ _ _ _ _ N3 (by omega) hc') fun _=>J E _ _ _ _ _ N2 (by omega) hc'
 | succ f ihf=>
   intro hf10 g es0 ctx hg t hb d hd n hn a0 c0 es i hcu a c h N Q hQ
   have ps:=zOj (f:=f+1) (by omega)
   have ple:=zRC (f:=f) (by omega)
   have ih:=@ihf (by omega)
   have J:∀ (E:Env) a es c i h N',N<=N'->Cu es i->zr E Q N a0 es0 c0 n a es c i h d 0 (bytes []) (bytes []) 0 0 none [] 0 0 none [] 0 none [] 0 N':=fun E a es c i h N' hN' hcu=>by
    refine sL _ _ _ _ _ _ _ _ _ _ _ _ _ _ _ _ _ _ _ _ _ _ _ _ _ _ _ _ _ (Br.dec (fun _ N1 hN1=>zLo hb.wf (by rw [hb.cnt];omega) hd 0 hcu a c h N1 _ fun x a' es' c' i' h' N2 hN2 hc' hx _ _ _=>⟨wG,fun N3 hN3=>hQ _ _ _ _ _ _ _ (by omega) hc' (hx.mono (by rw [hb.cnt];omega))⟩) fun hlt N1 hN1=>?_)
    rw [i64_in (n - 1) (by omega)]
    obtain ⟨kk,hkk⟩:=hb.cell hd
    refine xv N1 _ fun y N2 hN2 hy _ _ _ N3 hN3=>yo hcu 5 (by omega) a c h N3 _ fun x a1 es1 c1 i1 h1 N4 hN4 hc1 _ _ _ _ _=>Br.beq (fun _ N5 hN5=>?_) fun _=>Br.beq (fun _ N5 hN5=>?_) fun _=>⟨kk,hkk,Br.beq (fun _ N5 hN5=>?_) fun _ N5 hN5=>?_⟩
    ·refine vO N5 _ fun z N6 hN6 hz _ _ _ N7 hN7=>?_
     refine ih ctx (by omega) (.inr rfl) hz _ (by omega) a0 c0 hc1 a1 c1 h1 N7 _ fun x1 a2 es2 c2 i2 h2 N8 hN8 hc2 hx1 _ _ _ N9 hN9=>?_
     refine ih ctx (by omega) hb hd _ (by omega) a0 c0 hc2 a2 c2 h2 N9 _ fun x2 a3 es3 c3 i3 h3 N10 hN10 hc3 hx2 _ _ _ N11 hN11=>?_
     refine ih ctx (by omega) hb hd _ (by omega) a0 c0 hc3 a3 c3 h3 N11 _ fun x3 a4 es4 c4 i4 h4 N12 hN12 hc4 hx3 _ _ _=>⟨⟨rfl,rfl⟩,fun a5 _ N13 hN13 hbel=>?_⟩
     refine zPB 5 ple (es:=[x1,x2,x3]) (by simp only [oG,o3,nz];rintro _ (rfl | rfl | rfl)<;>assumption) (by simp) a5 3 N13 _ fun u N14 hN14 hu ho _=>⟨vv hbel ho,fun _=>⟨wG,fun N15 hN15=>hQ _ _ _ _ _ _ _ (by omega) hc4 (hu.mono (by simp only [oJ,oN];omega))⟩⟩
    ·refine rA (l:=[bytes [120],bytes [117],bytes [118],bytes [121]]) hc1 (by decide) (by decide) a1 c1 h1 4 4 N5 _ fun s a2 es2 c2 i2 h2 N6 hN6 hc2 hs _ _ _ N7 hN7=>?_
     have hs:=zSM hs (by decide) (by decide) (by decide) (by decide)
     refine ih ctx (by omega) (.inl rfl) hy _ (by omega) a0 c0 hc2 a2 c2 h2 N7 _ fun x1 a3 es3 c3 i3 h3 N8 hN8 hc3 hx1 _ _ _ N9 hN9=>?_
     refine yi ctx (by omega) a0 c0 (s:=s) (by omega) hy 0 N9 _ fun a9 es9 c9 N10 hN10 ctx2 _ _ N11 hN11=>?_
     refine ih ctx2 (by simp;omega) hb hd _ (by omega) a9 c9 hc3 a3 c3 h3 N11 _ fun x2 a4 es4 c4 i4 h4 N12 hN12 hc4 hx2 _ _ _ N13 hN13=>?_
     refine zRz (by omega) ple hx1 hx2 N13 _ fun u N14 hN14 hu _ _=>⟨wG,fun N15 hN15=>hQ _ _ _ _ _ _ _ (by omega) hc4 (hu.mono (by omega))⟩
    ·refine rA (l:=[bytes [43],bytes [42],bytes [45]]) hc1 (by decide) (by decide) a1 c1 h1 3 3 N5 _ fun s a2 es2 c2 i2 h2 N6 hN6 hc2 hs _ _ _ N7 hN7=>?_
     have hs:s.size<=1000:=by
      simp only [oG,o3,nz] at hs
      rcases hs with rfl | rfl | rfl<;>decide
     refine ih ctx (by omega) (.inl rfl) hy _ (by omega) a0 c0 hc2 a2 c2 h2 N7 _ fun x1 a3 es3 c3 i3 h3 N8 hN8 hc3 hx1 _ _ _ N9 hN9=>?_
     refine ih ctx (by omega) (.inl rfl) hy _ (by omega) a0 c0 hc3 a3 c3 h3 N9 _ fun x2 a4 es4 c4 i4 h4 N10 hN10 hc4 hx2 _ _ _=>⟨⟨rfl,rfl⟩,fun a5 _ N13 hN13 hbel=>?_⟩
     refine zRW (by omega) ple (es:=[x1,x2]) (by simp only [oG,o3,nz];rintro _ (rfl | rfl)<;>assumption) (by simp) a5 2 N13 _ fun u N14 hN14 hu ho _=>⟨vv hbel ho,fun _=>⟨wG,fun N15 hN15=>hQ _ _ _ _ _ _ _ (by omega) hc4 (hu.mono (by simp only [oJ,oN];omega))⟩⟩
    ·refine zBO hc1 4 (by omega) a1 c1 h1 N5 _ fun b a2 es2 c2 i2 h2 N6 hN6 hc2 _ _=>Br.of (fun _ N7 hN7=>?_) fun _ N7 hN7=>?_
     ·refine ih ctx (by omega) hb hd _ (by omega) a0 c0 hc2 a2 c2 h2 N7 _ fun x1 a3 es3 c3 i3 h3 N8 hN8 hc3 hx1 _ _ _=>⟨⟨rfl,rfl⟩,fun a5 _ N13 hN13 hbel=>?_⟩
      refine zRW (by decide) ple (es:=[x1]) (by simp only [oG,o3,nz];rintro _ rfl;assumption) (by simp) a5 1 N13 _ fun u N14 hN14 hu ho _=>⟨vv hbel ho,fun _=>⟨wG,fun N15 hN15=>hQ _ _ _ _ _ _ _ (by omega) hc3 (hu.mono (by simp only [oJ,oN];omega))⟩⟩
     ·refine rA (l:=[bytes [61],bytes [60]]) hc2 (by decide) (by decide) a2 c2 h2 2 2 N7 _ fun s a3 es3 c3 i3 h3 N8 hN8 hc3 hs _ _ _ N9 hN9=>?_
      have hs:s.size<=1000:=by
       simp only [oG,o3,nz] at hs
       rcases hs with rfl | rfl<;>decide
      refine ih ctx (by omega) (.inl rfl) hy _ (by omega) a0 c0 hc3 a3 c3 h3 N9 _ fun x1 a4 es4 c4 i4 h4 N10 hN10 hc4 hx1 _ _ _ N11 hN11=>?_
      refine ih ctx (by omega) (.inl rfl) hy _ (by omega) a0 c0 hc4 a4 c4 h4 N11 _ fun x2 a5 es5 c5 i5 h5 N12 hN12 hc5 hx2 _ _ _=>⟨⟨rfl,rfl⟩,fun a6 _ N13 hN13 hbel=>?_⟩
      refine zRW (by omega) ple (es:=[x1,x2]) (by simp only [oG,o3,nz];rintro _ (rfl | rfl)<;>assumption) (by simp) a6 2 N13 _ fun u N14 hN14 hu ho _=>⟨vv hbel ho,fun _=>⟨wG,fun N15 hN15=>hQ _ _ _ _ _ _ _ (by omega) hc5 (hu.mono (by simp only [oJ,oN];omega))⟩⟩
   have K:∀ (E:Env) a es c i h N1,N<=N1->Cu es i->BCalls prog 157 [.ag 9,.bool,.sl 0,.int .i64,.int .i64] [.pb 0 0 0 0,.sv a0 4 es0 c0,.dg 2 d,.int .i64 0] [.var [.sv a 0 es c,.int .i64 i,.int .i64 h]] N1 (fun x b a es c i h N4=>N1<=N4->Bel N4 x->Bel N4 (D.sl a 0 es c)->Br b (wh E [.var [.sv none 0 [] 0,.int .i64 0,.int .i64 0]]/\∀ N5,N4<=N5->Q x a es c i h N5) (zr E Q N a0 es0 c0 n a es c i h d 0 (bytes []) (bytes []) 0 0 none [] 0 0 none [] 0 none [] 0 N4)):=fun E a es c i h N1 hN1 hcu=>
    zLw ctx (by omega) hd 0 a0 c0 hcu a c h N1 _ fun x b a' es' c' i' h' N2 hN2 hc' hx _ _ _=>Br.of (fun _=>⟨wG,fun N3 hN3=>hQ _ _ _ _ _ _ _ (by omega) hc' (hx.mono (by omega))⟩) fun _=>J E _ _ _ _ _ N2 (by omega) hc'
   exact sB N a0 es0 c0 d n a es c i h Q fun E _ _ _ N1 hN1=>zBO hcu 3 (by omega) a c h N1 _ fun b a' es' c' i' h' N2 hN2 hc' _ _=>Br.not (fun _ N3 hN3=>K E _ _ _ _ _ N3 (by omega) hc') fun _=>Br.dec (fun _ N3 hN3=>K E _ _ _ _ _ N3 (by omega) hc') fun _=>J E _ _ _ _ _ N2 (by omega) hc'
theorem zMn {g:List Pm} {es:List D} (h:Pms g es) (hg:g.length<=1000000) (a:Option Addr) (c:Nat) (N:Nat) (Q:QT [.sl 4])
  (hQ:∀ a' es' c' N',N<=N'->Ctx (yc g) es'->(∀ x∈(D.sl a' 4 es' c').foot,x∈zD es\/N<=x)->Q a' es' c' N'):ACalls prog 87 [.sl 4] [.sv a 4 es c] N Q:=by
 have hl:=h.all.len
 refine pT N a es c Q fun _=>?_
 refine up h.all h.len (fun i xs=>∀ (done:List D) (q:Nat) (N':Nat),N<=N'->All2 Tg.Is ((yc g).take i) done->done.length=i->(∀ x∈zD done,x∈zD es)->xG Q N a es c done.length q i done q N') ?_ ?_ [] 0 N (oE _) rfl rfl (by simp [zD])
 ·intro i hlt hi done q N' hN' hd hs hf
  refine wP _ _ _ _ _ _ _ _ _ _ _ ?_
  rw [oe (by rw [vm];omega)] at hd
  rw [hlt]
  refine ⟨⟨rfl,rfl⟩,⟨rfl,rfl⟩,⟨rfl,rfl⟩,fun a2 N2 hN2 hfr N3 hN3=>hQ _ _ _ _ (by omega) ⟨by omega,hd⟩ fun x hx=>?_⟩
  cases a2 with
  | none=>simp only [D.foot] at hx;exact .inl (hf x hx)
  | some ad=>
    simp only [D.foot] at hx
    split at hx
    ·simp at hx
    ·rcases oG.1 hx with rfl | hx
     ·exact .inr (hfr.lo ad rfl)
     ·exact .inl (hf x hx)
 ·intro i x xs hat _ ih2 done q N' hN' hd hs hf
  have hb:=hat.b
  obtain ⟨t0,t1,hd',hnm,hty⟩:=hat.r
  refine wP _ _ _ _ _ _ _ _ _ _ _ ?_
  have hat2:(yc g)[i]?=some ⟨x.nm,x.ty,0⟩:=by rw [yc,oF,hat.g];rfl
  have hin:es.getD i default∈es:=zFg (by omega)
  rw [hat.lt]
  simp only [oH]
  rw [hd',hat.w] at *
  refine ⟨⟨by omega,by omega⟩,x.nm,rfl,⟨by omega,by omega⟩,⟨by trivial,by trivial⟩,by unfold zA;rw [oI];simp only [oJ,oN];omega,fun c1=>?_⟩
  exact ih2 _ _ _ hN' (by rw [ya hat2];exact hd.snoc ⟨_,_,rfl,hnm,hty⟩) (by simp [hs]) (fun y hy=>by
   rw [zF] at hy
   rcases oM.1 hy with hy | hy
   ·exact hf y hy
   ·refine zE.2 ⟨_,hin,?_⟩
    simpa [D.foot,zD,D.cell,D.sub,D.cells] using hy)
/-- parameters and a body -/
theorem zOy {es:List D} {i:Int} (hcu:Cu es i) (a:Option Addr) (c:Nat) (h:Int) (N:Nat) (Q:QT [.row 47 4,.ag 9,.sl 0,.int .i64,.int .i64])
  (hQ:∀ g e1 c1 d a' es' c' i' h' N',N<=N'->Cu es' i'->Pms g e1->1<=g.length->g.length<=4->(∀ x∈g,x.ty.cnt<=1)->Some 4096 d->Q e1 c1 d a' es' c' i' h' N'):BCalls prog 59 [.row 47 4,.ag 9,.sl 0,.int .i64,.int .i64] [.pb 0 0 0 0] [.var [.sv a 0 es c,.int .i64 i,.int .i64 h]] N Q:=by
 refine zBI N a es c i h Q fun E _ N1 hN1=>zNe hcu a c h N1 _ fun g e1 c1 a2 es2 c2 i2 h2 N2 hN2 hc2 hg g1 g4 gc _ _ _=>⟨⟨rfl,rfl⟩,fun a1 hap N3 hN3 hbel=>?_⟩
 refine zMn hg (by omega) a1 c1 N3 _ fun a3 e3 c3 N4 hN4 ctx hft _=>⟨zO8 hap hbel hft,fun _ N5 hN5=>xv N5 _ fun y N6 hN6 hy _ _ _ N7 hN7=>?_⟩
 refine yo hc2 4 (by omega) a2 c2 h2 N7 _ fun x a4 es4 c4 i4 h4 N8 hN8 hc4 x0 x1 _ _ _ N9 hN9=>?_
 have x1:=x1 (by omega)
 rw [i64_in (2+x) (by omega)]
 exact zRn 5 (by omega) ctx (by rw [vm];omega) (.inl rfl) hy (2+x) (by omega) a3 c3 hc4 a4 c4 h4 N9 _ fun d a5 es5 c5 i5 h5 N10 hN10 hc5 hd _ _ _=>⟨wG,⟨rfl,rfl⟩,fun N11 hN11=>hQ g _ _ _ _ _ _ _ _ _ (by omega) hc5 hg g1 g4 gc (hd.mono (by decide))⟩
end Go.Proofs.YtkdjhkfiolhkiaaGreat
set_option maxRecDepth 100000
namespace Go.Proofs.YtkdjhkfiolhkiaaGreat
open Go Go.Proofs Go.Proofs.Tryz Go.IntWalk
theorem zEd:∀ (t:Tm) (d:D),t.Is d->t.cnt<=1073741824->ru 20 [.dg 9 d] t.sz:=by
 refine Tm.ind fun k nm ot n0 ty re l ih d hd hc N Q hQ=>?_
 obtain ⟨t0,t1,r0,r1,a,es,c,rfl,hh,hlen,hes⟩:=Tm.is_mk.1 hd
 simp only [Tm.cnt] at hc
 have hsl:=pL l
 refine zFf N _ Q fun _=>?_
 refine up hes hlen (fun i xs=>∀ (m:Nat) (N':Nat),N<=N'->m+tG xs=1+tG l->wd Q N m i (.ag [.lit (.int .i64 k),.lit (.string nm),.lit (.string ot),.lit (.int .i64 n0),t0,t1,r0,r1,.sl a 9 es c]) N') ?_ ?_ 1 N (oE _) rfl
 ·intro i hlt _ m N' hN' hm
  refine s5 _ _ _ _ _ _ ⟨_,_,_,rfl,?_⟩
  simp only [tG] at hm
  rw [hlt]
  exact fun N2 hN2=>Qi (hQ _ (by omega)) (by simp only [Tm.sz];omega)
 ·intro i x xs hat _ ih2 m N' hN' hm
  have hb:=hat.b
  have hxc:=zO hat.m
  simp only [tG] at hm
  refine s5 _ _ _ _ _ _ ⟨_,_,_,rfl,?_⟩
  rw [hat.lt,hat.w,oH]
  refine ⟨_,_,_,rfl,⟨by omega,by omega⟩,fun N1 hN1=>ih x hat.m _ hat.r (by omega) N1 _ fun N2 hN2 _=>?_⟩
  rw [i64_in _ (by omega)]
  have:=ih2 (m+x.sz) N2 (by omega) (by omega)
  simpa using this
end Go.Proofs.YtkdjhkfiolhkiaaGreat
set_option maxRecDepth 100000
namespace Go.Proofs.YtkdjhkfiolhkiaaGreat
open Go Go.Proofs Go.Proofs.Tryz Go.IntWalk
/-- some type of at most this many nodes -/
def SmT (m:Nat) (d:D):Prop:=∃ t:Ty,t.Is d/\t.cnt<=m
theorem SmT.mono {m n:Nat} {d:D} (h:SmT m d) (hn:m<=n):SmT n d:=by obtain ⟨t,h1,h2⟩:=h;exact ⟨t,h1,by omega⟩
theorem SmT.cells {m:Nat} {d:D} (h:SmT m d):SmT m (.ag [d.cell 0,d.cell 1]):=by obtain ⟨t,h1,h2⟩:=h;exact ⟨t,Ty.is_cells h1,h2⟩
/-- its row has no room behind it -/
def Ex (d:D):Prop:=∃ k a es c,d=.ag [.lit (.int .i64 k),.sl a 2 es c]/\(c=es.length/\es.length<=1000)
theorem zJA (k:Int):SmT 1 (.ag [.lit (.int .i64 k),.sl none 2 [] 0]):=⟨_,xw k,by simp [Ty.cnt,zG]⟩
theorem zMp {m:Nat} (hm:m<=1073741824) {d:D} (hd:SmT m d) (N:Nat) (Q:QT [.ag 2]) (hQ:∀ d' N',N<=N'->SmT (1+m) d'->Ex d'->Q d' N'):ACalls prog 152 [.ag 2] [.dg 2 d] N Q:=by
 obtain ⟨t,h1,h2⟩:=hd
 refine zAF N d Q fun _ N1 hN1=>zH t d h1 (by omega) N1 _ fun x N2 hN2 hx _ _ _=>⟨⟨rfl,rfl⟩,⟨rfl,rfl⟩,⟨rfl,rfl⟩,fun a N3 hN3 _ N4 hN4=>hQ _ _ (by omega) ⟨rr t,Ty.is_mk.2 ⟨_,_,_,rfl,by simp,x,[],rfl,hx,rfl⟩,?_⟩ ⟨_,_,_,_,rfl,rfl,by simp⟩⟩
 simp only [rr,Ty.cnt,zG]
 omega
theorem zPD {m:Nat} (hm:m<=1073741824) {d e:D} (hd:SmT m d) (he:SmT m e) (N:Nat) (Q:QT [.ag 2]) (hQ:∀ d' N',N<=N'->SmT (1+2*m) d'->Ex d'->Q d' N'):ACalls prog 153 [.ag 2] [.dg 2 d,.dg 2 e] N Q:=by
 obtain ⟨t,h1,h2⟩:=hd
 obtain ⟨u,h3,h4⟩:=he
 refine zBS N d e Q fun _ _ N1 hN1=>zH t d h1 (by omega) N1 _ fun x N2 hN2 hx _ _ _ N3 hN3=>zH u e h3 (by omega) N3 _ fun y N4 hN4 hy _ _ _=>⟨⟨rfl,rfl⟩,⟨rfl,rfl⟩,⟨rfl,rfl⟩,fun a N5 hN5 _ N6 hN6=>hQ _ _ (by omega) ⟨vP t u,Ty.is_mk.2 ⟨_,_,_,rfl,by simp,x,[y],rfl,hx,y,[],rfl,hy,rfl⟩,?_⟩ ⟨_,_,_,_,rfl,rfl,by simp⟩⟩
 simp only [vP,Ty.cnt,zG]
 omega
def TyC (b:Int) (X:Nat):Prop:=∀ (n:Int),n<=b->∀ {es:List D} {i:Int} (_:Cu es i) (a:Option Addr) (c:Nat) (h:Int) (N:Nat) (Q:QT [.ag 2,.sl 0,.int .i64,.int .i64])
    (_:∀ d' a' es' c' i' h' N',N<=N'->Cu es' i'->SmT X d'->Ex d'->Q d' a' es' c' i' h' N'),BCalls prog 93 [.ag 2,.sl 0,.int .i64,.int .i64] [.pb 0 0 0 0,.int .i64 n] [.var [.sv a 0 es c,.int .i64 i,.int .i64 h]] N Q
theorem zQz:TyC 1 1:=fun n hn es i hcu a c h N Q hQ=>by
 refine tx N n a es c i h Q fun E _=>Br.dec (fun _ N1 hN1=>?_) fun g=>absurd (by omega) g
 exact vo (l:=[1,1,2]) hcu (by decide) (by decide) a c h 3 3 N1 _ fun k a' es' c' i' h' N2 hN2 hc' _ _ _ _=>⟨wG,fun N3 hN3=>hQ _ _ _ _ _ _ _ (by omega) hc' (zJA k) ⟨_,_,_,_,rfl,rfl,by simp⟩⟩
theorem zJO {b:Int} {X:Nat} (hb:b<=1000) (hX:1<=X) (hX2:X<=1000000) (ih:TyC b X):TyC (b+1) (1+2*X):=fun n hn es i hcu a c h N Q hQ=>by
 have pk:∀ (E:Env) {es:List D} {i:Int} (_:Cu es i) a c h N1,N<=N1->BCalls prog 63 [.int .i64,.sl 0,.int .i64,.int .i64,.sl 0] [.pb 0 0 0 0,.sb 1 0 0 3 3] [.var [.sv a 0 es c,.int .i64 i,.int .i64 h],.arr 3 0 (yj [1,1,2]) 3] N1
   (fun n a es c n_1 n_2 a_1 es_1 c_1 N2=>N1<=N2->Bel N2 (D.sl a 0 es c)->Bel N2 (D.sl a_1 0 es_1 c_1)->wh E [.var [.sv none 0 [] 0,.int .i64 0,.int .i64 0]]/\∀ N3,N2<=N3->Q (D.ag [D.lit (.int .i64 n),D.sl Option.none 2 [] 0]) a es c n_1 n_2 N3):=fun E es i hcu a c h N1 hN1=>
  vo (l:=[1,1,2]) hcu (by decide) (by decide) a c h 3 3 N1 _ fun k a' es' c' i' h' N2 hN2 hc' _ _ _ _=>⟨wG,fun N3 hN3=>hQ _ _ _ _ _ _ _ (by omega) hc' ((zJA k).mono (by omega)) ⟨_,_,_,_,rfl,rfl,by simp⟩⟩
 refine tx N n a es c i h Q fun E _=>Br.dec (fun _ N1 hN1=>pk E hcu _ _ _ N1 hN1) fun hlt N1 hN1=>zBO hcu 2 (by omega) a c h N1 _ fun b1 a1 es1 c1 i1 h1 N2 hN2 hc1 _ _=>Br.of (fun _ N3 hN3=>pk E hc1 _ _ _ N3 (by omega)) fun _ N3 hN3=>?_
 refine zBO hc1 2 (by omega) a1 c1 h1 N3 _ fun b2 a2 es2 c2 i2 h2 N4 hN4 hc2 _ _=>Br.of (fun _ N5 hN5=>?_) fun _ N5 hN5=>?_
 ·rw [i64_in (n - 1) (by omega)]
  exact ih (n - 1) (by omega) hc2 a2 c2 h2 N5 _ fun d a3 es3 c3 i3 h3 N6 hN6 hc3 hd _ _ _ _ N7 hN7=>zMp (by omega) hd N7 _ fun e N8 hN8 he hx _ _=>⟨wG,fun N9 hN9=>hQ _ _ _ _ _ _ _ (by omega) hc3 (he.mono (by omega)) hx⟩
 ·rw [i64_in (n - 1) (by omega)]
  refine ih (n - 1) (by omega) hc2 a2 c2 h2 N5 _ fun d a3 es3 c3 i3 h3 N6 hN6 hc3 hd _ _ _ _ N7 hN7=>?_
  exact ih (n - 1) (by omega) hc3 a3 c3 h3 N7 _ fun d2 a4 es4 c4 i4 h4 N8 hN8 hc4 hd2 _ _ _ _ N9 hN9=>zPD (by omega) hd hd2 N9 _ fun e N10 hN10 he hx _ _=>⟨wG,fun N11 hN11=>hQ _ _ _ _ _ _ _ (by omega) hc4 he hx⟩
theorem zFC:TyC 2 3:=zJO (b:=1) (by omega) (by omega) (by omega) zQz
theorem zPb:TyC 4 15:=zJO (b:=3) (by omega) (by omega) (by omega) (zJO (b:=2) (by omega) (by omega) (by omega) zFC)
theorem zQA {es:List D} {i:Int} (hcu:Cu es i) (a:Option Addr) (c:Nat) (h:Int) (N:Nat) (Q:QT [.ag 2,.sl 0,.int .i64,.int .i64])
  (hQ:∀ d' a' es' c' i' h' N',N<=N'->Cu es' i'->SmT 200 d'->Q d' a' es' c' i' h' N'):BCalls prog 156 [.ag 2,.sl 0,.int .i64,.int .i64] [.pb 0 0 0 0] [.var [.sv a 0 es c,.int .i64 i,.int .i64 h]] N Q:=by
 refine zBk N a es c i h Q fun E _ N1 hN1=>zPb 4 (by omega) hcu a c h N1 _ fun d a1 es1 c1 i1 h1 N2 hN2 hc1 hd hx _ _ _ N3 hN3=>?_
 have lc:∀ (m:Nat) (y:D) (a es c i h) (N':Nat) (n4 n5:Int),n4<=n5+m->0<=n5->n4<=1000->m<=6->N<=N'->Cu es i->SmT (21 - m) y->xd E Q N n4 n5 a es c i h 0 none [] 0 y N':=by
  intro m
  induction m with
  | zero=>
    intro y a es c i h N' n4 n5 h1 h2 h5 h6 h3 hcu hy
    exact t6 _ _ _ _ _ _ _ _ _ _ _ _ _ _ _ _ (Br.dec (fun g=>by omega) fun _=>⟨wG,fun N4 hN4=>hQ _ _ _ _ _ _ _ (by omega) hcu (hy.mono (by omega))⟩)
  | succ m ihm=>
    intro y a es c i h N' n4 n5 h1 h2 h5 h6 h3 hcu hy
    refine t6 _ _ _ _ _ _ _ _ _ _ _ _ _ _ _ _ (Br.dec (fun g N4 hN4=>zMp (by omega) hy N4 _ fun e N5 hN5 he _ _ _=>?_) fun _=>⟨wG,fun N4 hN4=>hQ _ _ _ _ _ _ _ (by omega) hcu (hy.mono (by omega))⟩)
    rw [i64_in (n5+1) (by omega)]
    exact ihm _ _ _ _ _ _ _ _ _ (by omega) (by omega) (by omega) (by omega) (by omega) hcu (he.mono (by omega))
 have lf:∀ (m k:Nat) (y:D) (a es c i h) (N':Nat),m+k=3->N<=N'->Cu es i->SmT (16*2 ^ k - 1) y->xh E Q N k a es c i h 0 none [] 0 y N':=by
  have p3:∀ k:Nat,k<=3->2 ^ k<=8:=fun k hk=>by rcases (by omega:k=0\/k=1\/k=2\/k=3) with rfl | rfl | rfl | rfl<;>decide
  intro m
  induction m with
  | zero=>
    intro k y a es c i h N' h1 h3 hcu hy
    have:=p3 k (by omega)
    exact tj _ _ _ _ _ _ _ _ _ _ _ _ _ _ _ (Br.dec (fun g=>by omega) fun _=>⟨wG,fun N4 hN4=>hQ _ _ _ _ _ _ _ (by omega) hcu (hy.mono (by omega))⟩)
  | succ m ihm=>
    intro k y a es c i h N' h1 h3 hcu hy
    have:=p3 k (by omega)
    have h0:1<=2 ^ k:=Nat.one_le_two_pow
    refine tj _ _ _ _ _ _ _ _ _ _ _ _ _ _ _ (Br.dec (fun g N4 hN4=>zPD (by omega) hy hy N4 _ fun e N5 hN5 he _ _ _=>?_) fun _=>⟨wG,fun N4 hN4=>hQ _ _ _ _ _ _ _ (by omega) hcu (hy.mono (by omega))⟩)
    rw [i64_in ((k:Int)+1) (by omega)]
    exact ihm (k+1) _ _ _ _ _ _ _ (by omega) (by omega) hcu (he.mono (by rw [Nat.pow_succ];omega))
 obtain ⟨k,ra,rs,rc,rfl,hrc,hrl⟩:=hx
 obtain ⟨t,ht,htc⟩:=hd
 obtain ⟨k',l,rfl⟩:∃ k l,t=Ty.mk k l:=by cases t;exact ⟨_,_,rfl⟩
 obtain ⟨_,_,_,he,hl,hall⟩:=Ty.is_mk.1 ht
 cases he
 simp only [Ty.cnt] at htc
 refine yo hc1 10 (by omega) a1 c1 h1 N3 _ fun x a2 es2 c2 i2 h2 N4 hN4 hc2 _ _ _ _ _=>Br.beq (fun _ N5 hN5=>?_) fun _=>Br.beq (fun _=>⟨_,_,_,rfl,fun N5 hN5=>?_⟩) fun _=>Br.beq (fun _ N5 hN5=>?_) fun _=>Br.beq (fun _=>?_) fun _=>⟨wG,fun N5 hN5=>hQ _ _ _ _ _ _ _ (by omega) hc2 ⟨_,ht,by simp only [Ty.cnt];omega⟩⟩
 ·exact yo hc2 6 (by omega) a2 c2 h2 N5 _ fun y a3 es3 c3 i3 h3 N6 hN6 hc3 _ _ _ _ _=>⟨wG,fun N7 hN7=>hQ _ _ _ _ _ _ _ (by omega) hc3 ⟨.mk y l,Ty.is_mk.2 ⟨_,_,_,rfl,hl,hall⟩,by simp only [Ty.cnt];omega⟩⟩
 ·refine xv N5 _ fun y N6 hN6 hy _ _ _=>⟨?_,by unfold zA;rw [oI];simp only [oJ,oN];omega,fun c4=>⟨⟨rfl,rfl⟩,⟨rfl,rfl⟩,⟨rfl,rfl⟩,⟨rfl,rfl⟩,fun a4 N7 hN7 _=>⟨wG,fun N8 hN8=>hQ _ _ _ _ _ _ _ (by omega) hc2 ⟨.mk k (l++[tInt]),Ty.is_mk.2 ⟨_,_,_,rfl,by simp;omega,hall.snoc hy⟩,?_⟩⟩⟩⟩
  ·unfold zQd
   split
   ·trivial
   ·exact ⟨hrc,by simp⟩
  ·have:zG (l++[tInt])=zG l+1:=by
    clear ht htc hall hl
    induction l with
    | nil=>rfl
    | cons u l ihl=>simp only [nF,zG,ihl];omega
   simp only [Ty.cnt]
   omega
 ·refine yo hc2 6 (by omega) a2 c2 h2 N5 _ fun y a3 es3 c3 i3 h3 N6 hN6 hc3 y0 y1 _ _ _=>?_
  have y1:=y1 (by omega)
  rw [i64_in (1+y) (by omega)]
  exact lc 6 _ _ _ _ _ _ _ _ _ (by omega) (by omega) (by omega) (by omega) (by omega) hc3 ⟨_,ht,by simp only [Ty.cnt];omega⟩
 ·exact lf 3 0 _ _ _ _ _ _ _ (by omega) (by omega) hc2 ⟨_,ht,by simp only [Ty.cnt];omega⟩
/-- the cells of some term, but for its kind and number and the place of its row -/
def PkT (m:Nat) (s s1:ByteArray) (x x1 x2 x3:D) (es:List D):Prop:=∃ (ty re:Ty) (l:List Tm),s.size<=4611686018427387904/\s1.size<=4611686018427387904/\ty.Is (.ag [x,x1])/\re.Is (.ag [x2,x3])/\All2 Tm.Is l es/\es.length<=1000/\1+ty.cnt+re.cnt+yG l<=m
theorem PkT.some {m:Nat} {s s1:ByteArray} {x x1 x2 x3:D} {es:List D} (h:PkT m s s1 x x1 x2 x3 es) (k n:Int) (a:Option Addr) (c:Nat):Some m (.ag [.lit (.int .i64 k),.lit (.string s),.lit (.string s1),.lit (.int .i64 n),x,x1,x2,x3,.sl a 9 es c]):=by
 obtain ⟨ty,re,l,h1,h2,h3,h4,h5,h6,h7⟩:=h
 exact ⟨.mk k s s1 n ty re l,Tm.is_mk.2 ⟨_,_,_,_,_,_,_,rfl,⟨h1,h2,h3,h4⟩,by omega,h5⟩,by simpa only [Tm.cnt] using h7⟩
theorem PkT.mono {m n:Nat} {s s1:ByteArray} {x x1 x2 x3:D} {es:List D} (h:PkT m s s1 x x1 x2 x3 es) (hn:m<=n):PkT n s s1 x x1 x2 x3 es:=by
 obtain ⟨ty,re,l,h1,h2,h3,h4,h5,h6,h7⟩:=h
 exact ⟨ty,re,l,h1,h2,h3,h4,h5,h6,by omega⟩
theorem PkT.name {m:Nat} {s s1:ByteArray} {x x1 x2 x3:D} {es:List D} (h:PkT m s s1 x x1 x2 x3 es) {t:ByteArray} (ht:t.size<=1000):PkT m t s1 x x1 x2 x3 es:=by
 obtain ⟨ty,re,l,h1,h2,h3,h4,h5,h6,h7⟩:=h
 exact ⟨ty,re,l,by omega,h2,h3,h4,h5,h6,h7⟩
theorem PkT.other {m:Nat} {s s1:ByteArray} {x x1 x2 x3:D} {es:List D} (h:PkT m s s1 x x1 x2 x3 es) {t:ByteArray} (ht:t.size<=1000):PkT m s t x x1 x2 x3 es:=by
 obtain ⟨ty,re,l,h1,h2,h3,h4,h5,h6,h7⟩:=h
 exact ⟨ty,re,l,h1,by omega,h3,h4,h5,h6,h7⟩
theorem PkT.type {m M:Nat} {s s1:ByteArray} {x x1 x2 x3 y y1:D} {es:List D} (h:PkT m s s1 x x1 x2 x3 es) (hy:SmT M (.ag [y,y1])):PkT (m+M) s s1 y y1 x2 x3 es:=by
 obtain ⟨ty,re,l,h1,h2,h3,h4,h5,h6,h7⟩:=h
 obtain ⟨t,h8,h9⟩:=hy
 exact ⟨t,re,l,h1,h2,h8,h4,h5,h6,by omega⟩
theorem zCK (t:Tm):∀ l:List Tm,yG (l++[t])=yG l+t.cnt
 | []=>by simp [yG]
 | x::l=>by simp only [nF,yG,zCK t l];omega
theorem PkT.snoc {m M:Nat} {s s1:ByteArray} {x x1 x2 x3 d:D} {es:List D} (h:PkT m s s1 x x1 x2 x3 es) (hd:Some M d) (hl:es.length<=999):PkT (m+M) s s1 x x1 x2 x3 (es++[d]):=by
 obtain ⟨ty,re,l,h1,h2,h3,h4,h5,h6,h7⟩:=h
 obtain ⟨t,h8,h9⟩:=hd
 exact ⟨ty,re,l++[t],h1,h2,h3,h4,h5.snoc h8,by simp;omega,by rw [zCK];omega⟩
theorem zFT {s s1:ByteArray} (hs:s.size<=1000) (hs1:s1.size<=1000) {x x1 x2 x3:D} (h1:SmT 7 (.ag [x,x1])) (h2:SmT 7 (.ag [x2,x3])):PkT 15 s s1 x x1 x2 x3 []:=by
 obtain ⟨t,h3,h4⟩:=h1
 obtain ⟨u,h5,h6⟩:=h2
 exact ⟨t,u,[],by omega,by omega,h3,h5,rfl,by simp,by simp only [yG];omega⟩
theorem zJQ:SmT 7 (.ag [D.lit (.int .i64 0),D.sl none 2 [] 0]):=(zJA 0).mono (by omega)
theorem zPh (s:ByteArray):zHK s<=3:=by
 unfold zHK
 repeat' split
 all_goals decide
theorem rB (k:Int) (s:ByteArray):zAv k s<=3:=by
 unfold zAv
 have:=zPh s
 repeat' split
 all_goals first | omega | decide
def zKV (b:Int) (X:Nat):Prop:=∀ (n:Int),n<=b->∀ {es:List D} {i:Int} (_:Cu es i) (a:Option Addr) (c:Nat) (h:Int) (N:Nat) (Q:QT [.pk,.int .i64,.str,.str,.int .i64,.dc,.dc,.dc,.dc,.row 30 9,.sl 0,.int .i64,.int .i64])
    (_:∀ k s s1 n' x x1 x2 x3 r q a' es' c' i' h' N',N<=N'->Cu es' i'->PkT X s s1 x x1 x2 x3 r->r.length<=3->Q k s s1 n' x x1 x2 x3 r q a' es' c' i' h' N'),BCalls prog 154 [.pk,.int .i64,.str,.str,.int .i64,.dc,.dc,.dc,.dc,.row 30 9,.sl 0,.int .i64,.int .i64] [.pb 0 0 0 0,.int .i64 n] [.var [.sv a 0 es c,.int .i64 i,.int .i64 h]] N Q
theorem zO5 {es:List D} {i:Int} (hcu:Cu es i) (a:Option Addr) (c:Nat) (h:Int) (N:Nat) (Q:QT [.pk,.int .i64,.str,.str,.int .i64,.dc,.dc,.dc,.dc,.row 30 9,.sl 0,.int .i64,.int .i64])
  (hQ:∀ k s s1 n' x x1 x2 x3 r q a' es' c' i' h' N',N<=N'->Cu es' i'->PkT 15 s s1 x x1 x2 x3 r->r.length<=3->Q k s s1 n' x x1 x2 x3 r q a' es' c' i' h' N'):BCalls prog 203 [.pk,.int .i64,.str,.str,.int .i64,.dc,.dc,.dc,.dc,.row 30 9,.sl 0,.int .i64,.int .i64] [.pb 0 0 0 0] [.var [.sv a 0 es c,.int .i64 i,.int .i64 h]] N Q:=by
 have z:PkT 15 (bytes []) (bytes []) (D.lit (.int .i64 0)) (D.sl none 2 [] 0) (D.lit (.int .i64 0)) (D.sl none 2 [] 0) []:=zFT (by decide) (by decide) zJQ zJQ
 refine zBi N a es c i h Q fun E _ N1 hN1=>yo hcu 4 (by omega) a c h N1 _ fun x a1 es1 c1 i1 h1 N2 hN2 hc1 _ _ _ _ _=>Br.beq (fun _ N3 hN3=>?_) fun _=>Br.beq (fun _ N3 hN3=>?_) fun _ N3 hN3=>?_
 ·exact vo (l:=[0,1,2,3,10006]) hc1 (by decide) (by decide) a1 c1 h1 5 5 N3 _ fun k a2 es2 c2 i2 h2 N4 hN4 hc2 _ _ _ _ N5 hN5=>zES N5 k _ fun N6 hN6 _ _=>⟨wG,⟨rfl,rfl⟩,fun N7 hN7=>hQ _ _ _ _ _ _ _ _ _ _ _ _ _ _ _ _ (by omega) hc2 z (by simp)⟩
 ·exact yo hc1 2 (by omega) a1 c1 h1 N3 _ fun k a2 es2 c2 i2 h2 N4 hN4 hc2 _ _ _ _ _ N5 hN5=>zDf N5 k _ fun N6 hN6 _ _=>⟨wG,⟨rfl,rfl⟩,fun N7 hN7=>hQ _ _ _ _ _ _ _ _ _ _ _ _ _ _ _ _ (by omega) hc2 z (by simp)⟩
 ·refine rA (l:=[bytes [120],bytes [121],bytes [102]]) hc1 (by decide) (by decide) a1 c1 h1 3 3 N3 _ fun s a2 es2 c2 i2 h2 N4 hN4 hc2 hs _ _ _ N5 hN5=>qC N5 s _ fun N6 hN6 _ _=>⟨wG,⟨rfl,rfl⟩,fun N7 hN7=>hQ _ _ _ _ _ _ _ _ _ _ _ _ _ _ _ _ (by omega) hc2 (z.name ?_) (by simp)⟩
  simp only [oG,o3,nz] at hs
  rcases hs with rfl | rfl | rfl<;>decide
theorem zPN:zKV 1 15:=fun n hn es i hcu a c h N Q hQ=>rE N n a es c i h Q fun E _=>Br.dec (fun _ N1 hN1=>zO5 hcu a c h N1 _ fun k s s1 n' x x1 x2 x3 r q a' es' c' i' h' N2 hN2 hc' hp hr _ _ _=>⟨wG,⟨rfl,rfl⟩,fun N3 hN3=>hQ _ _ _ _ _ _ _ _ _ _ _ _ _ _ _ _ (by omega) hc' hp hr⟩) fun g=>absurd (by omega) g
theorem zRr {b:Int} {X:Nat} (hb:b<=1000) (hX:15<=X) (ih:zKV b X) {E:Env} {N:Nat} {Q:QT [.pk,.int .i64,.str,.str,.int .i64,.dc,.dc,.dc,.dc,.row 30 9,.sl 0,.int .i64,.int .i64]} {n:Int} (hn:n - 1<=b) (hn2:2<=n) (kd n3:Int) (s s1:ByteArray) (x4 x5 x6 x7:D) {m6:Int} (hm:m6<=3)
  (hQ:∀ r q a es c i h N',N<=N'->Cu es i->PkT (15+3*X) s s1 x4 x5 x6 x7 r->r.length<=3->Q kd s s1 n3 x4 x5 x6 x7 r q a es c i h N') :
  ∀ (rem k:Nat) (r:List D) (q:Nat) a es c i h N',m6<=k+rem->k<=3->r.length=k->N<=N'->Cu es i->PkT (15+k*X) s s1 x4 x5 x6 x7 r->wM E Q N n m6 k a es c i h 0 (bytes []) (bytes []) 0 0 none [] 0 0 none [] 0 none [] 0 kd s s1 n3 x4 x5 x6 x7 r.length q r q N':=by
 intro rem
 induction rem with
 | zero=>
   intro k r q a es c i h N' h1 h2 h3 h4 hcu hp
   have hk:k*X<=3*X:=ol _ h2
   refine s4 _ _ _ _ _ _ _ _ _ _ _ _ _ _ _ _ _ _ _ _ _ _ _ _ _ _ _ _ _ _ _ _ _ _ _ _ _ _ _ (Br.dec (fun g=>by omega) fun _=>⟨wG,⟨rfl,rfl⟩,fun N4 hN4=>hQ _ _ _ _ _ _ _ _ (by omega) hcu (hp.mono (by omega)) (by omega)⟩)
 | succ rem ihr=>
   intro k r q a es c i h N' h1 h2 h3 h4 hcu hp
   have hk:k*X<=3*X:=ol _ h2
   refine s4 _ _ _ _ _ _ _ _ _ _ _ _ _ _ _ _ _ _ _ _ _ _ _ _ _ _ _ _ _ _ _ _ _ _ _ _ _ _ _ (Br.dec (fun g N1 hN1=>?_) fun _=>⟨wG,⟨rfl,rfl⟩,fun N4 hN4=>hQ _ _ _ _ _ _ _ _ (by omega) hcu (hp.mono (by omega)) (by omega)⟩)
   rw [i64_in (n - 1) (by omega)]
   refine ih (n - 1) hn hcu a c h N1 _ fun k' t t1 n' y y1 y2 y3 es' c' a' es2 c2 i2 h2 N2 hN2 hc2 hp2 _ _ _ _=>⟨⟨rfl,rfl⟩,fun a1 N3 hN3 _=>⟨⟨rfl,rfl⟩,by unfold zA;rw [oI];simp only [oJ,oN];omega,fun c3=>?_⟩⟩
   rw [i64_in ((k:Int)+1) (by omega)]
   exact ihr (k+1) _ c3 _ _ _ _ _ _ (by omega) (by omega) (by simp [h3]) (by omega) hc2 ((hp.snoc (hp2.some _ _ _ _) (by omega)).mono (by rw [Nat.succ_mul];omega))
theorem zRw {b:Int} {X:Nat} (hb:b<=1000) (hX:15<=X) (ih:zKV b X) {E:Env} {N:Nat} {Q:QT [.pk,.int .i64,.str,.str,.int .i64,.dc,.dc,.dc,.dc,.row 30 9,.sl 0,.int .i64,.int .i64]} {n:Int} (hn:n - 1<=b) (hn2:2<=n) (kd n3:Int) {s s1:ByteArray} (hs:s.size<=1000) (hs1:s1.size<=1000) (x4 x5 x6 x7:D) (hT:SmT 7 (.ag [x4,x5])) (hR:SmT 7 (.ag [x6,x7]))
  (hQ:∀ k s s1 n' x x1 x2 x3 r q a es c i h N',N<=N'->Cu es i->PkT (15+3*X) s s1 x x1 x2 x3 r->r.length<=3->Q k s s1 n' x x1 x2 x3 r q a es c i h N') {es:List D} {i:Int} (hcu:Cu es i) (a:Option Addr) (c:Nat) (h:Int) {N':Nat} (hN':N<=N') :
  uA E Q N n a es c i h 0 (bytes []) (bytes []) 0 0 none [] 0 0 none [] 0 none [] 0 kd s s1 n3 x4 x5 x6 x7 0 0 [] 0 N':=by
 refine zDM _ _ _ _ _ _ _ _ _ _ _ _ _ _ _ _ _ _ _ _ _ _ _ _ _ _ _ _ _ _ _ _ _ _ _ _ _ ⟨⟨rfl,rfl⟩,fun a7 _ N1 hN1 _=>xV N1 _ fun N2 hN2 _=>zRr hb hX ih hn hn2 kd n3 s s1 x4 x5 x6 x7 (rB _ _) (fun r q a es c i h N'=>hQ _ _ _ _ _ _ _ _ r q a es c i h N') 3 0 [] 0 a es c i h N2 (by have:=rB kd s;omega) (by omega) rfl (by omega) hcu ((zFT hs hs1 hT hR).mono (by omega))⟩
theorem zNd {b:Int} {X:Nat} (hb:b<=1000) (hX:15<=X) (ih:zKV b X) {E:Env} {N:Nat} {Q:QT [.pk,.int .i64,.str,.str,.int .i64,.dc,.dc,.dc,.dc,.row 30 9,.sl 0,.int .i64,.int .i64]} {n:Int} (hn:n - 1<=b) (hn2:2<=n) (kd n3:Int) (s s1:ByteArray) (x4 x5:D) {m6:Int} (hm:m6<=3)
  (hQ:∀ r q a es c i h N',N<=N'->Cu es i->PkT (15+3*X) s s1 x4 x5 (D.lit (.int .i64 0)) (D.sl none 2 [] 0) r->r.length<=3->Q kd s s1 n3 x4 x5 (D.lit (.int .i64 0)) (D.sl none 2 [] 0) r q a es c i h N') :
  ∀ (rem k:Nat) (r:List D) (q:Nat) a es c i h N',m6<=k+rem->k<=3->r.length=k->N<=N'->Cu es i->PkT (15+k*X) s s1 x4 x5 (D.lit (.int .i64 0)) (D.sl none 2 [] 0) r->y4 E Q N n m6 k a es c i h 0 (bytes []) (bytes []) 0 0 none [] 0 0 none [] 0 none [] 0 kd s s1 n3 x4 x5 0 none [] 0 r.length q r q N':=by
 intro rem
 induction rem with
 | zero=>
   intro k r q a es c i h N' h1 h2 h3 h4 hcu hp
   have hk:k*X<=3*X:=ol _ h2
   refine uV _ _ _ _ _ _ _ _ _ _ _ _ _ _ _ _ _ _ _ _ _ _ _ _ _ _ _ _ _ _ _ _ _ _ _ _ _ _ _ _ _ (Br.dec (fun g=>by omega) fun _=>⟨wG,⟨rfl,rfl⟩,fun N4 hN4=>hQ _ _ _ _ _ _ _ _ (by omega) hcu (hp.mono (by omega)) (by omega)⟩)
 | succ rem ihr=>
   intro k r q a es c i h N' h1 h2 h3 h4 hcu hp
   have hk:k*X<=3*X:=ol _ h2
   refine uV _ _ _ _ _ _ _ _ _ _ _ _ _ _ _ _ _ _ _ _ _ _ _ _ _ _ _ _ _ _ _ _ _ _ _ _ _ _ _ _ _ (Br.dec (fun g N1 hN1=>?_) fun _=>⟨wG,⟨rfl,rfl⟩,fun N4 hN4=>hQ _ _ _ _ _ _ _ _ (by omega) hcu (hp.mono (by omega)) (by omega)⟩)
   rw [i64_in (n - 1) (by omega)]
   refine ih (n - 1) hn hcu a c h N1 _ fun k' t t1 n' y y1 y2 y3 es' c' a' es2 c2 i2 h2 N2 hN2 hc2 hp2 _ _ _ _=>⟨⟨rfl,rfl⟩,fun a1 N3 hN3 _=>⟨⟨rfl,rfl⟩,by unfold zA;rw [oI];simp only [oJ,oN];omega,fun c3=>?_⟩⟩
   rw [i64_in ((k:Int)+1) (by omega)]
   exact ihr (k+1) _ c3 _ _ _ _ _ _ (by omega) (by omega) (by simp [h3]) (by omega) hc2 ((hp.snoc (hp2.some _ _ _ _) (by omega)).mono (by rw [Nat.succ_mul];omega))
theorem zNv {b:Int} {X:Nat} (hb:b<=1000) (hX:15<=X) (ih:zKV b X) {E:Env} {N:Nat} {Q:QT [.pk,.int .i64,.str,.str,.int .i64,.dc,.dc,.dc,.dc,.row 30 9,.sl 0,.int .i64,.int .i64]} {n:Int} (hn:n - 1<=b) (hn2:2<=n) (kd n3:Int) {s s1:ByteArray} (hs:s.size<=1000) (hs1:s1.size<=1000) (x4 x5:D) (hT:SmT 7 (.ag [x4,x5])) (hR:SmT 7 (.ag [(D.lit (.int .i64 0)),(D.sl none 2 [] 0)]))
  (hQ:∀ k s s1 n' x x1 x2 x3 r q a es c i h N',N<=N'->Cu es i->PkT (15+3*X) s s1 x x1 x2 x3 r->r.length<=3->Q k s s1 n' x x1 x2 x3 r q a es c i h N') {es:List D} {i:Int} (hcu:Cu es i) (a:Option Addr) (c:Nat) (h:Int) {N':Nat} (hN':N<=N') :
  wC E Q N n a es c i h 0 (bytes []) (bytes []) 0 0 none [] 0 0 none [] 0 none [] 0 kd s s1 n3 x4 x5 0 none [] 0 0 0 [] 0 N':=by
 refine zAP _ _ _ _ _ _ _ _ _ _ _ _ _ _ _ _ _ _ _ _ _ _ _ _ _ _ _ _ _ _ _ _ _ _ _ _ _ _ _ ⟨⟨rfl,rfl⟩,fun a7 _ N1 hN1 _=>xV N1 _ fun N2 hN2 _=>zNd hb hX ih hn hn2 kd n3 s s1 x4 x5 (rB _ _) (fun r q a es c i h N'=>hQ _ _ _ _ _ _ _ _ r q a es c i h N') 3 0 [] 0 a es c i h N2 (by have:=rB kd s;omega) (by omega) rfl (by omega) hcu ((zFT hs hs1 hT hR).mono (by omega))⟩
theorem zOV {b:Int} {X:Nat} (hb:b<=1000) (hX:15<=X) (ih:zKV b X) {E:Env} {N:Nat} {Q:QT [.pk,.int .i64,.str,.str,.int .i64,.dc,.dc,.dc,.dc,.row 30 9,.sl 0,.int .i64,.int .i64]} {n:Int} (hn:n - 1<=b) (hn2:2<=n) (kd n3:Int) (s s1:ByteArray) (x6 x7:D) {m6:Int} (hm:m6<=3)
  (hQ:∀ r q a es c i h N',N<=N'->Cu es i->PkT (15+3*X) s s1 (D.lit (.int .i64 0)) (D.sl none 2 [] 0) x6 x7 r->r.length<=3->Q kd s s1 n3 (D.lit (.int .i64 0)) (D.sl none 2 [] 0) x6 x7 r q a es c i h N') :
  ∀ (rem k:Nat) (r:List D) (q:Nat) a es c i h N',m6<=k+rem->k<=3->r.length=k->N<=N'->Cu es i->PkT (15+k*X) s s1 (D.lit (.int .i64 0)) (D.sl none 2 [] 0) x6 x7 r->y8 E Q N n m6 k a es c i h 0 (bytes []) (bytes []) 0 0 none [] 0 0 none [] 0 none [] 0 kd s s1 n3 0 none [] 0 x6 x7 r.length q r q N':=by
 intro rem
 induction rem with
 | zero=>
   intro k r q a es c i h N' h1 h2 h3 h4 hcu hp
   have hk:k*X<=3*X:=ol _ h2
   refine ue _ _ _ _ _ _ _ _ _ _ _ _ _ _ _ _ _ _ _ _ _ _ _ _ _ _ _ _ _ _ _ _ _ _ _ _ _ _ _ _ _ (Br.dec (fun g=>by omega) fun _=>⟨wG,⟨rfl,rfl⟩,fun N4 hN4=>hQ _ _ _ _ _ _ _ _ (by omega) hcu (hp.mono (by omega)) (by omega)⟩)
 | succ rem ihr=>
   intro k r q a es c i h N' h1 h2 h3 h4 hcu hp
   have hk:k*X<=3*X:=ol _ h2
   refine ue _ _ _ _ _ _ _ _ _ _ _ _ _ _ _ _ _ _ _ _ _ _ _ _ _ _ _ _ _ _ _ _ _ _ _ _ _ _ _ _ _ (Br.dec (fun g N1 hN1=>?_) fun _=>⟨wG,⟨rfl,rfl⟩,fun N4 hN4=>hQ _ _ _ _ _ _ _ _ (by omega) hcu (hp.mono (by omega)) (by omega)⟩)
   rw [i64_in (n - 1) (by omega)]
   refine ih (n - 1) hn hcu a c h N1 _ fun k' t t1 n' y y1 y2 y3 es' c' a' es2 c2 i2 h2 N2 hN2 hc2 hp2 _ _ _ _=>⟨⟨rfl,rfl⟩,fun a1 N3 hN3 _=>⟨⟨rfl,rfl⟩,by unfold zA;rw [oI];simp only [oJ,oN];omega,fun c3=>?_⟩⟩
   rw [i64_in ((k:Int)+1) (by omega)]
   exact ihr (k+1) _ c3 _ _ _ _ _ _ (by omega) (by omega) (by simp [h3]) (by omega) hc2 ((hp.snoc (hp2.some _ _ _ _) (by omega)).mono (by rw [Nat.succ_mul];omega))
theorem zOG {b:Int} {X:Nat} (hb:b<=1000) (hX:15<=X) (ih:zKV b X) {E:Env} {N:Nat} {Q:QT [.pk,.int .i64,.str,.str,.int .i64,.dc,.dc,.dc,.dc,.row 30 9,.sl 0,.int .i64,.int .i64]} {n:Int} (hn:n - 1<=b) (hn2:2<=n) (kd n3:Int) {s s1:ByteArray} (hs:s.size<=1000) (hs1:s1.size<=1000) (x6 x7:D) (hT:SmT 7 (.ag [(D.lit (.int .i64 0)),(D.sl none 2 [] 0)])) (hR:SmT 7 (.ag [x6,x7]))
  (hQ:∀ k s s1 n' x x1 x2 x3 r q a es c i h N',N<=N'->Cu es i->PkT (15+3*X) s s1 x x1 x2 x3 r->r.length<=3->Q k s s1 n' x x1 x2 x3 r q a es c i h N') {es:List D} {i:Int} (hcu:Cu es i) (a:Option Addr) (c:Nat) (h:Int) {N':Nat} (hN':N<=N') :
  wX E Q N n a es c i h 0 (bytes []) (bytes []) 0 0 none [] 0 0 none [] 0 none [] 0 kd s s1 n3 0 none [] 0 x6 x7 0 0 [] 0 N':=by
 refine pI _ _ _ _ _ _ _ _ _ _ _ _ _ _ _ _ _ _ _ _ _ _ _ _ _ _ _ _ _ _ _ _ _ _ _ _ _ _ _ ⟨⟨rfl,rfl⟩,fun a7 _ N1 hN1 _=>xV N1 _ fun N2 hN2 _=>zOV hb hX ih hn hn2 kd n3 s s1 x6 x7 (rB _ _) (fun r q a es c i h N'=>hQ _ _ _ _ _ _ _ _ r q a es c i h N') 3 0 [] 0 a es c i h N2 (by have:=rB kd s;omega) (by omega) rfl (by omega) hcu ((zFT hs hs1 hT hR).mono (by omega))⟩
theorem zN2 {b:Int} {X:Nat} (hb:b<=1000) (hX:15<=X) (ih:zKV b X) {E:Env} {N:Nat} {Q:QT [.pk,.int .i64,.str,.str,.int .i64,.dc,.dc,.dc,.dc,.row 30 9,.sl 0,.int .i64,.int .i64]} {n:Int} (hn:n - 1<=b) (hn2:2<=n) (kd n3:Int) (s s1:ByteArray) {m6:Int} (hm:m6<=3)
  (hQ:∀ r q a es c i h N',N<=N'->Cu es i->PkT (15+3*X) s s1 (D.lit (.int .i64 0)) (D.sl none 2 [] 0) (D.lit (.int .i64 0)) (D.sl none 2 [] 0) r->r.length<=3->Q kd s s1 n3 (D.lit (.int .i64 0)) (D.sl none 2 [] 0) (D.lit (.int .i64 0)) (D.sl none 2 [] 0) r q a es c i h N') :
  ∀ (rem k:Nat) (r:List D) (q:Nat) a es c i h N',m6<=k+rem->k<=3->r.length=k->N<=N'->Cu es i->PkT (15+k*X) s s1 (D.lit (.int .i64 0)) (D.sl none 2 [] 0) (D.lit (.int .i64 0)) (D.sl none 2 [] 0) r->y6 E Q N n m6 k a es c i h 0 (bytes []) (bytes []) 0 0 none [] 0 0 none [] 0 none [] 0 kd s s1 n3 0 none [] 0 0 none [] 0 r.length q r q N':=by
 intro rem
 induction rem with
 | zero=>
   intro k r q a es c i h N' h1 h2 h3 h4 hcu hp
   have hk:k*X<=3*X:=ol _ h2
   refine uQ _ _ _ _ _ _ _ _ _ _ _ _ _ _ _ _ _ _ _ _ _ _ _ _ _ _ _ _ _ _ _ _ _ _ _ _ _ _ _ _ _ _ _ (Br.dec (fun g=>by omega) fun _=>⟨wG,⟨rfl,rfl⟩,fun N4 hN4=>hQ _ _ _ _ _ _ _ _ (by omega) hcu (hp.mono (by omega)) (by omega)⟩)
 | succ rem ihr=>
   intro k r q a es c i h N' h1 h2 h3 h4 hcu hp
   have hk:k*X<=3*X:=ol _ h2
   refine uQ _ _ _ _ _ _ _ _ _ _ _ _ _ _ _ _ _ _ _ _ _ _ _ _ _ _ _ _ _ _ _ _ _ _ _ _ _ _ _ _ _ _ _ (Br.dec (fun g N1 hN1=>?_) fun _=>⟨wG,⟨rfl,rfl⟩,fun N4 hN4=>hQ _ _ _ _ _ _ _ _ (by omega) hcu (hp.mono (by omega)) (by omega)⟩)
   rw [i64_in (n - 1) (by omega)]
   refine ih (n - 1) hn hcu a c h N1 _ fun k' t t1 n' y y1 y2 y3 es' c' a' es2 c2 i2 h2 N2 hN2 hc2 hp2 _ _ _ _=>⟨⟨rfl,rfl⟩,fun a1 N3 hN3 _=>⟨⟨rfl,rfl⟩,by unfold zA;rw [oI];simp only [oJ,oN];omega,fun c3=>?_⟩⟩
   rw [i64_in ((k:Int)+1) (by omega)]
   exact ihr (k+1) _ c3 _ _ _ _ _ _ (by omega) (by omega) (by simp [h3]) (by omega) hc2 ((hp.snoc (hp2.some _ _ _ _) (by omega)).mono (by rw [Nat.succ_mul];omega))
theorem zOR {b:Int} {X:Nat} (hb:b<=1000) (hX:15<=X) (ih:zKV b X) {E:Env} {N:Nat} {Q:QT [.pk,.int .i64,.str,.str,.int .i64,.dc,.dc,.dc,.dc,.row 30 9,.sl 0,.int .i64,.int .i64]} {n:Int} (hn:n - 1<=b) (hn2:2<=n) (kd n3:Int) {s s1:ByteArray} (hs:s.size<=1000) (hs1:s1.size<=1000) (hT:SmT 7 (.ag [(D.lit (.int .i64 0)),(D.sl none 2 [] 0)])) (hR:SmT 7 (.ag [(D.lit (.int .i64 0)),(D.sl none 2 [] 0)]))
  (hQ:∀ k s s1 n' x x1 x2 x3 r q a es c i h N',N<=N'->Cu es i->PkT (15+3*X) s s1 x x1 x2 x3 r->r.length<=3->Q k s s1 n' x x1 x2 x3 r q a es c i h N') {es:List D} {i:Int} (hcu:Cu es i) (a:Option Addr) (c:Nat) (h:Int) {N':Nat} (hN':N<=N') :
  we E Q N n a es c i h 0 (bytes []) (bytes []) 0 0 none [] 0 0 none [] 0 none [] 0 kd s s1 n3 0 none [] 0 0 none [] 0 0 0 [] 0 N':=by
 refine zAT _ _ _ _ _ _ _ _ _ _ _ _ _ _ _ _ _ _ _ _ _ _ _ _ _ _ _ _ _ _ _ _ _ _ _ _ _ _ _ _ _ ⟨⟨rfl,rfl⟩,fun a7 _ N1 hN1 _=>xV N1 _ fun N2 hN2 _=>zN2 hb hX ih hn hn2 kd n3 s s1  (rB _ _) (fun r q a es c i h N'=>hQ _ _ _ _ _ _ _ _ r q a es c i h N') 3 0 [] 0 a es c i h N2 (by have:=rB kd s;omega) (by omega) rfl (by omega) hcu ((zFT hs hs1 hT hR).mono (by omega))⟩
theorem zQc {b:Int} {X:Nat} (hb:b<=1000) (hX:15<=X) (ih:zKV b X) {E:Env} {N:Nat} {Q:QT [.pk,.int .i64,.str,.str,.int .i64,.dc,.dc,.dc,.dc,.row 30 9,.sl 0,.int .i64,.int .i64]} {n:Int} (hn:n - 1<=b) (hn2:2<=n) (kd n3:Int) {s:ByteArray} (hs:s.size<=1000) (x4 x5:D) (hT:SmT 7 (.ag [x4,x5]))
  (hQ:∀ k s s1 n' x x1 x2 x3 r q a es c i h N',N<=N'->Cu es i->PkT (15+3*X) s s1 x x1 x2 x3 r->r.length<=3->Q k s s1 n' x x1 x2 x3 r q a es c i h N') {es:List D} {i:Int} (hcu:Cu es i) (a:Option Addr) (c:Nat) (h:Int) {N':Nat} (hN':N<=N') :
  wU E Q N n a es c i h 0 (bytes []) (bytes []) 0 0 none [] 0 0 none [] 0 none [] 0 kd s (bytes []) n3 x4 x5 0 none [] 0 0 0 [] 0 N':=by
 refine zDg _ _ _ _ _ _ _ _ _ _ _ _ _ _ _ _ _ _ _ _ _ _ _ _ _ _ _ _ _ _ _ _ _ _ _ _ _ _ _ (Br.beq (fun _ N1 hN1=>?_) fun _=>zNv hb hX ih hn hn2 kd n3 hs (by decide) x4 x5 hT zJQ hQ hcu a c h hN')
 refine rA (l:=[bytes [122],bytes [119]]) hcu (by decide) (by decide) a c h 2 2 N1 _ fun t a1 es1 c1 i1 h1 N2 hN2 hc1 ht _ _ _ N3 hN3=>?_
 have ht:t.size<=1000:=by
  simp only [oG,o3,nz] at ht
  rcases ht with rfl | rfl<;>decide
 exact zFC 2 (by omega) hc1 a1 c1 h1 N3 _ fun d a2 es2 c2 i2 h2 N4 hN4 hc2 hd _ _ _ _=>zRw hb hX ih hn hn2 kd n3 hs ht x4 x5 _ _ hT (hd.cells.mono (by omega)) hQ hc2 a2 c2 h2 (by omega)
theorem zNw {b:Int} {X:Nat} (hb:b<=1000) (hX:15<=X) (ih:zKV b X) {E:Env} {N:Nat} {Q:QT [.pk,.int .i64,.str,.str,.int .i64,.dc,.dc,.dc,.dc,.row 30 9,.sl 0,.int .i64,.int .i64]} {n:Int} (hn:n - 1<=b) (hn2:2<=n) (kd n3:Int) {s:ByteArray} (hs:s.size<=1000) (hT:SmT 7 (.ag [(D.lit (.int .i64 0)),(D.sl none 2 [] 0)]))
  (hQ:∀ k s s1 n' x x1 x2 x3 r q a es c i h N',N<=N'->Cu es i->PkT (15+3*X) s s1 x x1 x2 x3 r->r.length<=3->Q k s s1 n' x x1 x2 x3 r q a es c i h N') {es:List D} {i:Int} (hcu:Cu es i) (a:Option Addr) (c:Nat) (h:Int) {N':Nat} (hN':N<=N') :
  wE E Q N n a es c i h 0 (bytes []) (bytes []) 0 0 none [] 0 0 none [] 0 none [] 0 kd s (bytes []) n3 0 none [] 0 0 none [] 0 0 0 [] 0 N':=by
 refine po _ _ _ _ _ _ _ _ _ _ _ _ _ _ _ _ _ _ _ _ _ _ _ _ _ _ _ _ _ _ _ _ _ _ _ _ _ _ _ _ _ (Br.beq (fun _ N1 hN1=>?_) fun _=>zOR hb hX ih hn hn2 kd n3 hs (by decide) hT zJQ hQ hcu a c h hN')
 refine rA (l:=[bytes [122],bytes [119]]) hcu (by decide) (by decide) a c h 2 2 N1 _ fun t a1 es1 c1 i1 h1 N2 hN2 hc1 ht _ _ _ N3 hN3=>?_
 have ht:t.size<=1000:=by
  simp only [oG,o3,nz] at ht
  rcases ht with rfl | rfl<;>decide
 exact zFC 2 (by omega) hc1 a1 c1 h1 N3 _ fun d a2 es2 c2 i2 h2 N4 hN4 hc2 hd _ _ _ _=>zOG hb hX ih hn hn2 kd n3 hs ht _ _ hT (hd.cells.mono (by omega)) hQ hc2 a2 c2 h2 (by omega)
theorem zG2 {b:Int} {X:Nat} (hb:b<=1000) (hX:15<=X) (ih:zKV b X):zKV (b+1) (15+3*X):=fun n hn es i hcu a c h N Q hQ=>by
 have lf:∀ (E:Env) {es:List D} {i:Int} (_:Cu es i) a c h N1,N<=N1->BCalls prog 203 [.pk,.int .i64,.str,.str,.int .i64,.dc,.dc,.dc,.dc,.row 30 9,.sl 0,.int .i64,.int .i64] [.pb 0 0 0 0] [.var [.sv a 0 es c,.int .i64 i,.int .i64 h]] N1 (fun n s s_1 n_1 x x_1 x_2 x_3 es c a es_1 c_1 n_2 n_3 N2=>N1<=N2->Bel N2 (D.sl a 0 es_1 c_1)->Bel N2 (D.ag es)->wh E [.var [.sv none 0 [] 0,.int .i64 0,.int .i64 0]]/\(es.length=es.length/\c=c)/\∀ N3,N2<=N3->Q n s s_1 n_1 x x_1 x_2 x_3 es c a es_1 c_1 n_2 n_3 N3):=fun E es i hcu a c h N1 hN1=>
  zO5 hcu a c h N1 _ fun k s s1 n' x x1 x2 x3 r q a' es' c' i' h' N2 hN2 hc' hp hr _ _ _=>⟨wG,⟨rfl,rfl⟩,fun N3 hN3=>hQ _ _ _ _ _ _ _ _ _ _ _ _ _ _ _ _ (by omega) hc' (hp.mono (by omega)) hr⟩
 refine rE N n a es c i h Q fun E _=>Br.dec (fun _ N1 hN1=>lf E hcu a c h N1 hN1) fun hlt N1 hN1=>zBO hcu 5 (by omega) a c h N1 _ fun b1 a1 es1 c1 i1 h1 N2 hN2 hc1 _ _=>Br.of (fun _ N3 hN3=>lf E hc1 a1 c1 h1 N3 (by omega)) fun _ N3 hN3=>?_
 refine vo (l:=[4,5,6,7,8,9,10,11,12,13,10,4]) hc1 (by decide) (by decide) a1 c1 h1 12 12 N3 _ fun kd a2 es2 c2 i2 h2 N4 hN4 hc2 _ _ _ _=>?_
 have L11:∀ {s:ByteArray} (_:s.size<=1000) {es:List D} {i:Int} (_:Cu es i) a c h N',N<=N'->zt E Q N n a es c i h 0 (bytes []) (bytes []) 0 0 none [] 0 0 none [] 0 none [] 0 kd s (bytes []) 0 0 none [] 0 0 none [] 0 0 0 [] 0 N':=fun hs es i hcu a c h N' hN'=>by
  refine zDi _ _ _ _ _ _ _ _ _ _ _ _ _ _ _ _ _ _ _ _ _ _ _ _ _ _ _ _ _ _ _ _ _ _ _ _ _ _ _ _ _ (Br.beq (fun _ N5 hN5=>zFC 2 (by omega) hcu a c h N5 _ fun d a2 es2 c2 i2 h2 N6 hN6 hc2 hd _ _ _ _=>zQc hb hX ih (by omega) (by omega) kd 0 hs _ _ (hd.cells.mono (by omega)) hQ hc2 a2 c2 h2 (by omega)) fun _=>Br.beq (fun _ N5 hN5=>zFC 2 (by omega) hcu a c h N5 _ fun d a2 es2 c2 i2 h2 N6 hN6 hc2 hd _ _ _ _=>zQc hb hX ih (by omega) (by omega) kd 0 hs _ _ (hd.cells.mono (by omega)) hQ hc2 a2 c2 h2 (by omega)) fun _=>zNw hb hX ih (by omega) (by omega) kd 0 hs zJQ hQ hcu a c h hN')
 have L3:∀ N5,N4<=N5->BCalls prog 132 [.str,.sl 0,.int .i64,.int .i64,.sl 0] [.pb 0 0 0 0,.sb 1 0 0 3 3] [.var [.sv a2 0 es2 c2,.int .i64 i2,.int .i64 h2],.arr 9 0 (zB [bytes [120],bytes [121],bytes [102]]) 3] N5 (fun s a es c n_1 n_2 a_1 es_1 c_1 N6=>N5<=N6->Bel N6 (D.sl a 0 es c)->Bel N6 (D.sl a_1 0 es_1 c_1)->zt E Q N n a es c n_1 n_2 0 (bytes []) (bytes []) 0 0 none [] 0 0 none [] 0 none [] 0 kd s (bytes []) 0 0 none [] 0 0 none [] 0 0 0 [] 0 N6):=fun N5 hN5=>
  rA (l:=[bytes [120],bytes [121],bytes [102]]) hc2 (by decide) (by decide) a2 c2 h2 3 3 N5 _ fun t a3 es3 c3 i3 h3 N6 hN6 hc3 ht _ _ _=>L11 (by
   simp only [oG,o3,nz] at ht
   rcases ht with rfl | rfl | rfl<;>decide) hc3 a3 c3 h3 N6 (by omega)
 refine Br.beq (fun _ N5 hN5=>?_) fun _=>Br.beq (fun _ N5 hN5=>L3 N5 hN5) fun _=>Br.beq (fun _ N5 hN5=>L3 N5 hN5) fun _=>Br.beq (fun _ N5 hN5=>L3 N5 hN5) fun _=>L11 (by decide) hc2 a2 c2 h2 N4 (by omega)
 refine rA (l:=[bytes [43],bytes [45],bytes [42],bytes [61],bytes [60],bytes [38],bytes [124],bytes [33]]) hc2 (by decide) (by decide) a2 c2 h2 8 8 N5 _ fun t a3 es3 c3 i3 h3 N6 hN6 hc3 ht _ _ _=>L11 ?_ hc3 a3 c3 h3 N6 (by omega)
 simp only [oG,o3,nz] at ht
 rcases ht with rfl | rfl | rfl | rfl | rfl | rfl | rfl | rfl<;>decide
theorem zNg:zKV 4 600:=by
 have h:=zG2 (b:=3) (by omega) (by omega) (zG2 (b:=2) (by omega) (by omega) (zG2 (b:=1) (by omega) (by omega) zPN))
 exact fun n hn es i hcu a c h' N Q hQ=>h n (by omega) hcu a c h' N Q fun k s s1 n' x x1 x2 x3 r q a' es' c' i' h' N' h1 h2 h3 h4=>hQ _ _ _ _ _ _ _ _ _ _ _ _ _ _ _ _ h1 h2 (h3.mono (by omega)) h4
theorem zP1 {es:List D} {i:Int} (hcu:Cu es i) (a:Option Addr) (c:Nat) (h:Int) (N:Nat) (Q:QT [.ag 9,.sl 0,.int .i64,.int .i64])
  (hQ:∀ d' a' es' c' i' h' N',N<=N'->Cu es' i'->Some 1000 d'->Q d' a' es' c' i' h' N'):BCalls prog 90 [.ag 9,.sl 0,.int .i64,.int .i64] [.pb 0 0 0 0] [.var [.sv a 0 es c,.int .i64 i,.int .i64 h]] N Q:=by
 have z:PkT 15 (bytes [120]) (bytes []) (D.lit (.int .i64 0)) (D.sl none 2 [] 0) (D.lit (.int .i64 0)) (D.sl none 2 [] 0) []:=zFT (by decide) (by decide) zJQ zJQ
 refine zB7 N a es c i h Q fun E _ N1 hN1=>yo hcu 4 (by omega) a c h N1 _ fun x a1 es1 c1 i1 h1 N2 hN2 hc1 x0 x1 _ _ _ N3 hN3=>?_
 have x1:=x1 (by omega)
 rw [i64_in (1+x) (by omega)]
 refine zNg (1+x) (by omega) hc1 a1 c1 h1 N3 _ fun k s s1 n y y1 y2 y3 r q a2 es2 c2 i2 h2 N4 hN4 hc2 hp hr _ _ _ N5 hN5=>?_
 refine yo hc2 14 (by omega) a2 c2 h2 N5 _ fun z1 a3 es3 c3 i3 h3 N6 hN6 hc3 _ _ _ _ _=>Br.beq (fun _ N7 hN7=>?_) fun _=>Br.beq (fun _ N7 hN7=>?_) fun _=>Br.beq (fun _ N7 hN7=>?_) fun _=>Br.beq (fun _ N7 hN7=>?_) fun _=>Br.beq (fun _ N7 hN7=>?_) fun _=>Br.beq (fun _ N7 hN7=>?_) fun _=>?_
 ·exact yo hc3 15 (by omega) a3 c3 h3 N7 _ fun w a4 es4 c4 i4 h4 N8 hN8 hc4 _ _ _ _ _=>⟨⟨rfl,rfl⟩,⟨rfl,rfl⟩,⟨rfl,rfl⟩,⟨rfl,rfl⟩,fun a5 N9 hN9 _=>⟨wG,fun N10 hN10=>hQ _ _ _ _ _ _ _ (by omega) hc4 ((hp.some _ _ _ _).mono (by omega))⟩⟩
 ·exact vo (l:=[0,1,10006,10007, -1]) hc3 (by decide) (by decide) a3 c3 h3 5 5 N7 _ fun w a4 es4 c4 i4 h4 N8 hN8 hc4 _ _ _ _=>⟨⟨rfl,rfl⟩,⟨rfl,rfl⟩,⟨rfl,rfl⟩,⟨rfl,rfl⟩,fun a5 N9 hN9 _=>⟨wG,fun N10 hN10=>hQ _ _ _ _ _ _ _ (by omega) hc4 ((hp.some _ _ _ _).mono (by omega))⟩⟩
 ·refine rA (l:=[bytes [],bytes [120],bytes [108,101,116],bytes [97,98,99,100,101],bytes [43]]) hc3 (by decide) (by decide) a3 c3 h3 5 5 N7 _ fun w a4 es4 c4 i4 h4 N8 hN8 hc4 hw _ _ _=>⟨⟨rfl,rfl⟩,⟨rfl,rfl⟩,⟨rfl,rfl⟩,⟨rfl,rfl⟩,fun a5 N9 hN9 _=>⟨wG,fun N10 hN10=>hQ _ _ _ _ _ _ _ (by omega) hc4 (((hp.name ?_).some _ _ _ _).mono (by omega))⟩⟩
  simp only [oG,o3,nz] at hw
  rcases hw with rfl | rfl | rfl | rfl | rfl<;>decide
 ·exact qC N7 _ _ fun N8 hN8 _ _=>⟨⟨rfl,rfl⟩,fun a5 N9 hN9 _=>⟨⟨rfl,rfl⟩,by unfold zA;rw [oI];simp only [oJ,oN];omega,fun c9=>⟨⟨rfl,rfl⟩,⟨rfl,rfl⟩,⟨rfl,rfl⟩,⟨rfl,rfl⟩,fun a6 N10 hN10 _=>⟨wG,fun N11 hN11=>hQ _ _ _ _ _ _ _ (by omega) hc3 (((hp.snoc (z.some _ _ _ _) (by omega)).some _ _ _ _).mono (by omega))⟩⟩⟩⟩
 ·exact zQA hc3 a3 c3 h3 N7 _ fun w a4 es4 c4 i4 h4 N8 hN8 hc4 hw _ _ _=>⟨⟨rfl,rfl⟩,⟨rfl,rfl⟩,⟨rfl,rfl⟩,⟨rfl,rfl⟩,fun a5 N9 hN9 _=>⟨wG,fun N10 hN10=>hQ _ _ _ _ _ _ _ (by omega) hc4 (((hp.type hw.cells).some _ _ _ _).mono (by omega))⟩⟩
 ·refine rA (l:=[bytes [120],bytes [122]]) hc3 (by decide) (by decide) a3 c3 h3 2 2 N7 _ fun w a4 es4 c4 i4 h4 N8 hN8 hc4 hw _ _ _=>⟨⟨rfl,rfl⟩,⟨rfl,rfl⟩,⟨rfl,rfl⟩,⟨rfl,rfl⟩,fun a5 N9 hN9 _=>⟨wG,fun N10 hN10=>hQ _ _ _ _ _ _ _ (by omega) hc4 (((hp.other ?_).some _ _ _ _).mono (by omega))⟩⟩
  simp only [oG,o3,nz] at hw
  rcases hw with rfl | rfl<;>decide
 ·exact ⟨⟨rfl,rfl⟩,⟨rfl,rfl⟩,⟨rfl,rfl⟩,⟨rfl,rfl⟩,fun a5 N9 hN9 _=>⟨wG,fun N10 hN10=>hQ _ _ _ _ _ _ _ (by omega) hc3 ((hp.some _ _ _ _).mono (by omega))⟩⟩
end Go.Proofs.YtkdjhkfiolhkiaaGreat
set_option maxRecDepth 100000
namespace Go.Proofs.YtkdjhkfiolhkiaaGreat
open Go Go.Proofs Go.Proofs.Tryz Go.IntWalk
theorem zNp {es:List D} {i:Int} (hcu:Cu es i) (a:Option Addr) (c:Nat) (h:Int) (N:Nat) (Q:QT [.sl 4,.ag 9,.sl 0,.int .i64,.int .i64])
  (hQ:∀ g a1 e1 c1 d a' es' c' i' h' N',N<=N'->Cu es' i'->Pms g e1->g.length<=4->(∀ x∈g,x.ty.cnt<=3)->Some 4096 d->Q a1 e1 c1 d a' es' c' i' h' N'):BCalls prog 62 [.sl 4,.ag 9,.sl 0,.int .i64,.int .i64] [.pb 0 0 0 0] [.var [.sv a 0 es c,.int .i64 i,.int .i64 h]] N Q:=by
 refine zAj N a es c i h Q fun E _ N1 hN1=>zOy hcu a c h N1 _ fun g e1 c1 d a2 es2 c2 i2 h2 N2 hN2 hc2 hg g1 g4 gc hd _ _ _ _ N3 hN3=>?_
 have hgl:=hg.all.len
 have L9:∀ (g:List Pm) (e1:List D) {es:List D} {i:Int} (_:Cu es i) a c h N',N<=N'->Pms g e1->g.length<=4->(∀ x∈g,x.ty.cnt<=3)->yu E Q N e1.length c1 a es c i h 0 (bytes []) (bytes []) 0 0 none [] 0 0 none [] 0 none [] 0 e1 c1 d N':=fun g e1 es i hcu a c h N' hN' hg g4 gc=>by
  refine zB4 _ _ _ _ _ _ _ _ _ _ _ _ _ _ _ _ _ _ _ _ _ _ _ _ _ _ _ _ _ ⟨⟨rfl,rfl⟩,⟨rfl,rfl⟩,⟨rfl,rfl⟩,fun a4 N5 hN5 _=>⟨wG,fun N6 hN6=>hQ g _ _ _ _ _ _ _ _ _ _ (by omega) hcu hg g4 gc hd⟩⟩
 have gc3:∀ x∈g,x.ty.cnt<=3:=fun x hx=>oW (gc x hx) (by omega)
 have hl4:=hg.len
 obtain ⟨p,g',rfl⟩:∃ p g',g=p::g':=by
  cases g with
  | nil=>simp at g1
  | cons p g'=>exact ⟨p,g',rfl⟩
 obtain ⟨dp,ds,rfl,⟨t0,t1,rfl,hnm,hty⟩,hall⟩:=hg.all
 have mem3:∀ {s a b c:ByteArray},s∈[a,b,c]->a.size<=1000->b.size<=1000->c.size<=1000->s.size<=1000:=fun {s a b c} h ha hb hc=>by
  simp only [oG,o3,nz] at h
  rcases h with rfl | rfl | rfl<;>assumption
 refine yo hc2 8 (by omega) a2 c2 h2 N3 _ fun x a3 es3 c3 i3 h3 N4 hN4 hc3 _ _ _ _ _=>Br.beq (fun _ N5 hN5=>?_) fun _=>Br.beq (fun _ N5 hN5=>?_) fun _=>Br.beq (fun _ N5 hN5=>?_) fun _=>L9 _ _ hc3 _ _ _ N4 (by omega) hg g4 gc3
 ·refine rA (l:=[bytes [121],bytes [108,101,116],bytes [120]]) hc3 (by decide) (by decide) a3 c3 h3 3 3 N5 _ fun s a4 es4 c4 i4 h4 N6 hN6 hc4 hs _ _ _=>⟨⟨by omega,by simp,by simp⟩,by simp,?_⟩
  have hs:=mem3 hs (by decide) (by decide) (by decide)
  have:=L9 (⟨s,p.ty,p.dy⟩::g') (D.ag [.lit (.string s),t0,t1,.lit (.bool p.dy)]::ds) hc4 a4 c4 h4 N6 (by omega) ⟨by simpa using hl4,⟨_,_,rfl,⟨t0,t1,rfl,by show s.size<=_;omega,hty⟩,hall⟩⟩ (by simpa using g4) (by simpa using gc3)
  simpa [ta,D.cells] using this
 ·refine zFC 2 (by omega) hc3 a3 c3 h3 N5 _ fun y a4 es4 c4 i4 h4 N6 hN6 hc4 hy _ _ _ _=>⟨⟨by omega,by simp,by simp⟩,by simp,?_⟩
  obtain ⟨t,ht,htc⟩:=hy.cells
  have:=L9 (⟨p.nm,t,p.dy⟩::g') (D.ag [.lit (.string p.nm),y.cell 0,y.cell 1,.lit (.bool p.dy)]::ds) hc4 a4 c4 h4 N6 (by omega) ⟨by simpa using hl4,⟨_,_,rfl,⟨_,_,rfl,hnm,ht⟩,hall⟩⟩ (by simpa using g4) (fun z hz=>by
   rcases oG.1 hz with rfl | hz
   ·exact htc
   ·exact gc3 z (by simp [hz]))
  simpa [ta,D.cells] using this
 ·exact zP1 hc3 a3 c3 h3 N5 _ fun y a4 es4 c4 i4 h4 N6 hN6 hc4 hy _ _ _=>⟨⟨rfl,rfl⟩,⟨rfl,rfl⟩,⟨rfl,rfl⟩,⟨rfl,rfl⟩,fun a5 N7 hN7 _=>⟨wG,fun N8 hN8=>hQ _ _ _ _ _ _ _ _ _ _ _ (by omega) hc4 hg g4 gc3 (hy.mono (by omega))⟩⟩
/-- what FnTimes draws -/
theorem zLQ {es:List D} (hb:∀ d∈es,∃ n:Int,d=.lit (.int .u8 n)) (hl:es.length<=1073741824) (a:Option Addr) (c:Nat) (N:Nat) (Q:QT [.sl 4,.ag 9,.sl 0])
  (hQ:∀ g a1 e1 c1 d ns a2 c2 N',N<=N'->Pms g e1->g.length<=4->(∀ x∈g,x.ty.cnt<=3)->Some 4096 d->ns.length<=10->Q a1 e1 c1 d a2 (yj ns) c2 N'):ACalls prog 8 [.sl 4,.ag 9,.sl 0] [.sv a 0 es c] N Q:=by
 refine qn N a es c Q fun _ N1 hN1=>zRZ hb hl a c N1 _ fun h N2 hN2 hcu _ N3 hN3=>?_
 refine zOy hcu a c h N3 _ fun g e1 c1 d a2 es2 c2 i2 h2 N4 hN4 hc2 hg g1 g4 gc hd _ _ _ _=>⟨⟨rfl,rfl⟩,⟨rfl,rfl⟩,⟨rfl,rfl⟩,fun a1 N4' hN4' _ N5 hN5=>?_⟩
 have gc3:∀ x∈g,x.ty.cnt<=3:=fun x hx=>oW (gc x hx) (by omega)
 refine zQ7 hg (by omega) a1 c1 hc2 a2 c2 h2 N5 _ fun ns c3 a4 es4 c4 i4 h4 N6 hN6 hc4 hns _ _ _ N7 hN7=>?_
 have hnl:=v6 ns
 refine yo hc4 12 (by omega) a4 c4 h4 N7 _ fun x a5 es5 c5 i5 h5 N8 hN8 hc5 _ _ _ _ _=>Br.beq (fun _ N9 hN9=>?_) fun _=>Br.beq (fun _=>?_) fun _=>Br.beq (fun _ N9 hN9=>?_) fun _=>⟨⟨rfl,rfl⟩,⟨rfl,rfl⟩,⟨rfl,rfl⟩,⟨rfl,rfl⟩,fun a6 N9 hN9 _ N10 hN10=>hQ g _ _ _ _ ns _ _ _ (by omega) hg g4 gc3 hd (by omega)⟩
 ·exact zNp hc5 a5 c5 h5 N9 _ fun g' a6 e6 c6 d6 a7 es7 c7 i7 h7 N10 hN10 hc7 hg' g4' gc' hd' _ _ _ _=>⟨⟨rfl,rfl⟩,⟨rfl,rfl⟩,⟨rfl,rfl⟩,⟨rfl,rfl⟩,fun a8 N11 hN11 _ N12 hN12=>hQ g' _ _ _ _ ns _ _ _ (by omega) hg' g4' gc' hd' (by omega)⟩
 ·have e:yj ns++[D.lit (.int .i64 1)]=yj (ns++[1]):=by simp [yj]
  refine ⟨⟨rfl,rfl⟩,by unfold zA;rw [oI];simp only [oJ,oN];omega,fun c10=>⟨⟨rfl,rfl⟩,⟨rfl,rfl⟩,⟨rfl,rfl⟩,⟨rfl,rfl⟩,fun a10 N13 hN13 _ N14 hN14=>?_⟩⟩
  rw [e]
  exact hQ g _ _ _ _ (ns++[1]) _ _ _ (by omega) hg g4 gc3 hd (by simp;omega)
 ·refine vo (l:=[-1,10007]) hc5 (by decide) (by decide) a5 c5 h5 2 2 N9 _ fun w a6 es6 c6 i6 h6 N10 hN10 hc6 _ _ _ _=>⟨⟨by omega,by omega,by omega⟩,by omega,⟨by simp,rfl⟩,⟨by simp,rfl⟩,⟨by simp,rfl⟩,⟨by simp,rfl⟩,⟨by simp,rfl⟩,fun a7 N11 hN11 _ N12 hN12=>?_⟩
  have e:(yj ns).set 0 (D.lit (.int .i64 w))=yj (ns.set 0 w):=by simp [yj,List.map_set]
  rw [e]
  exact hQ g _ _ _ _ (ns.set 0 w) _ _ _ (by omega) hg g4 gc3 hd (by simp;omega)
theorem zJR (l:List Bool) (hl:l.length<=1073741824) (a b:Option Addr) (c c':Nat):w9 12 [.sv a 0 (zm l) c,.sv b 0 (zm l) c'] true:=fun N Q hQ=>by
 have hbl:(zm l).length=l.length:=by simp [zm]
 refine zBm N a _ c b _ c' Q fun _ _=>Br.bne (fun h=>absurd rfl h) fun _=>?_
 refine up (pD l) (by omega) (fun i xs=>∀ (N':Nat),N<=N'->xA Q N a (zm l) c b (zm l) c' i N') ?_ ?_ N (oE _)
 ·intro i hlt _ N' hN'
  refine ua _ _ _ _ _ _ _ _ _ _ ?_
  rw [hlt]
  exact fun N2 hN2=>hQ _ (by omega)
 ·intro i x xs hat _ ih N' hN'
  have hb:=hat.b
  refine ua _ _ _ _ _ _ _ _ _ _ ?_
  rw [hat.lt,hat.w,oH]
  exact ⟨⟨by omega,by omega⟩,x,hat.r,⟨by omega,by omega⟩,x,hat.r,Br.not (fun h=>by simp at h) fun _=>ih N' hN'⟩
theorem zIs (l:List ByteArray) (hl:l.length<=1073741824) (a b:Option Addr) (c c':Nat):w9 16 [.sv a 0 (zB l) c,.sv b 0 (zB l) c'] true:=fun N Q hQ=>by
 have hbl:=zi l
 refine zB0 N a _ c b _ c' Q fun _ _=>Br.bne (fun h=>absurd rfl h) fun _=>?_
 refine up (zFA l) (by omega) (fun i xs=>∀ (N':Nat),N<=N'->yx Q N a (zB l) c b (zB l) c' i N') ?_ ?_ N (oE _)
 ·intro i hlt _ N' hN'
  refine uW _ _ _ _ _ _ _ _ _ _ ?_
  rw [hlt]
  exact fun N2 hN2=>hQ _ (by omega)
 ·intro i x xs hat _ ih N' hN'
  have hb:=hat.b
  refine uW _ _ _ _ _ _ _ _ _ _ ?_
  rw [hat.lt,hat.w,oH]
  exact ⟨⟨by omega,by omega⟩,x,hat.r,⟨by omega,by omega⟩,x,hat.r,Br.not (fun h=>by simp at h) fun _=>ih N' hN'⟩
end Go.Proofs.YtkdjhkfiolhkiaaGreat
set_option maxRecDepth 100000
namespace Go.Proofs.YtkdjhkfiolhkiaaGreat
open Go Go.Proofs Go.Proofs.Tryz Go.IntWalk
theorem zIG {α:Type} {R:α->D->Prop}:∀ {l:List α} {es:List D} {t:α} {d:D} {j:Nat},All2 R l es->R t d->All2 R (l.set j t) (es.set j d)
 | [],es,t,d,j,h,_=>by cases h;exact rfl
 | x::l,es,t,d,0,⟨y,ys,he,h1,h2⟩,hd=>by subst he;exact ⟨d,ys,rfl,hd,h2⟩
 | x::l,es,t,d,j+1,⟨y,ys,he,h1,h2⟩,hd=>by subst he;exact ⟨y,ys.set j d,rfl,h1,zIG h2 hd⟩
theorem zMj {α:Type} {A B:List α} {i:Nat} {v:α} (hA:A[i]?=some v) (hB:i<B.length):(A.take i++B.drop i).set i v=A.take (i+1)++B.drop (i+1):=by
 have hl:(A.take i).length=i:=by have:=(oB.1 hA).1;rw [o0];omega
 rw [ya hA,List.set_append_right _ _ (by omega),hl,Nat.sub_self,mb hB,List.set_cons_zero,nG]
 rfl
theorem zNN {α:Type} {A B:List α} {i:Nat} {v:α} (hA:i<=A.length) (hB:B[i]?=some v):(A.take i++B.drop i)[i]?=some v:=by
 have hl:(A.take i).length=i:=by rw [o0];omega
 rw [oO (by omega),hl,Nat.sub_self,nE]
 exact hB
theorem zE0:∀ {g:List Pm} {ns:List Int} {i:Nat} {p:Pm} {n:Int},g[i]?=some p->ns[i]?=some n->(vJ g ns)[i]?=some (oth p n)
 | q::g,m::ns,0,p,n,h,h2=>by simp at h h2;subst h;subst h2;rfl
 | q::g,m::ns,i+1,p,n,h,h2=>by simp only [vJ,o8] at h h2 ⊢;exact zE0 h h2
 | [],_,i,p,n,h,h2=>by simp at h
 | _::_,[],i,p,n,h,h2=>by simp at h2
theorem zPd {t:Ty} {n:Int} (h:zCJ t n=true):0<=n/\n<=10006/\(t.k=2->n<=1):=by
 unfold zCJ at h
 split at h
 ·rw [yI] at h;omega
 ·rw [yI] at h;exact ⟨h.1,h.2,fun h2=>by contradiction⟩
theorem zPK (s:ByteArray) (l:List ByteArray):decide (qr (fun x=>decide (x=s)) l 0≥0)=decide (s∈l):=by
 have h:=zIv s l
 rw [nc,nI,nI] at h ⊢
 constructor
 ·intro h1;exact Classical.byContradiction fun h2=>by have:=h.2 h2;omega
 ·intro h1;exact Int.not_lt.1 fun h2=>h.1 h2 h1
theorem zMU {es:List D} (hb:∀ d∈es,∃ n:Int,d=.lit (.int .u8 n)) (a:Option Addr) (c:Nat) (N:Nat) :
  ACalls prog 3 [.bool] [.sv a 0 es c] N (fun r _=>r=true):=by
 refine zEZ N a es c _ fun _ N1 hN1=>zLU N1 a es c _ fun _ N2 hN2 _=>Br.dec (fun _ N3 _=>rfl) fun hlen N4 hN4=>?_
 refine zLQ hb (by omega) a c N4 _ fun g a1 e1 c1 d ns a2 c2 N5 hN5 hg hgl hgc hd hnl _ _ _ _ N6 hN6=>?_
 obtain ⟨t,ht,htc⟩:=hd
 have gc2:∀ x∈g,x.ty.cnt<=1073741824:=fun x hx=>by have:=hgc x hx;omega
 have hel:=hg.all.len
 have hnd:=v6 ns
 have htl:=qj g t
 have hnel:=zL2 g t
 have hvc:=Tm.vc_cnt t
 have hfl:=Tm.fv_len t
 refine zBj hg (by omega) gc2 ht (by omega) a1 c1 N6 _ fun N7 hN7 _ N8 hN8=>?_
 refine rz hg (by omega) gc2 ht (by omega) a1 c1 N8 _ fun a3 c3 N9 hN9 _ _ _ N10 hN10=>?_
 refine zB2 hg (by omega) ht (by omega) a1 c1 N10 _ fun N11 hN11 _=>Br.not (fun h=>by simp at h) fun _ N13 hN13=>?_
 refine qA hg (by omega) ht (by omega) a1 c1 N13 _ fun a4 c4 N14 hN14 _ _ _ N15 hN15=>?_
 refine zJR (yf g t) (by omega) a3 a4 c3 c4 N15 _ fun N16 hN16 _=>Br.not (fun h=>by cases h) fun _ N18 hN18=>?_
 refine xn hg (by omega) gc2 ht (by omega) a1 c1 N18 _ fun N19 hN19 _ N20 hN20=>?_
 refine qe hg (by omega) ht (by omega) a1 c1 N20 _ fun N21 hN21 _=>Br.bne (fun h=>absurd rfl h) fun _ N23 hN23=>?_
 refine v7 hg (by omega) gc2 ht (by omega) a1 c1 N23 _ fun a5 c5 N24 hN24 _ _ _ N25 hN25=>?_
 refine qU hg (by omega) ht (by omega) a1 c1 N25 _ fun a6 c6 N26 hN26 _ _ _ N27 hN27=>?_
 refine zIs (uo g t) (by omega) a5 a6 c5 c6 N27 _ fun N28 hN28 _=>Br.not (fun h=>by cases h) fun _ N30 hN30=>?_
 refine sy hg (by omega) ht (by omega) ns (by omega) a1 a2 c1 c2 N30 _ fun N31 hN31 _=>Br.not (fun _ N32 _=>rfl) fun hev N33 hN33=>?_
 obtain ⟨hbt,hnsl,hfit,hval⟩:=zCM hev
 obtain ⟨hoth,hsame⟩:=zJm hev
 have htm:yf g t=t.times (xI g):=by unfold yf;rw [if_pos hbt]
 have hbl:(zm (yf g t)).length=t.sz:=by rw [htm];simp [zm,Tm.times_len]
 have hsz:1<=t.sz:=by cases t;simp only [Tm.sz];omega
 refine zEd t d ht (by omega) N33 _ fun N34 hN34 _=>Br.bne (fun h=>absurd (by omega) h) fun _=>⟨⟨by omega,by omega⟩,zB8 g t,?_,Br.not (fun h=>by simp at h) fun _=>⟨⟨rfl,rfl⟩,?_,fun c7=>⟨⟨rfl,rfl⟩,?_,fun c8 N37 hN37=>?_⟩⟩⟩
 ·rw [htm];unfold zB8;rw [hbt]
  cases t;rfl
 ·unfold zA;simp only [oT,oI,oN];omega
 ·unfold zA;simp only [oT,oI,oN];omega
 refine zC1 t d ht (by omega) N37 _ fun a7 c9 N38 hN38 _ _ _ N39 hN39=>?_
 refine v7 hg (by omega) gc2 ht (by omega) a1 c1 N39 _ fun a8 c10 N40 hN40 _ _ _=>?_
 simp only [oT]
 have hol:=zAb hnsl
 have key:=up hg.all hg.len (fun i xs=>∀ (os:List Int) (r2:List D) (q1 q2 N':Nat),N<=N'->os=(vJ g ns).take i++ns.drop i->All2 Pm.Is ((upG g).take i++g.drop i) r2->r2.length=e1.length ->
  zL (fun r _=>r=true) N a1 e1 c1 (zB8 g t) (wi g t ns).1 e1.length q1 e1.length q2 a7 (zB t.fv) c9 a8 (zB (uo g t)) c10 i d (yj os) q1 r2 q2 N') ?_ ?_ ns e1 c7 c8 N40 (by omega) (by simp) (by simpa using hg.all) rfl
 ·rw [show (yj ns).length=e1.length by omega]
  exact key
 ·intro i hlt hi os r2 q1 q2 N' hN' hos hr2 hr2l
  refine tJ _ _ _ _ _ _ _ _ _ _ _ _ _ _ _ _ _ _ _ _ _ _ _ _ ?_
  dsimp only
  rw [hlt]
  have hup:(upG g).length=g.length:=by simp [upG]
  rw [oe (by omega),mE (by omega),nH] at hos hr2
  have hosl:(yj os).length=e1.length:=by rw [v6,hos];omega
  refine ⟨⟨by omega,rfl⟩,fun a9 _ _ _ N26 hN26 _=>?_⟩
  rw [hos]
  refine sy hg (by omega) ht (by omega) _ (by omega) a1 a9 c1 _ N26 _ fun N27 hN27 _=>⟨⟨by omega,rfl⟩,fun a10 _ _ N28 hN28 _=>?_⟩
  refine xn (g:=upG g) ⟨by have:=hg.len;omega,hr2⟩ (by omega) (fun x hx=>by
   obtain ⟨p,hp,rfl⟩:=oR.1 hx;exact gc2 p hp) ht (by omega) a10 _ N28 _ fun N29 hN29 _ N30 hN30=>?_
  refine xn hg (by omega) gc2 ht (by omega) a1 c1 N30 _ fun N31 hN31 _=>?_
  have hcu:=zOq g t
  refine Br.dec (fun _=>Br.of (fun _=>Br.of (fun _ N32 _=>rfl) fun hd N33 _=>?_) fun h=>?_) fun h=>absurd (by omega) h
  ·have:=hsame hd
   simpa using this
  ·rw [hoth] at h;cases h
 ·intro i x xs hat _ ih os r2 q1 q2 N' hN' hos hr2 hr2l
  have hbb:=hat.b
  obtain ⟨t0,t1,hd',hnm,hty⟩:=hat.r
  obtain ⟨b,fs,kk,hte⟩:∃ b fs kk,(D.ag [t0,t1])=.ag [.lit (.int .i64 x.ty.k),.sl b 2 fs kk]:=by
   cases hx:x.ty with
   | mk k l=>rw [hx] at hty;obtain ⟨b,fs,kk,h1,_,_⟩:=Ty.is_mk.1 hty;exact ⟨b,fs,kk,h1⟩
  obtain ⟨rfl,rfl⟩:t0=.lit (.int .i64 x.ty.k)/\t1=.sl b 2 fs kk:=by simpa using hte
  have hup:(upG g).length=g.length:=by simp [upG]
  have hil:i<g.length:=by omega
  obtain ⟨n,hn⟩:∃ n,ns[i]?=some n:=⟨_,oD (by omega)⟩
  have hfn:=zPd (zBB hfit hat.g hn)
  have hog:=zE0 hat.g hn
  have hgu:(upG g)[i]?=some ⟨x.nm,x.ty,true⟩:=by rw [upG,oF,hat.g];rfl
  obtain ⟨s0,s1,hx2,_,hty2⟩:=hr2.get (zNN (by omega) hat.g)
  have hosl:(yj os).length=e1.length:=by rw [v6,hos];simp;omega
  have hosi:os[i]?=some n:=by rw [hos];exact zNN (by omega) hn
  have hget:(yj os).getD i default=.lit (.int .i64 n):=by
   simp [yj,oA,oF,hosi]
  have hset:(yj os).set i (.lit (.int .i64 (oth x n)))=yj (os.set i (oth x n)):=by simp [yj,List.map_set]
  have hsetu:yj os=yj (os.set i n):=by
   congr 1
   apply nB
   intro j
   rw [nK]
   split
   ·rename_i hj;subst hj;rw [hosi];simp [(oB.1 hosi).1]
   ·rfl
  have next:∀ N'',N<=N''->zL (fun r _=>r=true) N a1 e1 c1 (zB8 g t) (wi g t ns).1 e1.length q1 e1.length q2 a7 (zB t.fv) c9 a8 (zB (uo g t)) c10 ((i+1:Nat):Int) d (yj (os.set i (oth x n))) q1 (r2.set i (D.ag (ta 3 [D.lit (.bool true)] (D.cells (r2.getD i default))))) q2 N'':=fun N'' hN''=>by
   refine ih _ _ _ _ N'' hN'' (by rw [hos];exact zMj hog (by omega)) ?_ (by simpa using hr2l)
   rw [<-zMj hgu hil]
   refine zIG hr2 ⟨s0,s1,?_,hnm,hty2⟩
   rw [hx2];rfl
  have tl:∀ (X:Nat->Prop),(∀ N'',N<=N''->X N'')->∀ N1,N'<=N1->ACalls prog 22 [.int .i64] [.sv a8 0 (zB (uo g t)) c10,.str x.nm] N1 (fun n_2 N2=>N1<=N2->∀ N3,N2<=N3->ACalls prog 22 [.int .i64] [.sv a7 0 (zB t.fv) c9,.str x.nm] N3 (fun n_3 N4=>N3<=N4->Br (!(decide (n_2≥0)==decide (n_3≥0))) (∀ N5,N4<=N5->false=true) (X N4))):=fun X hX N1 hN1=>by
   refine xZ _ (by omega) a8 c10 x.nm N1 _ fun N2 hN2 _ N3 hN3=>xZ _ (by omega) a7 c9 x.nm N3 _ fun N4 hN4 _=>?_
   have hnf:=zNn hbt hat.g
   rw [zPK,zPK]
   refine Br.not (fun h=>?_) fun _=>hX N4 (by omega)
   have he:decide (x.nm∈uo g t)=decide (x.nm∈t.fv):=decide_eq_decide.2 hnf
   rw [he] at h
   simp at h
  have two:(0:Int)<=(i:Int)/\(i:Int)<(e1.length:Int):=hbb
  refine tJ _ _ _ _ _ _ _ _ _ _ _ _ _ _ _ _ _ _ _ _ _ _ _ _ ?_
  dsimp only
  rw [hat.lt,hat.w,oH]
  simp only [nk]
  rw [hd',hget]
  refine ⟨⟨by omega,by omega,by omega⟩,by omega,two,x.dy,rfl,Br.of (fun hdy=>?_) fun hdy=>?_⟩
  ·refine ⟨two,x.ty.k,rfl,Br.beq (fun h2=>⟨⟨by omega,by omega,by omega⟩,by omega,n,rfl,⟨by omega,by omega,by omega⟩,by omega,two,x.nm,rfl,two,x.nm,rfl,fun N1 hN1=>?_⟩) fun h2=>⟨two,x.dy,rfl,Br.of (fun _=>⟨⟨by omega,by omega,by omega⟩,by omega,n,rfl,by decide,⟨by omega,by omega,by omega⟩,by omega,two,x.nm,rfl,two,x.nm,rfl,fun N1 hN1=>?_⟩) fun h=>absurd hdy (by simp [h])⟩⟩
   ·have ho:oth x n=IntKind.i64.wrap (1 - n):=by
     rw [i64_in (1 - n) (by omega)];unfold oth;rw [if_pos hdy,if_pos h2]
    rw [<-ho,hset]
    exact tl _ next N1 hN1
   ·have ho:oth x n=Int.tmod (IntKind.i64.wrap (n+1)) 10007:=by
     rw [i64_in (n+1) (by omega)];unfold oth;rw [if_pos hdy,if_neg h2]
    rw [<-ho,hset]
    exact tl _ next N1 hN1
  ·refine ⟨two,x.dy,rfl,Br.of (fun h=>absurd hdy (by simp [h])) fun _=>⟨two,x.nm,rfl,two,x.nm,rfl,fun N1 hN1=>?_⟩⟩
   have ho:oth x n=n:=by unfold oth;rw [if_neg (by simp [hdy])]
   rw [ho] at next
   rw [hsetu]
   exact tl _ next N1 hN1
end Go.Proofs.YtkdjhkfiolhkiaaGreat
