/- Which parts of a body depend on late parameters: the reference. -/
import Derived.Test.YtlahkdflngobiaaGreatDoorKa
import Derived.Test.YtlahkdflngobiaaGreatDoorB2
set_option linter.unusedVariables false
set_option linter.unusedSimpArgs false
namespace Go.Proofs.YtlahkdflngobiaaGreatDoor
open Go Go.Proofs Go.Proofs.Tryz Go.IntWalk
theorem zQU {l:List Tm} {es:List D} (h:All2 Tm.Is l es) (O:(l.length:Int)=2):∃ I J d0 d1,l=[I,J]/\es=[d0,d1]/\I.Is d0/\J.Is d1:=by
 have he:=h.len
 match l,es,h with
 | [I,J],es,⟨d0,ds,e1,h0,d1,aa,e2,h1,e3⟩=>subst e3;subst e2;subst e1;exact ⟨I,J,d0,d1,rfl,rfl,h0,h1⟩
 | [],_,_=>simp at O
 | [_],_,_=>simp at O
 | _::_::_::_,_,_=>simp at O;omega
theorem zCp:∀ {l:List Tm} {x:Tm},zOx l=true->x∈l->x.isB=true
 | t::I,x,h,hx=>by
   simp only [zOx,oL] at h
   rcases oH.1 hx with rfl | hx
   ·exact h.1
   ·exact zCp h.2 hx
theorem zMf {l:List Tm} {es:List D} (h:All2 Tm.Is l es) (I:(l.length:Int)=3):∃ J O x2 d0 d1 d2,l=[J,O,x2]/\es=[d0,d1,d2]/\J.Is d0/\O.Is d1/\x2.Is d2:=by
 match l,es,h with
 | [J,O,x2],es,⟨d0,ds,e1,h0,d1,aa,e2,h1,d2,ab,e3,h2,e4⟩=>subst e4;subst e3;subst e2;subst e1;exact ⟨J,O,x2,d0,d1,d2,rfl,rfl,h0,h1,h2⟩
 | [],_,_=>simp at I
 | [_],_,_=>simp at I
 | [_,_],_,_=>simp at I
 | _::_::_::_::_,_,_=>simp at I;omega
theorem Tm.cnt_pos (t:Tm):1<=t.cnt:=by cases t;simp only [Tm.cnt];omega
theorem zMp {g:List Pm} {e:Tm} (h:(yk g e).isSome=true):zB2 g=true/\e.vd=true/\e.isB=true:=by
 unfold yk at h
 split at h
 ·assumption
 ·cases h
theorem zVW {e:Tm} (h:e.vd=true):e.ok=true:=by
 simp only [Tm.vd,oL] at h
 exact h.2
/-- a name and its number -/
abbrev Nb:=ByteArray × Int
def zBJ (nm:ByteArray) (v:List Nb):Option Int:=(v.reverse.find? λp=>decide (p.1=nm)).map (·.2)
theorem xy {nm:ByteArray} {v:List Nb} {b:Nb}:zBJ nm (v++[b])=if b.1=nm then some b.2 else zBJ nm v:=by
 unfold zBJ
 rw [List.reverse_append]
 by_cases h:b.1=nm<;>simp [h]
def red (n:Int):Int:=n % 10007
def bI (b:Bool):Int:=if b then 1 else 0
def vk (s:ByteArray) (a b:Int):Int × Bool:=
 if inB a 0 10006=true then (if inB b 0 10006=true then
  (if s=bytes [43] then (red (a+b),true) else if s=bytes [45] then (red (a - b),true) else if s=bytes [42] then (red (a*b),true)
  else if s=bytes [61] then (bI (a==b),true) else if s=bytes [60] then (bI (decide (a<b)),true)
  else if s=bytes [38] then (bI (a==1&&b==1),true) else if s=bytes [124] then (bI (a==1||b==1),true)
  else if s=bytes [33] then (bI (a==0),true) else (0,false)) else (0,false)) else (0,false)
mutual
def Tm.ev:Tm->List Nb->Int
 | .mk k nm _ n _ _ l,v=>if k=1 then (zBJ nm v).getD n else if k=4 then (vk nm (zFg l 0 v) (zFg l 1 v)).1 else if k=5 then zFg l (2 - zFg l 0 v).toNat v
   else if k=8 then zFg l 1 (v++[(nm,zFg l 0 v)]) else n
def zFg:List Tm->Nat->List Nb->Int
 | [],_,_=>0
 | t::_,0,v=>t.ev v
 | _::I,i+1,v=>zFg I i v
end
def zKA (t:Ty) (n:Int):Bool:=if t.k=2 then inB n 0 1 else inB n 0 10006
theorem zGo (b:Bool):0<=bI b/\bI b<=1:=by cases b<;>decide
theorem zP8 (n:Int):0<=red n/\red n<=10006:=by unfold red;omega
theorem zN9 (s:ByteArray) (a b:Int):0<=(vk s a b).1/\(vk s a b).1<=10006:=by
 have I:=zP8 (a+b);have J:=zP8 (a - b);have O:=zP8 (a*b)
 have h4:=zGo (a==b);have h5:=zGo (decide (a<b));have h6:=zGo (a==1&&b==1);have h7:=zGo (a==1||b==1);have h8:=zGo (a==0)
 unfold vk
 (repeat' split)<;>constructor<;>first | omega | (simp only;omega)
theorem zJ4 {s:ByteArray} (n1:¬s=bytes [43]) (n2:¬s=bytes [45]) (n3:¬s=bytes [42]) (a b:Int):0<=(vk s a b).1/\(vk s a b).1<=1:=by
 have I:=zGo (a==b);have J:=zGo (decide (a<b));have O:=zGo (a==1&&b==1);have h7:=zGo (a==1||b==1);have h8:=zGo (a==0)
 unfold vk
 rw [if_neg n1,if_neg n2,if_neg n3]
 (repeat' split)<;>constructor<;>first | omega | (simp only;omega)
/-- numbers for the names of a typing -/
structure Fit (v:List Nb) (g:List Tg):Prop where
 len:v.length=g.length
 at_:∀ (i:Nat) (x:Tg) (y:Nb),g[i]?=some x->v[i]?=some y->x.nm=y.1/\zKA x.ty y.2=true
theorem Fit.snoc {v:List Nb} {g:List Tg} (h:Fit v g) {x:Tg} {y:Nb} (h1:x.nm=y.1) (h2:zKA x.ty y.2=true):Fit (v++[y]) (g++[x]):=by
 refine ⟨by simp [h.len],λi a b I J=>?_⟩
 by_cases hi:i<g.length
 ·rw [oN hi] at I
  rw [oN (by have:=h.len;omega)] at J
  exact h.at_ i a b I J
 ·rw [oP (by omega)] at I
  rw [oP (by have:=h.len;omega),h.len] at J
  cases O:i - g.length with
  | zero=>rw [O] at I J;simp at I J;subst I;subst J;exact ⟨h1,h2⟩
  | succ j=>rw [O] at I;simp at I
theorem zM0 {v:List Nb} {g:List Tg} (h:Fit v g) (s:ByteArray):∀ n:Nat,n<=g.length->0<=tX g s n->∃ m,zBJ s (v.take n)=some m/\zKA (g.getD (tX g s n).toNat tg0).ty m=true
 | 0,_,I=>by simp [tX] at I
 | n+1,hn,I=>by
   have O:n<v.length:=by have:=h.len;omega
   have aa:n<g.length:=by omega
   have hv:v[n]?=some v[n]:=oF O
   have hg:g[n]?=some g[n]:=oF aa
   have J:g.getD n tg0=g[n]:=by simp [oA,hg]
   obtain ⟨e1,e2⟩:=h.at_ n _ _ hg hv
   rw [xK hv,xy]
   simp only [tX,J] at I ⊢
   by_cases hs:g[n].nm=s
   ·rw [if_pos (by rw [<-e1];exact hs),if_pos hs]
    exact ⟨_,rfl,by rw [oK,J];exact e2⟩
   ·rw [if_neg (by rw [<-e1];exact hs)]
    rw [if_neg hs] at I ⊢
    exact zM0 h s n (by omega) I
theorem zTt {v:List Nb} {g:List Tg} (h:Fit v g) {s:ByteArray} {t:Ty} (I:zBN g s 0=some t):∃ m,zBJ s v=some m/\zKA t m=true:=by
 unfold zBN at I
 split at I
 ·cases I
 ·rename_i J
  split at I
  ·cases I
   have:=zM0 h s g.length (oB _) (by unfold yg at J;omega)
   rw [<-h.len,lK] at this
   have e:tX g s v.length=yg g s:=by rw [h.len];rfl
   rw [e] at this
   exact this
  ·cases I
theorem uX {x:Tm} {J:List Tm} {g:List Tg} {n:Int} {us:List Ty} (h:yE (x::J) g n=some us):∃ u vs,x.type g n=some u/\yE J g n=some vs/\us=u::vs:=by
 simp only [yE] at h
 split at h
 ·rename_i u O
  split at h
  ·rename_i vs I
   cases h
   exact ⟨u,vs,O,I,rfl⟩
  ·cases h
 ·cases h
theorem zLW {n:Int} {t:Ty} (I:t.k=2) (h:zKA t n=true):n=0\/n=1:=by
 unfold zKA at h
 rw [if_pos I,wl] at h
 omega
theorem zMH {n:Int} {t:Ty} (h:0<=n/\n<=(if t.k=2 then 1 else 10006)):zKA t n=true:=by
 unfold zKA
 split at h<;>rename_i I
 ·rw [if_pos I,wl];omega
 ·rw [if_neg I,wl];omega
theorem zL1:∀ (t:Tm),t.ok=true->t.isB=true->∀ (g:List Tg) (v:List Nb),Fit v g->∀ u,t.type g 0=some u->zKA u (t.ev v)=true:=by
 refine Tm.ind λk nm ot n ty re l ih ah hb g v hf u I=>?_
 have node:=y8 ah
 simp only [Tm.isB,oL,zKB,nk,wl,mE] at hb
 obtain ⟨ai,hk⟩:=hb
 have J:∀ x∈l,∀ g v,Fit v g->∀ u,x.type g 0=some u->zKA u (x.ev v)=true:=λx hx=>ih x hx (node.sub x hx) (zCp ai hx)
 have aa:=node.ar
 have ab:=node.f
 simp only [yf,oL] at ab
 have O:=ab.2.2.2.2.1
 rw [wl] at O
 simp only [Tm.type] at I
 obtain ⟨I,ak⟩:=zEy I
 simp only [Tm.ev]
 by_cases h1:k=1
 ·rw [if_pos h1] at I ⊢
  obtain ⟨m,e1,e2⟩:=zTt hf I
  rw [e1];exact e2
 rw [if_neg h1] at I ⊢
 by_cases h4:k=4
 ·subst h4
  rw [if_neg (by omega),if_neg (by omega),if_neg (by omega),if_neg (by omega),if_neg (by omega),if_neg (by omega)] at I
  rw [if_pos rfl]
  split at I
  ·rename_i ts ac
   unfold xa at I
   rw [if_pos rfl] at I
   unfold zSx at I
   split at I
   ·cases I
    refine zMH ?_
    have O:=zN9 nm (zFg l 0 v) (zFg l 1 v)
    split
    ·rename_i h2
     unfold zER at h2
     by_cases c1:nm=bytes [43]
     ·simp [c1,tInt,Ty.k] at h2
     by_cases c2:nm=bytes [45]
     ·simp [c1,c2,tInt,Ty.k] at h2
     by_cases c3:nm=bytes [42]
     ·simp [c1,c2,c3,tInt,Ty.k] at h2
     exact zJ4 c1 c2 c3 _ _
    ·exact O
   ·cases I
  ·cases I
 rw [if_neg h4]
 by_cases h5:k=5
 ·subst h5
  rw [if_neg (by omega),if_neg (by omega),if_neg (by omega),if_neg (by omega),if_neg (by omega),if_neg (by omega)] at I
  rw [if_pos rfl]
  rw [show zGm 5 nm=3 from rfl] at aa
  match l,aa with
  | [x0,x1,x2],_=>
    split at I
    ·rename_i ts ac
     obtain ⟨u0,al,e0,h6,e3⟩:=uX ac
     obtain ⟨u1,am,e1,h7,e4⟩:=uX h6
     obtain ⟨u2,ao,e2,h8,e5⟩:=uX h7
     subst e5;subst e4;subst e3
     unfold xa at I
     rw [if_neg (by omega),if_pos rfl] at I
     split at I
     ·rename_i hc
      simp only [mN,mv,rx] at hc I
      cases I
      have hc0:=zLW hc.1 (J x0 (by simp) g v hf _ e0)
      have aj:zFg [x0,x1,x2] 0 v=x0.ev v:=rfl
      rw [aj]
      rcases hc0 with hc0 | hc0
      ·rw [hc0];rw [hc.2];exact J x2 (by simp) g v hf _ e2
      ·rw [hc0];exact J x1 (by simp) g v hf _ e1
     ·cases I
    ·cases I
  | [],h=>simp at h
  | [_],h=>simp at h
  | [_,_],h=>simp at h
  | _::_::_::_::_,h=>simp at h;omega
 rw [if_neg h5]
 by_cases h8:k=8
 ·subst h8
  rw [if_neg (by omega),if_neg (by omega),if_neg (by omega),if_pos rfl] at I
  rw [if_pos rfl]
  rw [show zGm 8 nm=2 from rfl] at aa
  match l,aa with
  | [x0,x1],_=>
    simp only [uw] at I
    split at I
    ·rename_i a ha
     exact J x1 (by simp) _ _ (hf.snoc rfl (J x0 (by simp) g v hf _ ha)) _ I
    ·cases I
  | [],h=>simp at h
  | [_],h=>simp at h
  | _::_::_::_,h=>simp at h;omega
 rw [if_neg h8]
 have ae:k=2\/k=3:=by omega
 rcases ae with rfl | rfl
 ·rw [if_pos rfl] at I;cases I
  refine zMH ?_
  simpa [tInt,Ty.k] using O
 ·rw [if_neg (by omega),if_pos rfl] at I;cases I
  refine zMH ?_
  simpa [tBool,Ty.k] using O
end Go.Proofs.YtlahkdflngobiaaGreatDoor
