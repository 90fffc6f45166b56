/- What is left of a body: what it is. -/
import Derived.Test.YtkdjhkfiolhkiaaGreatWc
import Derived.Test.YtkdjhkfiolhkiaaGreatWe
import Derived.Test.YtkdjhkfiolhkiaaGreatWx
set_option linter.unusedVariables false
set_option linter.unusedSimpArgs false
namespace Go.Proofs.YtkdjhkfiolhkiaaGreat
open Go Go.Proofs Go.Proofs.Tryz Go.IntWalk
def zJU (t:Ty) (n:Int):Tm:=.mk (if t.k=2 then 3 else 2) (bytes []) (bytes []) n (.mk 0 []) (.mk 0 []) []
/-- names, numbers and types in the part at a place -/
def wI (k:Int) (nm:ByteArray) (w:List Pl) (i:Nat):List Pl:=if i=0 then w else if k=8 then w++[(nm,0,true)] else w
def zQP:List Tm->List Tg->Ty
 | [],_=>tZero
 | x::_,g=>tyZ x g 0
def gI (k:Int) (nm:ByteArray) (l:List Tm) (g:List Tg) (i:Nat):List Tg:=if i=0 then g else if k=8 then g++[⟨nm,zQP l g,0⟩] else g
mutual
def Tm.sp:Tm->List Pl->List Tg->Tm
 | .mk k nm ot n ty re l,w,g=>if (Tm.mk k nm ot n ty re l).late (w.map plB)=false then zJU (tyZ (.mk k nm ot n ty re l) g 0) ((Tm.mk k nm ot n ty re l).ev (w.map plN))
   else if k=5/\zDC l (w.map plB)=false then zGb l (2 - qb l 0 (w.map plN)).toNat w g
   else if k=8/\zDC l (w.map plB)=false then zDQ l nm w g else .mk k nm ot n ty re (yA l k nm w g)
def zGb:List Tm->Nat->List Pl->List Tg->Tm
 | [],_,_,_=>Tm.nod 0 []
 | x::_,0,w,g=>x.sp w g
 | _::xs,i+1,w,g=>zGb xs i w g
def zDQ:List Tm->ByteArray->List Pl->List Tg->Tm
 | [],_,_,_=>Tm.nod 0 []
 | x::xs,nm,w,g=>zGb xs 0 (w++[(nm,x.ev (w.map plN),false)]) (g++[⟨nm,tyZ x g 0,0⟩])
def vf:List Tm->List Pl->List Tg->List Tm
 | [],_,_=>[]
 | x::xs,w,g=>x.sp w g::vf xs w g
def yA:List Tm->Int->ByteArray->List Pl->List Tg->List Tm
 | [],_,_,_,_=>[]
 | x::xs,k,nm,w,g=>x.sp w g::vf xs (if k=8 then w++[(nm,0,true)] else w) (if k=8 then g++[⟨nm,tyZ x g 0,0⟩] else g)
end
theorem zMa (t:Ty) (n:Int):(zJU t n).cnt=3:=by simp only [zJU,Tm.cnt,Ty.cnt,zO,zJ]
mutual
theorem zEg:∀ (t:Tm) (w:List Pl) (g:List Tg),(t.sp w g).cnt<=t.cnt
 | .mk k nm ot n ty re l,w,g=>by
   have h3:=Tm.cnt3 (.mk k nm ot n ty re l)
   have h1:=zFH l (2 - qb l 0 (w.map plN)).toNat w g
   have h2:=zME l nm w g
   have h4:=zIi l k nm w g
   simp only [Tm.cnt] at h3 ⊢
   simp only [Tm.sp]
   (repeat' split)
   ·rw [zMa];omega
   ·omega
   ·omega
   ·simp only [Tm.cnt];omega
theorem zFH:∀ (l:List Tm) (i:Nat) (w:List Pl) (g:List Tg),(zGb l i w g).cnt<=max 3 (zJ l)
 | [],_,_,_=>by simp only [zGb,zIS,zJ];omega
 | x::xs,0,w,g=>by simp only [zGb,zJ];have:=zEg x w g;omega
 | x::xs,i+1,w,g=>by simp only [zGb,zJ];have:=zFH xs i w g;have:=x.cnt3;omega
theorem zME:∀ (l:List Tm) (nm:ByteArray) (w:List Pl) (g:List Tg),(zDQ l nm w g).cnt<=max 3 (zJ l)
 | [],_,_,_=>by simp only [zDQ,zIS,zJ];omega
 | x::xs,nm,w,g=>by simp only [zDQ,zJ];have:=zFH xs 0 (w++[(nm,x.ev (w.map plN),false)]) (g++[⟨nm,tyZ x g 0,0⟩]);have:=x.cnt3;omega
theorem zGp:∀ (l:List Tm) (w:List Pl) (g:List Tg),zJ (vf l w g)<=zJ l
 | [],_,_=>by simp only [vf,zJ];omega
 | x::xs,w,g=>by simp only [vf,zJ];have:=zEg x w g;have:=zGp xs w g;omega
theorem zIi:∀ (l:List Tm) (k:Int) (nm:ByteArray) (w:List Pl) (g:List Tg),zJ (yA l k nm w g)<=zJ l
 | [],_,_,_,_=>by simp only [yA,zJ];omega
 | x::xs,k,nm,w,g=>by
   simp only [yA,zJ]
   have:=zEg x w g
   have:=zGp xs (if k=8 then w++[(nm,0,true)] else w) (if k=8 then g++[⟨nm,tyZ x g 0,0⟩] else g)
   omega
end
theorem zGe:∀ (l:List Tm) (w:List Pl) (g:List Tg),(vf l w g).length=l.length
 | [],_,_=>by simp only [vf]
 | x::xs,w,g=>by simp only [vf,oH,zGe xs w g]
theorem zCv:∀ (l:List Tm) (k:Int) (nm:ByteArray) (w:List Pl) (g:List Tg),(yA l k nm w g).length=l.length
 | [],_,_,_,_=>by simp only [yA]
 | x::xs,k,nm,w,g=>by simp only [yA,oH,zGe xs]
theorem zGl:∀ (l:List Tm) (w:List Pl) (g:List Tg) (i:Nat) (x:Tm),l[i]?=some x->(vf l w g)[i]?=some (x.sp w g)
 | [],w,g,i,x,h=>by simp at h
 | y::ys,w,g,0,x,h=>by simp at h;subst h;simp [vf]
 | y::ys,w,g,i+1,x,h=>by simp only [vf,om];exact zGl ys w g i x (by simpa using h)
theorem zCm:∀ (l:List Tm) (k:Int) (nm:ByteArray) (w:List Pl) (g:List Tg) (i:Nat) (x:Tm),l[i]?=some x->(yA l k nm w g)[i]?=some (x.sp (wI k nm w i) (gI k nm l g i))
 | [],_,_,w,g,i,x,h=>by simp at h
 | y::ys,k,nm,w,g,0,x,h=>by simp at h;subst h;simp [yA,wI,gI]
 | y::ys,k,nm,w,g,i+1,x,h=>by
   simp only [yA,om]
   rw [zGl ys _ _ i x (by simpa using h)]
   simp [wI,gI,zQP]
theorem zHb (t:Ty):zBm t 0=true:=by unfold zBm;split<;>decide
/-- what specialization may count on -/
structure SpC (t:Tm) (w:List Pl) (g:List Tg):Prop where
 ok:t.ok=true
 b:t.isB=true
 pre:Pre g t 0
 ty:∃ u,t.type g 0=some u
 fit:Fit (w.map plN) g
theorem zPU {t:Tm} {g:List Tg} {n:Int} {u:Ty} (h:t.type g n=some u):tyZ t g n=u:=by simp [tyZ,h]
theorem zEV {k:Int} (h:zAe k=true):zw k 0=0:=by
 simp only [zAe,nU,yG,np] at h
 unfold zw;rw [if_neg (by omega),if_neg (by omega)]
theorem SpC.flat {k:Int} {nm ot:ByteArray} {n:Int} {ty re:Ty} {l:List Tm} {w:List Pl} {g:List Tg} (h:SpC (.mk k nm ot n ty re l) w g) (hk:k=4\/k=5) {x:Tm} (hx:x∈l):SpC x w g:=by
 have hb:=h.b
 simp only [Tm.isB,oI] at hb
 obtain ⟨u,hu⟩:=h.ty
 obtain ⟨ts,hts,_⟩:=vD hu hk
 refine ⟨(zX h.ok).sub x hx,xH hb.1 hx,?_,rC hts x hx,h.fit⟩
 have:=h.pre.sub (g':=g) hx (by omega) h.pre.ty
 rwa [zEV hb.2] at this
theorem SpC.let_ {nm ot:ByteArray} {n:Int} {ty re:Ty} {x0 x1:Tm} {w:List Pl} {g:List Tg} (h:SpC (.mk 8 nm ot n ty re [x0,x1]) w g) :
  SpC x0 w g/\SpC x1 (w++[(nm,0,true)]) (g++[⟨nm,tyZ x0 g 0,0⟩])/\SpC x1 (w++[(nm,x0.ev (w.map plN),false)]) (g++[⟨nm,tyZ x0 g 0,0⟩]):=by
 have hb:=h.b
 simp only [Tm.isB,oI] at hb
 have nd:=zX h.ok
 have m0:x0∈[x0,x1]:=by simp
 have m1:x1∈[x0,x1]:=by simp
 obtain ⟨u,hu⟩:=h.ty
 obtain ⟨u0,e0,e1⟩:=zFr hu
 have p0:=h.pre.sub (g':=g) m0 (by omega) h.pre.ty
 have p1:=h.pre.sub (g':=g++[⟨nm,tyZ x0 g 0,0⟩]) m1 (by simp) (tM h.pre.ty (by have:=zF5 x0 g 0;show (tyZ x0 g 0).cnt<=64;omega))
 rw [zEV hb.2] at p0 p1
 have hz:=zPU e0
 rw [<-hz] at e1
 have key:∀ m b,zBm (tyZ x0 g 0) m=true->Fit ((w++[(nm,m,b)]).map plN) (g++[⟨nm,tyZ x0 g 0,0⟩]):=fun m b hm=>by
  rw [o7]
  exact h.fit.snoc (x:=⟨nm,tyZ x0 g 0,0⟩) (y:=(nm,m)) rfl hm
 refine ⟨⟨nd.sub x0 m0,xH hb.1 m0,p0,⟨_,e0⟩,h.fit⟩,⟨nd.sub x1 m1,xH hb.1 m1,p1,⟨_,e1⟩,key _ _ (zHb _)⟩,⟨nd.sub x1 m1,xH hb.1 m1,p1,⟨_,e1⟩,key _ _ ?_⟩⟩
 rw [hz]
 exact qK x0 (nd.sub x0 m0) (xH hb.1 m0) g _ h.fit u0 e0
/-- the value of a condition -/
theorem SpC.cond {nm ot:ByteArray} {n:Int} {ty re:Ty} {x0 x1 x2:Tm} {w:List Pl} {g:List Tg} (h:SpC (.mk 5 nm ot n ty re [x0,x1,x2]) w g):x0.ev (w.map plN)=0\/x0.ev (w.map plN)=1:=by
 obtain ⟨u,hu⟩:=h.ty
 obtain ⟨ts,hts,hfm⟩:=vD hu (.inr rfl)
 obtain ⟨u0,us0,e0,q6,e3⟩:=yD hts
 obtain ⟨u1,us1,e1,q7,e4⟩:=yD q6
 obtain ⟨u2,us2,e2,q8,e5⟩:=yD q7
 have hus2:us2=[]:=by simp only [zf] at q8;exact (o5 q8).symm
 subst hus2;subst e5;subst e4;subst e3
 have hu0:u0.k=2:=by
  unfold yW at hfm
  rw [if_neg (by omega),if_pos rfl] at hfm
  split at hfm
  ·rename_i hcc;exact hcc.1
  ·cases hfm
 have s0:=h.flat (.inr rfl) (x:=x0) (by simp)
 exact pU hu0 (qK x0 s0.ok s0.b g _ h.fit u0 e0)
theorem SpC.part {k:Int} {nm ot:ByteArray} {n:Int} {ty re:Ty} {l:List Tm} {w:List Pl} {g:List Tg} (h:SpC (.mk k nm ot n ty re l) w g) {i:Nat} {x:Tm} (hx:l[i]?=some x):SpC x (wI k nm w i) (gI k nm l g i):=by
 have hb:=h.b
 simp only [Tm.isB,oI] at hb
 have nd:=zX h.ok
 have har:=nd.ar
 have hlt:i<l.length:=(oB.1 hx).1
 have kc:k=1\/k=2\/k=3\/k=4\/k=5\/k=8:=by
  have:=hb.2
  simp only [zAe,nU,yG,np] at this
  omega
 rcases kc with rfl | rfl | rfl | rfl | rfl | rfl
 ·rw [show tq 1 nm=0 from rfl] at har;omega
 ·rw [show tq 2 nm=0 from rfl] at har;omega
 ·rw [show tq 3 nm=0 from rfl] at har;omega
 ·have:=h.flat (.inl rfl) (oC hx)
  simpa [wI,gI] using this
 ·have:=h.flat (.inr rfl) (oC hx)
  simpa [wI,gI] using this
 ·rw [show tq 8 nm=2 from rfl] at har
  match l,har with
  | [x0,x1],_=>
    obtain ⟨h0,h1,_⟩:=h.let_
    match i,hx with
    | 0,hx=>simp at hx;subst hx;exact h0
    | 1,hx=>simp at hx;subst hx;simpa [wI,gI,zQP] using h1
    | i+2,hx=>simp at hx
  | [],h=>simp at h
  | [_],h=>simp at h
  | _::_::_::_,h=>simp at h;omega
def spB (p:Pl):D:=.ag [.lit (.string p.1),.lit (.bool p.2.2),.lit (.int .i64 p.2.1)]
theorem zHf:∀ v:List Pl,All2 (fun b d=>d=spB b) v (v.map spB)
 | []=>rfl
 | b::v=>⟨_,_,rfl,rfl,zHf v⟩
theorem zGh (k n:Int):(Tm.mk k (bytes []) (bytes []) n (.mk 0 []) (.mk 0 []) []).Is (.ag [.lit (.int .i64 k),.lit (.string (bytes [])),.lit (.string (bytes [])),.lit (.int .i64 n),.lit (.int .i64 0),.sl none 2 [] 0,.lit (.int .i64 0),.sl none 2 [] 0,.sl none 9 [] 0]):=
 Tm.is_mk.2 ⟨_,_,_,_,_,_,_,rfl,⟨by decide,by decide,xV _,xV _⟩,by simp,rfl⟩
theorem zBn {N N':Nat} (k n:Int):Own N N' (.ag [.lit (.int .i64 k),.lit (.string (bytes [])),.lit (.string (bytes [])),.lit (.int .i64 n),.lit (.int .i64 0),.sl none 2 [] 0,.lit (.int .i64 0),.sl none 2 [] 0,.sl none 9 [] 0]):=
 sR (zG (zG (zG (zG (zG (zAV (zG (zAV (za ⟨by simp [D.foot,zD],⟨by simp,trivial⟩,by simp [D.foot,zD],by simp [D.foot,zD]⟩))))))))) 
theorem zNv {t:Ty} {n:Int} (h:t.k=2):zJU t n=.mk 3 (bytes []) (bytes []) n (.mk 0 []) (.mk 0 []) []:=by unfold zJU;rw [if_pos h]
theorem zN2 {t:Ty} {n:Int} (h:¬t.k=2):zJU t n=.mk 2 (bytes []) (bytes []) n (.mk 0 []) (.mk 0 []) []:=by unfold zJU;rw [if_neg h]
theorem zBA:∀ {u v:List D},xa (u++v)->xa u/\xa v
 | [],v,h=>⟨trivial,h⟩
 | y::u,v,h=>by obtain ⟨g1,g2⟩:=zBA (u:=u) h.2;exact ⟨⟨h.1,g1⟩,g2⟩
/-- a row of one's own behind the other cells -/
theorem zOc {N0 N1 N3:Nat} {hd es ds:List D} {a:Option Addr} {z c:Nat} (h:OwnL N0 N1 (hd++es)) (hf:Fresh N0 N3 a (.ag es::(hd++ds))) (hN:N1<=N3):OwnL N0 N3 (hd++[.sl a z es c]):=by
 obtain ⟨f1,f2⟩:=zBA h.fl
 have hn:=h.nd
 rw [zC,o9] at hn
 have e:zD (hd++[D.sl a z es c])=zD hd++(D.sl a z es c).foot:=by simp only [zC,zD,nD]
 have hE:∀ ad,a=some ad->ad.block∉zD es:=fun ad h=>hf.ap ad h (.ag es) (by simp)
 have hH:∀ ad,a=some ad->ad.block∉zD hd:=fun ad h hc=>by
  obtain ⟨d,hd',hb⟩:=zF.1 hc
  exact hf.ap ad h d (by simp [hd']) hb
 refine ⟨?_,yn f1 ⟨⟨fun ad h=>hf.off ad h,f2⟩,trivial⟩,fun b hb=>?_,fun b hb=>?_⟩
 ·rw [e,o9]
  refine ⟨hn.1,zJV hn.2.1 hE,fun x hx y hy hxy=>?_⟩
  subst hxy
  rcases wX x hy with h9 | ⟨ad,h9,h'⟩
  ·exact hn.2.2 x hx x h9 rfl
  ·subst h';exact hH ad h9 hx
 ·rw [e] at hb
  rcases oL.1 hb with hb | hb
  ·exact h.lo b (by rw [zC];exact oW _ hb)
  ·rcases wX b hb with h9 | ⟨ad,h9,h'⟩
   ·exact h.lo b (by rw [zC];exact oh _ h9)
   ·subst h';exact hf.lo ad h9
 ·rw [e] at hb
  rcases oL.1 hb with hb | hb
  ·have:=h.hi b (by rw [zC];exact oW _ hb);omega
  ·rcases wX b hb with h9 | ⟨ad,h9,h'⟩
   ·have:=h.hi b (by rw [zC];exact oh _ h9);omega
   ·subst h';exact hf.hi ad h9
theorem zAY {t:Ty} {d:D} (hd:t.Is d) (n:Int):Cop 200 9 [.dg 2 d,.int .i64 n] (zJU t n).Is:=fun N Q hQ=>by
 obtain ⟨kk,l⟩:=t
 obtain ⟨a,es,c,rfl,hlen,hes⟩:=Ty.is_mk.1 hd
 refine zAm N _ n Q fun _=>⟨_,rfl,Br.beq (fun h N1 hN1=>?_) fun h N1 hN1=>?_⟩
 ·rw [zNv (t:=.mk kk l) h] at hQ
  exact p8 N1 n _ fun N2 hN2 _ _ N3 hN3=>hQ _ _ (by omega) (zGh _ _) (zBn _ _)
 ·rw [zN2 (t:=.mk kk l) h] at hQ
  exact zA4 N1 n _ fun N2 hN2 _ _ N3 hN3=>hQ _ _ (by omega) (zGh _ _) (zBn _ _)
theorem zET (w:List Pl) (hw:w.length<=1073741824) (a:Option Addr) (c:Nat):zQb 146 [.sv a 3 (w.map spB) c] (w.map plB):=fun N Q hQ=>by
 have hl:=(zHf w).len
 refine zBz N a _ c Q fun _=>?_
 refine up (zHf w) (by omega) (fun i xs=>∀ (q:Nat) (N':Nat),N<=N'->xL Q N a (w.map spB) c ((w.map plB).take i).length q i (((w.map plB).take i).map bdD) q N') ?_ ?_ 0 N (oF _)
 ·intro i hlt hi q N' hN'
  refine ui _ _ _ _ _ _ _ _ _ _ _ ?_
  rw [oY (by simp;omega),hlt]
  have hml:(w.map plB).length=((w.map plB).map bdD).length:=by simp
  exact ⟨⟨hml,rfl⟩,⟨hml,rfl⟩,⟨hml,rfl⟩,fun a2 N1 hN1 _ N2 hN2=>hQ _ _ _ (by omega)⟩
 ·intro i x xs hat _ ih2 q N' hN'
  have hb:=hat.b
  have hr:=hat.r
  have hat2:(w.map plB)[i]?=some (plB x):=by rw [oE,hat.g];rfl
  have hml:((w.map plB).take i).length=(((w.map plB).take i).map bdD).length:=by simp
  have hsn:((w.map plB).take i).map bdD++[D.ag [.lit (.string x.1),.lit (.bool x.2.2)]]=((w.map plB).take (i+1)).map bdD:=by rw [zY hat2,o7];rfl
  have hml2:(((w.map plB).take (i+1)).map bdD).length=((w.map plB).take (i+1)).length:=by simp
  have hti:((w.map plB).take (i+1)).length<=i+1:=by rw [o0];omega
  refine ui _ _ _ _ _ _ _ _ _ _ _ ?_
  rw [hat.lt,oG,hr]
  refine ⟨⟨by omega,by omega⟩,_,rfl,⟨by omega,by omega⟩,_,rfl,⟨hml,rfl⟩,by unfold zA;rw [hsn,hml2];omega,fun c1=>?_⟩
  rw [hsn,hml2,hat.w]
  exact ih2 _ _ hN'
def zQp (f:FuncId) (args:List PV) (v:List Nb):Prop:=∀ (N:Nat) (Q:QT [.sl 2]),(∀ a c N',N<=N'->Q a (v.map nbD) c N')->ACalls prog f [.sl 2] args N Q
theorem qQ (w:List Pl) (hw:w.length<=1073741824) (a:Option Addr) (c:Nat):zQp 148 [.sv a 3 (w.map spB) c] (w.map plN):=fun N Q hQ=>by
 have hl:=(zHf w).len
 refine zBZ N a _ c Q fun _=>?_
 refine up (zHf w) (by omega) (fun i xs=>∀ (q:Nat) (N':Nat),N<=N'->yz Q N a (w.map spB) c ((w.map plN).take i).length q i (((w.map plN).take i).map nbD) q N') ?_ ?_ 0 N (oF _)
 ·intro i hlt hi q N' hN'
  refine uD _ _ _ _ _ _ _ _ _ _ _ ?_
  rw [oY (by simp;omega),hlt]
  have hml:(w.map plN).length=((w.map plN).map nbD).length:=by simp
  exact ⟨⟨hml,rfl⟩,⟨hml,rfl⟩,⟨hml,rfl⟩,fun a2 N1 hN1 _ N2 hN2=>hQ _ _ _ (by omega)⟩
 ·intro i x xs hat _ ih2 q N' hN'
  have hb:=hat.b
  have hr:=hat.r
  have hat2:(w.map plN)[i]?=some (plN x):=by rw [oE,hat.g];rfl
  have hml:((w.map plN).take i).length=(((w.map plN).take i).map nbD).length:=by simp
  have hsn:((w.map plN).take i).map nbD++[D.ag [.lit (.string x.1),.lit (.int .i64 x.2.1)]]=((w.map plN).take (i+1)).map nbD:=by rw [zY hat2,o7];rfl
  have hml2:(((w.map plN).take (i+1)).map nbD).length=((w.map plN).take (i+1)).length:=by simp
  have hti:((w.map plN).take (i+1)).length<=i+1:=by rw [o0];omega
  refine uD _ _ _ _ _ _ _ _ _ _ _ ?_
  rw [hat.lt,oG,hr]
  refine ⟨⟨by omega,by omega⟩,_,rfl,⟨by omega,by omega⟩,_,rfl,⟨hml,rfl⟩,by unfold zA;rw [hsn,hml2];omega,fun c1=>?_⟩
  rw [hsn,hml2,hat.w]
  exact ih2 _ _ hN'
theorem zH6 (w:List Pl) (hw:w.length<=1073741824) (p:Pl) (a:Option Addr) (c:Nat) (N:Nat) (Q:QT [.sl 3]) (hQ:∀ a' c' N',N<=N'->Q a' ((w++[p]).map spB) c' N') :
  ACalls prog 201 [.sl 3] [.sv a 3 (w.map spB) c,.dg 3 (spB p)] N Q:=by
 have e:([]++w.map spB)++[spB p]=(w++[p]).map spB:=by simp
 refine zDN N a _ c _ Q fun _ _=>⟨⟨rfl,rfl⟩,by unfold zA;simp;omega,fun c1=>⟨⟨rfl,rfl⟩,by unfold zA;simp;omega,fun c2=>⟨⟨rfl,rfl⟩,⟨rfl,rfl⟩,fun a2 N1 hN1 _ N2 hN2=>?_⟩⟩⟩
 rw [e]
 exact hQ _ _ _ (by omega)
theorem zKS {t:Tm} {d:D} (hd:t.Is d) {w:List Pl} {g:List Tg} (h:SpC t w g) {es:List D} (ctx:Ctx g es) (hw:w.length+t.cnt<=536870000) (a1 a2:Option Addr) (c1 c2:Nat) :
  Cop 147 9 [.dg 9 d,.sv a1 3 (w.map spB) c1,.sv a2 4 es c2] (zJU (tyZ t g 0) (t.ev (w.map plN))).Is:=fun N Q hQ=>by
 obtain ⟨u,hu⟩:=h.ty
 refine zCr N d a1 _ c1 a2 es c2 Q fun _ _ _ N1 hN1=>?_
 refine tF t d hd g es a2 c2 0 h.pre ctx N1 _ fun x N2 hN2 hx _ _ N3 hN3=>?_
 refine qQ w (by omega) a1 c1 N3 _ fun a3 c3 N4 hN4 _ _ N5 hN5=>?_
 refine pn t d hd h.ok h.b g u hu _ h.fit a3 c3 (by simp;omega) N5 _ fun N6 hN6 _ N7 hN7=>?_
 refine zAY hx _ N7 _ fun d' N8 hN8 hd' ho _ _ N9 hN9=>?_
 exact hQ _ _ (by omega) hd' (ho.mono (by omega) hN9)
theorem zNX:∀ (t:Tm) (d:D),t.Is d->∀ (w:List Pl) (g:List Tg) (es:List D),SpC t w g->Ctx g es->w.length+t.cnt<=536870000->∀ (a1 a2:Option Addr) (c1 c2:Nat),
  Cop 86 9 [.dg 9 d,.sv a1 3 (w.map spB) c1,.sv a2 4 es c2] (t.sp w g).Is:=by
 refine Tm.ind fun k nm ot n0 ty re l ih d hd w g es hC ctx hc a1 a2 c1 c2 N Q hQ=>?_
 have hd0:=hd
 have hc0:=hc
 have node:=zX hC.ok
 have hB:=hC.b
 simp only [Tm.isB,oI] at hB
 obtain ⟨t0,t1,r0,r1,a,fs,c,rfl,hh,hlen,hes⟩:=Tm.is_mk.1 hd
 simp only [Tm.cnt] at hc
 have p1:=ty.cnt_pos
 have p2:=re.cnt_pos
 have hgl:=hC.pre.len
 simp only [Tm.cnt] at hgl
 -- the parts in a copy
 have copy:k≠8->(Tm.mk k nm ot n0 ty re l).sp w g=.mk k nm ot n0 ty re (yA l k nm w g)->∀ N1,N<=N1->ACalls prog 124 [.pk,.int .i64,.str,.str,.int .i64,.dc,.dc,.dc,.dc,.row 30 9] [.dg 9 (.ag [.lit (.int .i64 k),.lit (.string nm),.lit (.string ot),.lit (.int .i64 n0),t0,t1,r0,r1,.sl a 9 fs c])] N1
   (fun n s s1 n1 x x1 x2 x3 es1 c3 N2=>N1<=N2->Bel N2 (D.ag es1)->yI Q N a1 (w.map spB) c1 a2 es c2 0 (.ag [.lit (.int .i64 k),.lit (.string nm),.lit (.string ot),.lit (.int .i64 n0),t0,t1,r0,r1,.sl a 9 fs c]) 0 (bytes []) (bytes []) 0 0 none [] 0 0 none [] 0 none [] 0 n s s1 n1 x x1 x2 x3 es1.length c3 es1 c3 N2):=fun h8 he N1 hN1=>by
  refine zJv _ _ hd0 (by simp only [Tm.cnt];omega) N1 _ ?_
  intro x4 x5 x6 x7 es' c' N2 hN2 hh' hes' ho' _ _
  have hl':=hes'.len
  have hof:OwnL N1 N2 ([x4,x5,x6,x7]++[]):=by
   have hf:∀ b,b∈zD ([x4,x5,x6,x7]++[])->b∈zD ([x4,x5,x6,x7]++es'):=fun b hb=>by
    rw [zC] at hb ⊢
    rcases oL.1 hb with hb | hb
    ·exact oW _ hb
    ·simp [zD] at hb
   have hn:=ho'.nd
   rw [zC,o9] at hn
   exact ⟨by simpa using hn.1,⟨ho'.fl.1,ho'.fl.2.1,ho'.fl.2.2.1,ho'.fl.2.2.2.1,trivial⟩,fun b hb=>ho'.lo b (hf b hb),fun b hb=>ho'.hi b (hf b hb)⟩
  refine up hes hlen (fun i xs=>∀ (done rest:List D) (m q:Nat) (N':Nat),N2<=N'->All2 Tm.Is ((yA l k nm w g).take i) done->done.length=i->rest.length=xs.length->m=(done++rest).length->OwnL N1 N' ([x4,x5,x6,x7]++done) ->
   yI Q N a1 (w.map spB) c1 a2 es c2 i (.ag [.lit (.int .i64 k),.lit (.string nm),.lit (.string ot),.lit (.int .i64 n0),t0,t1,r0,r1,.sl a 9 fs c]) 0 (bytes []) (bytes []) 0 0 none [] 0 0 none [] 0 none [] 0 k nm ot n0 x4 x5 x6 x7 m q (done++rest) q N') ?_ ?_ [] es' es'.length c' N2 (oF _) rfl rfl (by omega) rfl hof
  ·intro i hlt hi done rest m q N' hN' hd hdl hr hm ho
   have hr0:rest=[]:=oR (by simpa using hr)
   subst hr0
   refine tl _ _ _ _ _ _ _ _ _ _ _ _ _ _ _ _ _ _ _ _ _ _ _ _ _ _ _ _ _ _ _ _ _ _ _ _ _ _ ⟨_,_,_,rfl,?_⟩
   rw [nD] at hm ⊢
   rw [oY (by rw [zCv];have:=hes.len;omega)] at hd
   rw [hlt]
   refine ⟨⟨hm,rfl⟩,⟨hm,rfl⟩,⟨hm,rfl⟩,fun a5 N3 hN3 hf N4 hN4=>?_⟩
   refine hQ _ _ (by omega) (by rw [he];exact Tm.is_mk.2 ⟨_,_,_,_,_,_,_,rfl,hh',by have:=hes.len;omega,hd⟩) ?_
   exact sR (zG (zG (zG (zG ((zOc (hd:=[x4,x5,x6,x7]) (ds:=[]) (ho.mono hN1 (oF _)) hf hN3).mono (oF _) hN4)))))
  ·intro i x xs hat _ ih2 done rest m q N' hN' hd hdl hr hm ho
   have hb:=hat.b
   have hxc:=zP hat.m
   cases rest with
   | nil=>simp at hr
   | cons y rest=>
     subst hdl
     have hCx:=hC.part hat.g
     have eW:wI k nm w done.length=w:=by unfold wI;rw [if_neg h8];simp
     have eG:gI k nm l g done.length=g:=by unfold gI;rw [if_neg h8];simp
     rw [eW,eG] at hCx
     have hlm:(done++y::rest).length=done.length+rest.length+1:=by simp;omega
     refine tl _ _ _ _ _ _ _ _ _ _ _ _ _ _ _ _ _ _ _ _ _ _ _ _ _ _ _ _ _ _ _ _ _ _ _ _ _ _ ⟨_,_,_,rfl,?_⟩
     rw [hat.lt]
     simp only [oG]
     refine ⟨_,_,_,rfl,⟨by omega,by omega⟩,fun N3 hN3=>?_⟩
     refine ih x hat.m _ hat.r w g es hCx ctx (by omega) a1 a2 c1 c2 N3 _ fun d2 N4 hN4 hd2 ho2 _ _=>⟨⟨by omega,by omega,by omega⟩,by omega,?_⟩
     rw [hat.w,mE,zOR]
     have e:done++d2::rest=(done++[d2])++rest:=by simp
     rw [e]
     have hg:=zCm l k nm w g _ x hat.g
     rw [eW,eG] at hg
     refine ih2 (done++[d2]) rest m q N4 (by omega) (by rw [zY hg];exact hd.snoc hd2) (by simp) (by simpa using hr) (by rw [hm];simp) ?_
     rw [<-nc]
     exact yk (ho.mono (oF _) hN3) (za ho2) (by omega) hN4
 -- a let
 have letC:k=8->(Tm.mk k nm ot n0 ty re l).late (w.map plB)=true->∀ N1,N<=N1->∀ Q':QT [.ag 9],(∀ d' N2,N1<=N2->(∀ N3,N2<=N3->Q d' N3)->Q' d' N2)->ACalls prog 149 [.ag 9] [.dg 9 (.ag [.lit (.int .i64 k),.lit (.string nm),.lit (.string ot),.lit (.int .i64 n0),t0,t1,r0,r1,.sl a 9 fs c]),.sv a1 3 (w.map spB) c1,.sv a2 4 es c2] N1 Q':=fun h8 hlate N1 hN1 Q' hQ'=>by
  subst h8
  have har:=node.ar
  rw [show tq 8 nm=2 from rfl] at har
  obtain ⟨x0,x1,d0,d1,rfl,rfl,h0,h1⟩:=ve hes har
  obtain ⟨rfl,rfl,rfl,rfl,_⟩:=zLp node (.inr rfl)
  simp only [zJ] at hc hgl
  obtain ⟨s0,s1,s2⟩:=hC.let_
  have m0:x0∈[x0,x1]:=by simp
  have m1:x1∈[x0,x1]:=by simp
  have q0:=x0.cnt3;have q1:=x1.cnt3
  obtain ⟨u0,hu0⟩:=s0.ty
  have ctx2:∀ (es':List D),Ctx (g++[⟨nm,tyZ x0 g 0,0⟩]) es'->Ctx (g++[⟨nm,tyZ x0 g 0,0⟩]) es':=fun _ h=>h
  refine zFB N1 _ a1 _ c1 a2 es c2 Q' fun _ _ _=>⟨_,_,_,rfl,⟨by decide,by simp⟩,fun N2 hN2=>?_⟩
  refine tF x0 d0 h0 g es a2 c2 0 s0.pre ctx N2 _ fun x N3 hN3 hx _ _=>⟨_,rfl,fun N4 hN4=>?_⟩
  refine yN ctx (by omega) a2 c2 hh.nm hx 0 N4 _ fun a3 es3 c3 N5 hN5 ctx3 _ _=>⟨_,_,_,rfl,⟨by decide,by simp⟩,fun N6 hN6=>?_⟩
  refine zET w (by omega) a1 c1 N6 _ fun a4 c4 N7 hN7 _ _ N8 hN8=>?_
  refine zCy x0 d0 h0 s0.ok _ a4 c4 (by simp;omega) N8 _ fun N9 hN9 _=>Br.not (fun hb=>⟨_,_,_,rfl,⟨by decide,by simp⟩,fun N10 hN10=>?_⟩) fun hb=>⟨_,rfl,_,_,_,rfl,⟨by decide,by simp⟩,_,_,_,rfl,⟨by decide,by simp⟩,_,rfl,fun N10 hN10=>?_⟩
  ·refine qQ w (by omega) a1 c1 N10 _ fun a5 c5 N11 hN11 _ _ N12 hN12=>?_
   refine pn x0 d0 h0 s0.ok s0.b g u0 hu0 _ s0.fit a5 c5 (by simp;omega) N12 _ fun N13 hN13 _=>⟨_,_,_,rfl,⟨by decide,by simp⟩,_,rfl,fun N14 hN14=>?_⟩
   refine zH6 w (by omega) (nm,x0.ev (w.map plN),false) a1 c1 N14 _ fun a6 c6 N15 hN15 _ _ N16 hN16=>?_
   refine ih x1 m1 d1 h1 _ _ es3 s2 ctx3 (by simp;omega) a6 a3 c6 c3 N16 _ fun d' N17 hN17 hd' ho' _ _ N18 hN18=>?_
   refine hQ' _ _ (by omega) fun N19 hN19=>hQ _ _ (by omega) ?_ (ho'.mono (by omega) (by omega))
   simp only [Tm.sp,hlate,nT,o3]
   rw [if_neg (by simp),if_pos ⟨by trivial,hb⟩]
   simp only [zDQ,zGb]
   exact hd'
  ·refine ih x0 m0 d0 h0 w g es s0 ctx (by omega) a1 a2 c1 c2 N10 _ fun e0 N11 hN11 he0 ho0 _ _ N12 hN12=>?_
   refine zH6 w (by omega) (nm,0,true) a1 c1 N12 _ fun a6 c6 N13 hN13 _ _ N14 hN14=>?_
   refine ih x1 m1 d1 h1 _ _ es3 s1 ctx3 (by simp;omega) a6 a3 c6 c3 N14 _ fun e1 N15 hN15 he1 ho1 _ _ N16 hN16=>?_
   have k0:=zEg x0 w g
   have k1:=zEg x1 (w++[(nm,0,true)]) (g++[⟨nm,tyZ x0 g 0,0⟩])
   refine zL7 nm hh.nm _ _ e0 e1 he0 he1 (by omega) (by omega) N16 _ fun d' N17 hN17 hd' ho' _ _ N18 hN18=>?_
   refine hQ' _ _ (by omega) fun N19 hN19=>hQ _ _ (by omega) ?_ (ho'.mono (by omega) (by omega))
   simp only [Tm.sp,hlate,nT,o3]
   rw [if_neg (by simp),if_neg (by simp [zDC,hb])]
   simp only [yA,vf,nn]
   exact hd'
 refine zFU N _ a1 _ c1 a2 es c2 Q fun _ _ _ N1 hN1=>?_
 refine zET w (by omega) a1 c1 N1 _ fun a4 c4 N2 hN2 _ _ N3 hN3=>?_
 refine zCy _ _ hd0 hC.ok _ a4 c4 (by simp only [Tm.cnt,o6];omega) N3 _ fun N4 hN4 _=>Br.not (fun hb N5 hN5=>?_) fun hb=>⟨_,rfl,Br.beq (fun h5=>?_) fun h5=>⟨_,rfl,Br.beq (fun h8 N5 hN5=>?_) fun h8 N5 hN5=>?_⟩⟩
 ·refine zKS hd0 hC ctx hc0 a1 a2 c1 c2 N5 _ fun d' N6 hN6 hd' ho' _ _ N7 hN7=>?_
  refine hQ _ _ (by omega) ?_ (ho'.mono (by omega) hN7)
  simp only [Tm.sp,hb,nn]
  exact hd'
 ·subst h5
  have har:=node.ar
  rw [show tq 5 nm=3 from rfl] at har
  obtain ⟨x0,x1,x2,d0,d1,d2,rfl,rfl,h0,h1,h2⟩:=tD hes har
  simp only [zJ] at hc hgl
  have m0:x0∈[x0,x1,x2]:=by simp
  have m1:x1∈[x0,x1,x2]:=by simp
  have m2:x2∈[x0,x1,x2]:=by simp
  have s0:=hC.flat (.inr rfl) m0
  obtain ⟨u0,hu0⟩:=s0.ty
  have hcond:=hC.cond
  refine ⟨_,_,_,rfl,⟨by decide,by simp⟩,fun N5 hN5=>?_⟩
  refine zCy x0 d0 h0 s0.ok _ a4 c4 (by simp;omega) N5 _ fun N6 hN6 _=>Br.not (fun hb0=>⟨_,_,_,rfl,_,_,_,rfl,⟨by decide,by simp⟩,fun N7 hN7=>?_⟩) fun hb0=>⟨_,rfl,Br.beq (fun h=>absurd h (by decide)) fun _ N7 hN7=>?_⟩
  ·have he:(Tm.mk 5 nm ot n0 ty re [x0,x1,x2]).sp w g=zGb [x0,x1,x2] (2 - x0.ev (w.map plN)).toNat w g:=by
    simp only [Tm.sp,hb,nT,o3]
    rw [if_pos ⟨by trivial,hb0⟩]
    simp only [qb]
   rw [he] at hQ
   refine qQ w (by omega) a1 c1 N7 _ fun a5 c5 N8 hN8 _ _ N9 hN9=>?_
   refine pn x0 d0 h0 s0.ok s0.b g u0 hu0 _ s0.fit a5 c5 (by simp;omega) N9 _ fun N10 hN10 _=>?_
   rcases hcond with hv | hv
   ·rw [hv] at hQ ⊢
    rw [show IntKind.i64.wrap (2 - 0)=2 from rfl]
    refine ⟨⟨by decide,by simp⟩,fun N11 hN11=>?_⟩
    refine ih x2 m2 d2 h2 w g es (hC.flat (.inr rfl) m2) ctx (by omega) a1 a2 c1 c2 N11 _ fun d' N12 hN12 hd' ho' _ _ N13 hN13=>?_
    exact hQ _ _ (by omega) hd' (ho'.mono (by omega) hN13)
   ·rw [hv] at hQ ⊢
    rw [show IntKind.i64.wrap (2 - 1)=1 from rfl]
    refine ⟨⟨by decide,by simp⟩,fun N11 hN11=>?_⟩
    refine ih x1 m1 d1 h1 w g es (hC.flat (.inr rfl) m1) ctx (by omega) a1 a2 c1 c2 N11 _ fun d' N12 hN12 hd' ho' _ _ N13 hN13=>?_
    exact hQ _ _ (by omega) hd' (ho'.mono (by omega) hN13)
  ·exact copy (by decide) (by simp only [Tm.sp,hb,nT,o3];rw [if_neg (by simp [zDC,hb0]),if_neg (by simp)]) N7 (by omega)
 ·exact letC h8 hb N5 (by omega) _ fun d' N6 hN6 hq _ _ N7 hN7=>hq N7 hN7
 ·exact copy h8 (by simp only [Tm.sp,hb,nT,o3];rw [if_neg (by simp [h5]),if_neg (by simp [h8])]) N5 (by omega)
theorem zLX (t:Ty) (n:Int):Cop 196 9 [.int .i64 n,.bool (t.k==2)] (zJU t n).Is:=fun N Q hQ=>by
 refine zDn N n _ Q (Br.beq (fun h N1 hN1=>?_) fun h N2 hN2=>?_)
 ·rw [zNv h] at hQ
  exact hQ _ _ hN1 (zGh _ _) (zBn _ _)
 ·rw [zN2 h] at hQ
  exact zH5 N2 n _ fun N3 hN3 _ _ N4 hN4=>hQ _ _ (by omega) (zGh _ _) (zBn _ _)
theorem zMw {a:Option Addr} {z c:Nat} {es:List D} {b:Nat} (h:b∈zD es):b∈(D.sl a z es c).foot:=by
 cases a with
 | none=>simpa only [D.foot] using h
 | some ad=>
   have hne:es≠[]:=fun h0=>by subst h0;simp [zD] at h
   simp [D.foot,hne,h]
theorem zHS {g:List Tg} {es:List D} (ctx:Ctx g es) {k:Int} {nm ot:ByteArray} {n0:Int} {t0 t1 r0 r1:D} {a1:Option Addr} {fs:List D} {c1:Nat} (hnm:nm.size<=4611686018427387904) {x0:Tm} (hp:Pre g x0 0) (hx:x0.Is (fs.getD 0 default)) (hf:0<fs.length) (a:Option Addr) (c:Nat) (N:Nat) (Q:QT [.sl 4])
  (hQ:∀ a' es' c' N',N<=N'->Ctx (g++[⟨nm,tyZ x0 g 0,0⟩]) es'->Q a' es' c' N'):ACalls prog 197 [.sl 4] [.sv a 4 es c,.dg 9 (.ag [.lit (.int .i64 k),.lit (.string nm),.lit (.string ot),.lit (.int .i64 n0),t0,t1,r0,r1,.sl a1 9 fs c1])] N Q:=by
 have hgl:=hp.len
 have hxp:=x0.cnt_pos
 refine zEA N a es c _ Q fun _ _=>⟨_,rfl,_,_,_,rfl,⟨by decide,by omega⟩,fun N1 hN1=>?_⟩
 refine zII x0 _ hx g es a c 0 hp ctx N1 _ fun x N2 hN2 hx' _ _ _=>⟨⟨rfl,rfl⟩,fun a2 hap hoff N3 hN3 hbel=>?_⟩
 have hh:Ctx [⟨nm,tyZ x0 g 0,0⟩] [D.ag [.lit (.string nm),x.cell 0,x.cell 1,.lit (.int .i64 0)]]:=⟨by simp,_,[],rfl,⟨_,_,rfl,hnm,Ty.is_cells hx'⟩,rfl⟩
 refine zJh ctx hh (by simp;omega) a a2 c 1 N3 _ fun a3 es3 c3 N4 hN4 hctx hft _=>⟨fun b hb ad had hc=>?_,fun _ N5 hN5=>hQ _ _ _ _ (by omega) hctx⟩
 simp only [o4] at hb
 subst hb
 rcases hft _ hc with h | h | h
 ·exact hoff _ (by simp) ad had (zMw h)
 ·obtain ⟨d,hd,hm⟩:=zF.1 h
  exact hap ad had d hd hm
 ·have:=hbel _ (by simp) ad had;omega
theorem zLq {k:Int} {nm:ByteArray} {w:List Pl} {i:Nat} {b:Bool} (h:k=8->b=true):vL k nm b w i=wI k nm w i:=by
 unfold vL wI
 by_cases hi:i=0
 ·simp [hi]
 ·by_cases hk:k=8
  ·simp [hi,hk,h hk]
  ·simp [hi,hk]
theorem zMM:∀ (t:Tm) (d:D),t.Is d->∀ (w:List Pl) (g:List Tg) (es:List D),SpC t w g->Ctx g es->w.length+t.cnt<=536870000->∀ (a1 a2:Option Addr) (c1 c2:Nat),
  Cop 144 9 [.sv a1 3 (w.map plD) c1,.sv a2 4 es c2,.dg 9 d] (t.sp w g).Is:=by
 refine Tm.ind fun k nm ot n0 ty re l ih d hd w g es hC ctx hc a1 a2 c1 c2 N Q hQ=>?_
 have hd0:=hd
 have hc0:=hc
 have node:=zX hC.ok
 have hB:=hC.b
 simp only [Tm.isB,oI] at hB
 obtain ⟨t0,t1,r0,r1,a,fs,c,rfl,hh,hlen,hes⟩:=Tm.is_mk.1 hd
 simp only [Tm.cnt] at hc
 have p1:=ty.cnt_pos
 have p2:=re.cnt_pos
 have hl:=hes.len
 have hlc:=y9 l
 have har:=node.ar
 obtain ⟨u,hu⟩:=hC.ty
 -- the first part, where there is one
 have hfirst:l≠[]->wm 66 [.sv a1 3 (w.map plD) c1,.dg 9 (fs.getD 0 default)] (zDC l (w.map plB)):=fun hne=>by
  cases l with
  | nil=>exact absurd rfl hne
  | cons x0 rest=>
    have m0:x0∈x0::rest:=by simp
    have:=zP m0
    exact zB3 x0 _ (hes.get (i:=0) rfl) (node.sub x0 m0) w a1 c1 (by omega)
 have hne2:l≠[]->fs≠[]:=fun hne h=>by rw [h] at hl;exact hne (oR (by simpa using hl.symm))
 -- the parts, one behind another
 have loop:(Tm.mk k nm ot n0 ty re l).sp w g=.mk k nm ot n0 ty re (yA l k nm w g)->(k=8->zDC l (w.map plB)=true)->∀ N1,N<=N1 ->
   zB Q N a1 (w.map plD) c1 a2 es c2 0 0 a fs c (fs.length:Int) 0 (.ag [.lit (.int .i64 k),.lit (.string nm),.lit (.string ot),.lit (.int .i64 n0),t0,t1,r0,r1,.sl a 9 fs c]) 0 (bytes []) (bytes []) 0 0 none [] 0 0 none [] 0 none [] 0 [] 0 N1:=fun he h8 N1 hN1=>by
  refine up hes hlen (fun i xs=>∀ (done:List D) (q N':Nat),N<=N'->All2 Tm.Is ((yA l k nm w g).take i) done->done.length=i->OwnL N N' done ->
   zB Q N a1 (w.map plD) c1 a2 es c2 done.length q a fs c (fs.length:Int) i (.ag [.lit (.int .i64 k),.lit (.string nm),.lit (.string ot),.lit (.int .i64 n0),t0,t1,r0,r1,.sl a 9 fs c]) 0 (bytes []) (bytes []) 0 0 none [] 0 0 none [] 0 none [] 0 done q N') ?_ ?_ [] 0 N1 hN1 rfl rfl zGP
  ·intro i hlt hi done q N' hN' hd hdl ho
   refine xt _ _ _ _ _ _ _ _ _ _ _ _ _ _ _ _ _ _ _ _ _ _ _ _ _ _ _ _ _ _ _ _ _ _ ?_
   rw [oY (by rw [zCv];omega)] at hd
   rw [hlt]
   refine ⟨⟨rfl,rfl⟩,⟨rfl,rfl⟩,fun a5 N3 hN3 hf N4 hN4=>?_⟩
   refine zNr hh (by omega) (by omega) hd (by omega) a5 q N N4 (by omega) ((rr ho hf hN3).mono (oF _) hN4) _ fun d' N5 hN5 hd' ho' _ _ N6 hN6=>?_
   exact hQ _ _ (by omega) (by rw [he];exact hd') (ho'.mono (oF _) hN6)
  ·intro i x xs hat _ ih2 done q N' hN' hd hdl ho
   have hb:=hat.b
   have hxc:=zP hat.m
   have hne:l≠[]:=fun h=>by have:=hat.m;rw [h] at this;simp at this
   have hCx:=hC.part hat.g
   have hwl:(wI k nm w i).length<=w.length+1:=by unfold wI;(repeat' split)<;>simp
   have ins:zPs 138 [.sv a1 3 (w.map plD) c1,.dg 9 (.ag [.lit (.int .i64 k),.lit (.string nm),.lit (.string ot),.lit (.int .i64 n0),t0,t1,r0,r1,.sl a 9 fs c]),.int .i64 i] (wI k nm w i):=by
    have:=zJK (k:=k) (nm:=nm) (ot:=ot) (n0:=n0) (t0:=t0) (t1:=t1) (r0:=r0) (r1:=r1) (a1:=a) (es:=fs) (c1:=c) w (by omega) a1 c1 i (zDC l (w.map plB)) (fun _=>hne2 hne) (fun _=>hfirst hne)
    rwa [zLq h8] at this
   have call:∀ (a6:Option Addr) (c6:Nat) (a7:Option Addr) (es7:List D) (c7:Nat),Ctx (gI k nm l g i) es7->Cop 144 9 [.sv a6 3 ((wI k nm w i).map plD) c6,.sv a7 4 es7 c7,.dg 9 (fs.getD i default)] (x.sp (wI k nm w i) (gI k nm l g i)).Is:=fun a6 c6 a7 es7 c7 hctx=>
    ih x hat.m _ hat.r _ _ es7 hCx hctx (by omega) a6 a7 c6 c7
   have next:∀ (d2:D) (N6 N7:Nat),N'<=N6->N6<=N7->(x.sp (wI k nm w i) (gI k nm l g i)).Is d2->Own N6 N7 d2->(done.length=done.length/\q=q)/\zA done [d2] 136/\∀ (c4:Nat),
     zB Q N a1 (w.map plD) c1 a2 es c2 (done++[d2]).length c4 a fs c (fs.length:Int) (IntKind.i64.wrap ((i:Int)+1)) (.ag [.lit (.int .i64 k),.lit (.string nm),.lit (.string ot),.lit (.int .i64 n0),t0,t1,r0,r1,.sl a 9 fs c]) 0 (bytes []) (bytes []) 0 0 none [] 0 0 none [] 0 none [] 0 (done++[d2]) c4 N7:=fun d2 N6 N7 h6 h7 hd2 ho2=>by
    refine ⟨⟨rfl,rfl⟩,by unfold zA;rw [oK];simp only [oH,oN];omega,fun c4=>?_⟩
    rw [hat.w]
    exact ih2 _ _ _ (by omega) (by rw [zY (zCm l k nm w g i x hat.g)];exact hd.snoc hd2) (by simp [hdl]) (yk (ho.mono (oF _) h6) (za ho2) (by omega) h7)
   refine xt _ _ _ _ _ _ _ _ _ _ _ _ _ _ _ _ _ _ _ _ _ _ _ _ _ _ _ _ _ _ _ _ _ _ ?_
   rw [hat.lt,oG]
   have plain:gI k nm l g i=g->∀ N3,N'<=N3->ACalls prog 138 [.sl 3] [.sv a1 3 (w.map plD) c1,.dg 9 (.ag [.lit (.int .i64 k),.lit (.string nm),.lit (.string ot),.lit (.int .i64 n0),t0,t1,r0,r1,.sl a 9 fs c]),.int .i64 i] N3 fun a3 es3 c3 N4=>N3<=N4->Bel N4 (D.sl a3 3 es3 c3)->∀ N5,N4<=N5->ACalls prog 144 [.ag 9] [.sv a3 3 es3 c3,.sv a2 4 es c2,.dg 9 (fs.getD i default)] N5 fun x1 N6=>N5<=N6->Bel N6 x1->(done.length=done.length/\q=q)/\zA done [x1] 136/\∀ (c4:Nat),
     zB Q N a1 (w.map plD) c1 a2 es c2 (done++[x1]).length c4 a fs c (fs.length:Int) (IntKind.i64.wrap ((i:Int)+1)) (.ag [.lit (.int .i64 k),.lit (.string nm),.lit (.string ot),.lit (.int .i64 n0),t0,t1,r0,r1,.sl a 9 fs c]) 0 (bytes []) (bytes []) 0 0 none [] 0 0 none [] 0 none [] 0 (done++[x1]) c4 N6:=fun hg N3 hN3=>
    ins N3 _ fun a3 c3 N4 hN4 _ _ N5 hN5=>call a3 c3 a2 es c2 (by rw [hg];exact ctx) N5 _ fun d2 N6 hN6 hd2 ho2 _ _=>next d2 N5 N6 (by omega) hN6 hd2 ho2
   refine ⟨⟨by omega,by omega⟩,_,rfl,Br.beq (fun hk=>Br.beq (fun hi1 N3 hN3=>?_) fun hi1 N3 hN3=>?_) fun hk N3 hN3=>?_⟩
   ·subst hk
    rw [show tq 8 nm=2 from rfl] at har
    obtain ⟨x0,x1,d0,d1,rfl,rfl,h0,h1⟩:=ve hes har
    have eG:gI 8 nm [x0,x1] g i=g++[⟨nm,tyZ x0 g 0,0⟩]:=by unfold gI;rw [if_neg (by omega)];rfl
    refine zHS (fs:=[d0,d1]) ctx hh.nm hC.let_.1.pre h0 (by simp) a2 c2 N3 _ fun a7 es7 c7 N4 hN4 hctx7 _ _ N5 hN5=>?_
    exact ins N5 _ fun a3 c3 N6 hN6 _ _ N7 hN7=>call a3 c3 a7 es7 c7 (by rw [eG];exact hctx7) N7 _ fun d2 N8 hN8 hd2 ho2 _ _=>next d2 N7 N8 (by omega) hN8 hd2 ho2
   ·refine plain ?_ N3 hN3
    have hi0:i=0:=by
     subst hk
     rw [show tq 8 nm=2 from rfl] at har
     omega
    unfold gI;rw [if_pos hi0]
   ·refine plain ?_ N3 hN3
    unfold gI;rw [if_neg hk];simp
 have hdyn:=fun (N1:Nat) (Q':QT [.bool])=>zB3 _ _ hd0 hC.ok w a1 c1 (by simp only [Tm.cnt];omega) N1 Q'
 refine sd N a1 _ c1 a2 es c2 _ Q fun _ _ _ N1 hN1=>?_
 refine hdyn N1 _ fun N2 hN2 _=>Br.not (fun hb N3 hN3=>?_) fun hb=>⟨_,rfl,Br.beq (fun hk N3 hN3=>?_) fun hk=>⟨_,rfl,Br.beq (fun h5=>?_) fun h5=>⟨_,rfl,Br.beq (fun h8=>?_) fun h8=>⟨_,_,_,rfl,?_⟩⟩⟩⟩
 ·refine zEs _ _ hd0 hC.ok hC.b g u hu w hC.fit a1 c1 (by simp only [Tm.cnt];omega) N3 _ fun N4 hN4 _ N5 hN5=>?_
  refine zII _ _ hd0 g es a2 c2 0 hC.pre ctx N5 _ fun x N6 hN6 hx _ _ _=>?_
  have hval:(Tm.mk k nm ot n0 ty re l).sp w g=zJU (tyZ (.mk k nm ot n0 ty re l) g 0) ((Tm.mk k nm ot n0 ty re l).ev (w.map plN)):=by simp only [Tm.sp,hb,nn]
  rw [hval] at hQ
  generalize tyZ (.mk k nm ot n0 ty re l) g 0=tt at hx hQ
  obtain ⟨kk,lt⟩:=tt
  obtain ⟨aT,esT,cT,rfl,_,_⟩:=Ty.is_mk.1 hx
  refine ⟨_,rfl,fun N7 hN7=>?_⟩
  refine zLX (.mk kk lt) _ N7 _ fun d' N8 hN8 hd' ho' _ _ N9 hN9=>?_
  exact hQ _ _ (by omega) hd' (ho'.mono (by omega) hN9)
 ·refine zON _ _ hd0 (by simp only [Tm.cnt];omega) N3 _ fun d' N4 hN4 hd' ho' _ _ N5 hN5=>?_
  refine hQ _ _ (by omega) ?_ (ho'.mono (by omega) hN5)
  subst hk
  rw [show tq 1 nm=0 from rfl] at har
  have hl0:l=[]:=oR (by omega)
  subst hl0
  simp only [Tm.sp,hb,nT,o3]
  rw [if_neg (by simp),if_neg (by simp)]
  simp only [yA]
  exact hd'
 ·subst h5
  rw [show tq 5 nm=3 from rfl] at har
  obtain ⟨x0,x1,x2,d0,d1,d2,rfl,rfl,h0,h1,h2⟩:=tD hes har
  simp only [zJ] at hc
  have m0:x0∈[x0,x1,x2]:=by simp
  have m1:x1∈[x0,x1,x2]:=by simp
  have m2:x2∈[x0,x1,x2]:=by simp
  have s0:=hC.flat (.inr rfl) m0
  obtain ⟨u0,hu0⟩:=s0.ty
  have hcond:=hC.cond
  refine ⟨_,_,_,rfl,⟨by decide,by simp⟩,fun N3 hN3=>?_⟩
  refine hfirst (by simp) N3 _ fun N4 hN4 _=>Br.not (fun hb0=>⟨_,_,_,rfl,_,_,_,rfl,⟨by decide,by simp⟩,fun N5 hN5=>?_⟩) fun hb0=>⟨_,rfl,Br.beq (fun h=>absurd h (by decide)) fun _=>⟨_,_,_,rfl,?_⟩⟩
  ·have he:(Tm.mk 5 nm ot n0 ty re [x0,x1,x2]).sp w g=zGb [x0,x1,x2] (2 - x0.ev (w.map plN)).toNat w g:=by
    simp only [Tm.sp,hb,nT,o3]
    rw [if_pos ⟨by trivial,hb0⟩]
    simp only [qb]
   rw [he] at hQ
   refine zEs x0 d0 h0 s0.ok s0.b g u0 hu0 w s0.fit a1 c1 (by omega) N5 _ fun N6 hN6 _=>?_
   rcases hcond with hv | hv
   ·rw [hv] at hQ ⊢
    rw [show IntKind.i64.wrap (2 - 0)=2 from rfl]
    refine ⟨⟨by decide,by simp⟩,fun N7 hN7=>?_⟩
    refine ih x2 m2 d2 h2 w g es (hC.flat (.inr rfl) m2) ctx (by omega) a1 a2 c1 c2 N7 _ fun d' N8 hN8 hd' ho' _ _ N9 hN9=>?_
    exact hQ _ _ (by omega) hd' (ho'.mono (by omega) hN9)
   ·rw [hv] at hQ ⊢
    rw [show IntKind.i64.wrap (2 - 1)=1 from rfl]
    refine ⟨⟨by decide,by simp⟩,fun N7 hN7=>?_⟩
    refine ih x1 m1 d1 h1 w g es (hC.flat (.inr rfl) m1) ctx (by omega) a1 a2 c1 c2 N7 _ fun d' N8 hN8 hd' ho' _ _ N9 hN9=>?_
    exact hQ _ _ (by omega) hd' (ho'.mono (by omega) hN9)
  ·exact loop (by simp only [Tm.sp,hb,nT,o3];rw [if_neg (by simp [hb0]),if_neg (by simp)]) (fun h=>absurd h (by decide)) N4 (by omega)
 ·subst h8
  rw [show tq 8 nm=2 from rfl] at har
  obtain ⟨x0,x1,d0,d1,rfl,rfl,h0,h1⟩:=ve hes har
  simp only [zJ] at hc
  have m1:x1∈[x0,x1]:=by simp
  obtain ⟨s0,s1,s2⟩:=hC.let_
  obtain ⟨u0,hu0⟩:=s0.ty
  have q0:=x0.cnt3
  refine ⟨_,_,_,rfl,⟨by decide,by simp⟩,fun N3 hN3=>?_⟩
  refine hfirst (by simp) N3 _ fun N4 hN4 _=>Br.not (fun hb0=>⟨_,rfl,_,_,_,rfl,⟨by decide,by simp⟩,fun N5 hN5=>?_⟩) fun hb0=>⟨_,_,_,rfl,?_⟩
  ·refine zEs x0 d0 h0 s0.ok s0.b g u0 hu0 w s0.fit a1 c1 (by omega) N5 _ fun N6 hN6 _=>⟨_,_,_,rfl,⟨by decide,by simp⟩,fun N7 hN7=>?_⟩
   refine zIV w (by omega) (nm,x0.ev (w.map plN),false) a1 c1 N7 _ fun a6 c6 N8 hN8 _ _ _ N9 hN9=>?_
   refine zHS (fs:=[d0,d1]) ctx hh.nm s0.pre h0 (by simp) a2 c2 N9 _ fun a7 es7 c7 N10 hN10 hctx7 _ _ N11 hN11=>?_
   refine ih x1 m1 d1 h1 _ _ es7 s2 hctx7 (by simp;omega) a6 a7 c6 c7 N11 _ fun d' N12 hN12 hd' ho' _ _ N13 hN13=>?_
   refine hQ _ _ (by omega) ?_ (ho'.mono (by omega) hN13)
   simp only [Tm.sp,hb,nT,o3]
   rw [if_neg (by simp),if_pos ⟨by trivial,hb0⟩]
   simp only [zDQ,zGb]
   exact hd'
  ·exact loop (by simp only [Tm.sp,hb,nT,o3];rw [if_neg (by simp),if_neg (by simp [hb0])]) (fun _=>hb0) N4 (by omega)
 ·exact loop (by simp only [Tm.sp,hb,nT,o3];rw [if_neg (by simp [h5]),if_neg (by simp [h8])]) (fun h=>absurd h h8) N2 (by omega)
def x8 (g:List Pm):List Pm:=g.filter fun p=>!p.dy
def zR (g:List Pm):List Pm:=g.filter fun p=>p.dy
theorem uB (g:List Pm):(x8 g).length<=g.length:=List.length_filter_le _ _
theorem xM (g:List Pm):(zR g).length<=g.length:=List.length_filter_le _ _
theorem qk {g:List Pm} {x:Pm}:x8 (g++[x])=if x.dy then x8 g else x8 g++[x]:=by
 unfold x8;rw [List.filter_append];cases h:x.dy<;>simp [h]
theorem tP {g:List Pm} {x:Pm}:zR (g++[x])=if x.dy then zR g++[x] else zR g:=by
 unfold zR;rw [List.filter_append];cases h:x.dy<;>simp [h]
theorem yK {g:List Pm} {es:List D} (h:Pms g es) (hg:g.length<=1073741824) (hc:∀ x∈g,x.ty.cnt<=1073741824) (a:Option Addr) (c:Nat) (N:Nat) (Q:QT [.sl 4,.sl 4])
  (hQ:∀ a1 es1 c1 a2 es2 c2 N',N<=N'->Pms (x8 g) es1->Pms (zR g) es2->Q a1 es1 c1 a2 es2 c2 N'):ACalls prog 80 [.sl 4,.sl 4] [.sv a 4 es c] N Q:=by
 have hl:=h.all.len
 refine pj N a es c Q fun _=>?_
 refine up h.all h.len (fun i xs=>∀ (d1 d2:List D) (q1 q2 N':Nat),N<=N'->All2 Pm.Is (x8 (g.take i)) d1->All2 Pm.Is (zR (g.take i)) d2->z8 Q N a es c d1.length q1 d2.length q2 i d1 q1 d2 q2 N') ?_ ?_ [] [] 0 0 N (oF _) rfl rfl
 ·intro i hlt hi d1 d2 q1 q2 N' hN' h1 h2
  refine ww _ _ _ _ _ _ _ _ _ _ _ _ _ _ _ ?_
  rw [oY (by omega)] at h1 h2
  have k1:=h1.len;have k2:=h2.len
  have n1:=uB g;have n2:=xM g
  rw [hlt]
  exact ⟨⟨rfl,rfl⟩,⟨rfl,rfl⟩,⟨rfl,rfl⟩,fun a1 N1 hN1 _=>⟨⟨rfl,rfl⟩,⟨rfl,rfl⟩,⟨rfl,rfl⟩,fun a2 N2 hN2 _ N3 hN3=>hQ _ _ _ _ _ _ _ (by omega) ⟨by omega,h1⟩ ⟨by omega,h2⟩⟩⟩
 ·intro i x xs hat _ ih2 d1 d2 q1 q2 N' hN' h1 h2
  have hb:=hat.b
  obtain ⟨t0,t1,hd',hnm,hty⟩:=hat.r
  have k1:=h1.len;have k2:=h2.len
  have n1:=uB (g.take i);have n2:=xM (g.take i)
  rw [o0] at n1 n2
  refine ww _ _ _ _ _ _ _ _ _ _ _ _ _ _ _ ?_
  rw [hat.lt,oG,hd',hat.w]
  refine ⟨⟨by omega,by omega⟩,_,rfl,⟨by omega,by omega⟩,⟨by omega,by omega⟩,_,rfl,fun N1 hN1=>?_⟩
  refine zW x.ty _ hty (hc x hat.m) N1 _ fun x' N2 hN2 hx hox _ _=>Br.of (fun hdy=>?_) fun hdy=>?_
  ·refine ⟨⟨rfl,rfl⟩,by unfold zA;rw [oK];simp only [oH,oN];omega,fun c1=>?_⟩
   refine ih2 _ _ _ _ _ (by omega) ?_ ?_
   ·rw [zY hat.g,qk,if_pos hdy];exact h1
   ·rw [zY hat.g,tP,if_pos hdy];exact h2.snoc ⟨_,_,rfl,hnm,Ty.is_cells hx⟩
  ·refine ⟨⟨rfl,rfl⟩,by unfold zA;rw [oK];simp only [oH,oN];omega,fun c1=>?_⟩
   refine ih2 _ _ _ _ _ (by omega) ?_ ?_
   ·rw [zY hat.g,qk,if_neg (by simp [hdy])];exact h1.snoc ⟨_,_,rfl,hnm,Ty.is_cells hx⟩
   ·rw [zY hat.g,tP,if_neg (by simp [hdy])];exact h2
theorem xz {g:List Pm} {es:List D} (h:Pms g es) (hg:g.length<=1073741824) (hc:∀ x∈g,x.ty.cnt<=1073741824) (a:Option Addr) (c:Nat) (N:Nat) (Q:QT [.sl 4,.sl 4])
  (hQ:∀ a1 es1 c1 a2 es2 c2 N',N<=N'->Pms (x8 g) es1->Pms (zR g) es2->Q a1 es1 c1 a2 es2 c2 N'):ACalls prog 82 [.sl 4,.sl 4] [.sv a 4 es c] N Q:=by
 have hl:=h.all.len
 refine pu N a es c Q fun _=>?_
 refine up h.all h.len (fun i xs=>∀ (d1 d2:List D) (q1 q2 N':Nat),N<=N'->All2 Pm.Is (x8 (g.take i)) d1->All2 Pm.Is (zR (g.take i)) d2->z7 Q N d1.length q1 d2.length q2 a es c es.length i d1 q1 d2 q2 N') ?_ ?_ [] [] 0 0 N (oF _) rfl rfl
 ·intro i hlt hi d1 d2 q1 q2 N' hN' h1 h2
  refine w4 _ _ _ _ _ _ _ _ _ _ _ _ _ _ _ _ ?_
  rw [oY (by omega)] at h1 h2
  have k1:=h1.len;have k2:=h2.len
  have n1:=uB g;have n2:=xM g
  rw [hlt]
  exact ⟨⟨rfl,rfl⟩,⟨rfl,rfl⟩,⟨rfl,rfl⟩,fun a1 N1 hN1 _=>⟨⟨rfl,rfl⟩,⟨rfl,rfl⟩,⟨rfl,rfl⟩,fun a2 N2 hN2 _ N3 hN3=>hQ _ _ _ _ _ _ _ (by omega) ⟨by omega,h1⟩ ⟨by omega,h2⟩⟩⟩
 ·intro i x xs hat _ ih2 d1 d2 q1 q2 N' hN' h1 h2
  have hb:=hat.b
  obtain ⟨t0,t1,hd',hnm,hty⟩:=hat.r
  have k1:=h1.len;have k2:=h2.len
  have n1:=uB (g.take i);have n2:=xM (g.take i)
  rw [o0] at n1 n2
  refine w4 _ _ _ _ _ _ _ _ _ _ _ _ _ _ _ _ ?_
  rw [hat.lt,oG,hd',hat.w]
  refine ⟨⟨by omega,by omega⟩,_,rfl,_,rfl,fun N1 hN1=>?_⟩
  refine zD7 x.ty _ hty (hc x hat.m) N1 _ fun x' N2 hN2 hx hox _ _=>⟨_,rfl,Br.of (fun hdy=>?_) fun hdy=>?_⟩
  ·refine ⟨⟨rfl,rfl⟩,by unfold zA;rw [oK];simp only [oH,oN];omega,fun c1=>?_⟩
   refine ih2 _ _ _ _ _ (by omega) ?_ ?_
   ·rw [zY hat.g,qk,if_pos hdy];exact h1
   ·rw [zY hat.g,tP,if_pos hdy];exact h2.snoc ⟨_,_,rfl,hnm,Ty.is_cells hx⟩
  ·refine ⟨⟨rfl,rfl⟩,by unfold zA;rw [oK];simp only [oH,oN];omega,fun c1=>?_⟩
   refine ih2 _ _ _ _ _ (by omega) ?_ ?_
   ·rw [zY hat.g,qk,if_neg (by simp [hdy])];exact h1.snoc ⟨_,_,rfl,hnm,Ty.is_cells hx⟩
   ·rw [zY hat.g,tP,if_neg (by simp [hdy])];exact h2
/-- the places of parameters, those that are not late with arguments -/
def rK:List Pm->List Int->List Pl
 | [],_=>[]
 | p::g,ns=>if p.dy then (p.nm,0,true)::rK g ns else (p.nm,ns.headD 0,false)::rK g ns.tail
theorem zFS:∀ (g:List Pm) (ns:List Int),(rK g ns).length=g.length
 | [],_=>rfl
 | p::g,ns=>by simp only [rK];split<;>simp [zFS g]
theorem zHq (ms:List Int):List.drop 1 (List.take (((zI ms).length:Int)).toNat (zI ms))=zI ms.tail:=by
 rw [oG,mS]
 cases ms<;>rfl
theorem zOh {g:List Pm} {es:List D} (h:Pms g es) (hg:g.length<=1073741824) (ns:List Int) (hn:ns.length<=1073741824) (a a1:Option Addr) (c c1:Nat):zPs 65 [.sv a 4 es c,.sv a1 0 (zI ns) c1] (rK g ns):=fun N Q hQ=>by
 have hl:=h.all.len
 refine zGw N a es c a1 _ c1 Q fun _ _=>?_
 have key:=up h.all h.len (fun i xs=>(i=0->xs=g->∀ (N':Nat),N<=N'->uH Q N a1 (zI ns) c1 0 0 a es c es.length i [] 0 N') /\
  (0<i->∀ (done:List Pl) (ms:List Int) (a1 a5:Option Addr) (c1 c5:Nat) (N':Nat),N<=N'->done++rK xs ms=rK g ns->done.length=i->ms.length<=1073741824->zH Q N a1 (zI ms) c1 a5 (done.map plD) c5 a es c es.length i N'))
  (fun i hlt hi=>⟨fun h0 hx N' hN'=>?_,fun h0 done ms a1 a5 c1 c5 N' hN' hp hdl hm=>?_⟩) (fun i x xs hat _ ih2=>⟨fun h0 hx N' hN'=>?_,fun h0 done ms a1 a5 c1 c5 N' hN' hp hdl hm=>?_⟩)
 ·exact key.1 rfl rfl N (oF _)
 ·refine r6 _ _ _ _ _ _ _ _ _ _ _ _ _ _ _ ?_
  subst hx
  rw [hlt]
  exact ⟨⟨rfl,rfl⟩,⟨rfl,rfl⟩,⟨rfl,rfl⟩,fun a6 N1 hN1 _ N2 hN2=>hQ _ _ _ (by omega)⟩
 ·refine uX _ _ _ _ _ _ _ _ _ _ _ _ _ _ ?_
  simp only [rK,nD] at hp
  rw [hlt,hp]
  exact fun N1 hN1=>hQ _ _ _ (by omega)
 ·have hb:=hat.b
  obtain ⟨t0,t1,hd',hnm,hty⟩:=hat.r
  subst h0;subst hx
  refine r6 _ _ _ _ _ _ _ _ _ _ _ _ _ _ _ ?_
  rw [hat.lt,oG,hd',hat.w]
  have step:∀ (p:Pl) (ms:List Int),[p]++rK xs ms=rK (x::xs) ns->ms.length<=1073741824->∀ (a1:Option Addr) (c1:Nat) (a2:Option Addr),∀ N1,N'<=N1->uR N1 [a2]->ACalls prog 136 [.sl 3] [.sv a2 3 [] 0,.dg 3 (plD p)] N1
    fun a3 es3 c3 N2=>N1<=N2->Off [a2] (D.sl a3 3 es3 c3)/\(Bel N2 (D.sl a3 3 es3 c3)->zH Q N a1 (zI ms) c1 a3 es3 c3 a es c es.length ((0+1:Nat):Int) N2):=fun p ms hp hm a1 c1 a2 N1 hN1 hbel=>by
   refine zIV [] (by simp) p a2 0 N1 _ fun a3 c3 N2 hN2 own _=>⟨zFI hbel own (oF _),fun _=>?_⟩
   exact ih2.2 (by omega) [p] ms a1 a3 c1 c3 N2 (by omega) hp rfl hm
  refine ⟨⟨by omega,by omega⟩,_,rfl,_,rfl,_,rfl,Br.not (fun hdy=>Br.dec (fun hpos=>?_) fun hpos=>⟨⟨rfl,rfl⟩,fun a2 _ N1 hN1 hbel=>?_⟩) fun hdy=>⟨⟨rfl,rfl⟩,fun a2 _ N1 hN1 hbel=>?_⟩⟩
  ·cases ns with
   | nil=>simp [zI] at hpos
   | cons m ms=>
     refine ⟨⟨by omega,hpos⟩,_,rfl,⟨by omega,by omega,Int.le_refl _⟩,⟨rfl,rfl⟩,fun a2 _ N1 hN1 hbel=>?_⟩
     rw [zHq]
     exact step (x.nm,m,x.dy) ms (by simp [rK,hdy]) (by simp at hn;omega) _ _ a2 N1 hN1 hbel
  ·have hns:ns=[]:=oR (by simp [zI] at hpos;simpa using hpos)
   subst hns
   exact step (x.nm,0,x.dy) [] (by simp [rK,hdy]) (by simp) _ _ a2 N1 hN1 hbel
  ·exact step (x.nm,0,x.dy) ns (by simp [rK,hdy]) hn _ _ a2 N1 hN1 hbel
 ·have hb:=hat.b
  obtain ⟨t0,t1,hd',hnm,hty⟩:=hat.r
  refine uX _ _ _ _ _ _ _ _ _ _ _ _ _ _ ?_
  rw [hat.lt,oG,hd',hat.w]
  have step:∀ (p:Pl) (ms2:List Int),p::rK xs ms2=rK (x::xs) ms->ms2.length<=1073741824->∀ (a1:Option Addr) (c1:Nat),∀ N1,N'<=N1->ACalls prog 136 [.sl 3] [.sv a5 3 (done.map plD) c5,.dg 3 (plD p)] N1
    fun a3 es3 c3 N2=>N1<=N2->Bel N2 (D.sl a3 3 es3 c3)->zH Q N a1 (zI ms2) c1 a3 es3 c3 a es c es.length ((i+1:Nat):Int) N2:=fun p ms2 hp2 hm2 a1 c1 N1 hN1=>by
   refine zIV done (by omega) p a5 c5 N1 _ fun a3 c3 N2 hN2 own _ _=>?_
   exact ih2.2 (by omega) (done++[p]) ms2 a1 a3 c1 c3 N2 (by omega) (by rw [<-hp,<-hp2];simp) (by simp [hdl]) hm2
  refine ⟨⟨by omega,by omega⟩,_,rfl,_,rfl,_,rfl,Br.not (fun hdy=>Br.dec (fun hpos=>?_) fun hpos N1 hN1=>?_) fun hdy N1 hN1=>?_⟩
  ·cases ms with
   | nil=>simp [zI] at hpos
   | cons m ms=>
     refine ⟨⟨by omega,hpos⟩,_,rfl,⟨by omega,by omega,Int.le_refl _⟩,fun N1 hN1=>?_⟩
     rw [zHq]
     exact step (x.nm,m,x.dy) ms (by simp [rK,hdy]) (by simp at hm;omega) _ _ N1 hN1
  ·have hns:ms=[]:=oR (by simp [zI] at hpos;simpa using hpos)
   subst hns
   exact step (x.nm,0,x.dy) [] (by simp [rK,hdy]) (by simp) _ _ N1 hN1
  ·exact step (x.nm,0,x.dy) ms (by simp [rK,hdy]) hm _ _ N1 hN1
theorem Fit.cons {v:List Nb} {g:List Tg} (h:Fit v g) {x:Tg} {y:Nb} (h1:x.nm=y.1) (h2:zBm x.ty y.2=true):Fit (y::v) (x::g):=by
 refine ⟨by simp [h.len],fun i a b ha hb=>?_⟩
 cases i with
 | zero=>simp at ha hb;subst ha;subst hb;exact ⟨h1,h2⟩
 | succ i=>exact h.at_ i a b (by simpa using ha) (by simpa using hb)
theorem zGW:∀ (g:List Pm) (ns:List Int),ns.length=(x8 g).length->y8 (x8 g) ns=true->Fit ((rK g ns).map plN) (xI g)
 | [],ns,_,_=>⟨rfl,fun i a b ha=>by simp [xI] at ha⟩
 | p :: g,ns,hl,hf=>by
   simp only [rK]
   cases hdy:p.dy with
   | true=>
     have e:x8 (p::g)=x8 g:=by simp [x8,hdy]
     rw [e] at hl hf
     have ih:=zGW g ns hl hf
     simp only [nn,oU]
     exact ih.cons (x:=⟨p.nm,p.ty,0⟩) (y:=(p.nm,0)) rfl (zHb _)
   | false=>
     have e:x8 (p::g)=p::x8 g:=by simp [x8,hdy]
     rw [e] at hl hf
     cases ns with
     | nil=>simp at hl
     | cons m ms=>
       simp only [y8,oI] at hf
       have ih:=zGW g ms (by simpa using hl) hf.2
       simp only [nX,o3,oU,mG,nz]
       exact ih.cons (x:=⟨p.nm,p.ty,0⟩) (y:=(p.nm,m)) rfl hf.1
/-- what is left of a body, or none -/
def yT (g:List Pm) (e:Tm) (ns:List Int):Option Tm:=if (yd g e).isSome=true/\ns.length=(x8 g).length/\y8 (x8 g) ns=true then some (e.sp (rK g ns) (xI g)) else none
theorem qI (g:List Pm) (e:Tm) (ns:List Int):((yT g e ns).getD (Tm.nod 0 [])).cnt<=e.cnt+3:=by
 unfold yT
 split
 ·have:=zEg e (rK g ns) (xI g);simp only [oZ];omega
 ·simp only [Option.getD_none,zIS,zJ];omega
def zQZ (f:FuncId) (args:List PV) (o:Option Tm):Prop:=∀ (N:Nat) (Q:QT [.ag 9,.bool]),(∀ d' N',N<=N'->(o.getD (Tm.nod 0 [])).Is d'->Own N N' d'->Q d' o.isSome N')->ACalls prog f [.ag 9,.bool] args N Q
theorem zFf {g:List Pm} {e:Tm} {ns:List Int} (hb:(yd g e).isSome=true) (hl:ns.length=(x8 g).length) (hf:y8 (x8 g) ns=true) (hc:e.cnt<=536870000):SpC e (rK g ns) (xI g):=by
 obtain ⟨hp,hv,hB⟩:=qF hb
 exact ⟨zOI hv,hB,zJb hp hv hB hc,qN hb,zGW g ns hl hf⟩
theorem ud {g:List Pm} {es:List D} (h:Pms g es) (hg:g.length<=1073741) (hcg:∀ x∈g,x.ty.cnt<=1073741824) {e:Tm} {d:D} (he:e.Is d) (hc:e.cnt<=250000000) (ns:List Int) (hn:ns.length<=1073741824) (a a2:Option Addr) (c c2:Nat) :
  zQZ 29 [.sv a 4 es c,.dg 9 d,.sv a2 0 (zI ns) c2] (yT g e ns):=fun N Q hQ=>by
 have hl:=h.all.len
 have hnl:=z9 ns
 have no:yT g e ns=none->∀ N',N<=N'->Q (D.ag [D.lit (.int .i64 0),D.lit (.string (bytes [])),D.lit (.string (bytes [])),D.lit (.int .i64 0),D.lit (.int .i64 0),D.sl none 2 [] 0,D.lit (.int .i64 0),D.sl none 2 [] 0,D.sl none 9 [] 0]) false N':=fun h N' hN'=>by
  rw [h] at hQ
  exact hQ _ _ hN' (zN6 rfl (by simp)) (zJe 0)
 refine zAx N a es c d a2 _ c2 Q fun _ _ _ N1 hN1=>?_
 refine sq h (by omega) he (by omega) a c N1 _ fun x N2 hN2 _ _ _ N3 hN3=>?_
 refine yK h (by omega) hcg a c N3 _ fun a3 es3 c3 a4 es4 c4 N4 hN4 h3 h4 _ _ _=>Br.not (fun hb N5 hN5=>?_) fun hb=>Br.bne (fun hne N5 hN5=>?_) fun heq=>?_
 ·exact no (by unfold yT;rw [if_neg (by simp [hb])]) _ (by omega)
 ·have:=h3.all.len
  exact no (by unfold yT;rw [if_neg (by intro ⟨_,h,_⟩;omega)]) _ (by omega)
 ·have h3l:=h3.all.len
  have hnn:ns.length=(x8 g).length:=by omega
  refine up h.all h.len (fun i xs=>∀ (done:List Pl) (j:Nat) (q N':Nat),N<=N'->j<=ns.length->(ns.drop j).length=(x8 xs).length->done.length=i->y8 (x8 g) ns=y8 (x8 xs) (ns.drop j)->done++rK xs (ns.drop j)=rK g ns ->
   yF Q N a es c a2 (zI ns) c2 done.length q j i d 0 (bytes []) (bytes []) 0 0 none [] 0 0 none [] 0 none [] 0 (done.map spB) q N') ?_ ?_ [] 0 0 N4 (by omega) (by omega) hnn rfl rfl rfl
  ·intro i hlt hi done j q N' hN' hj hjl hdl hfa hpl
   refine vK _ _ _ _ _ _ _ _ _ _ _ _ _ _ _ _ _ _ _ _ _ _ _ _ _ _ _ _ _ _ _ ?_
   rw [hlt]
   intro N5 hN5
   refine tB h (by omega) a c N5 _ fun a6 es6 c6 N6 hN6 hctx _ _=>⟨⟨by simp,rfl⟩,fun a7 _ _ _ N7 hN7 hbel=>?_⟩
   simp only [rK,nD] at hpl
   have hfit:y8 (x8 g) ns=true:=by rw [hfa];rfl
   have hsp:yT g e ns=some (e.sp (rK g ns) (xI g)):=by unfold yT;rw [if_pos ⟨hb,hnn,hfit⟩]
   rw [hsp] at hQ
   rw [hpl]
   refine zNX e d he _ _ es6 (zFf hb hnn hfit (by omega)) hctx (by rw [zFS];omega) a7 a6 q c6 N7 _ fun d' N8 hN8 hd' ho' _=>⟨wS hbel ho',fun _ N9 hN9=>?_⟩
   exact hQ _ _ (by omega) hd' (ho'.mono (by omega) hN9)
  ·intro i x xs hat _ ih2 done j q N' hN' hj hjl hdl hfa hpl
   have hb2:=hat.b
   obtain ⟨t0,t1,hd',hnm,hty⟩:=hat.r
   have hml:done.length=(done.map spB).length:=by simp
   have hap:∀ p:Pl,zA (done.map spB) [spB p] 32:=fun p=>by unfold zA;rw [oK];simp only [o6,oH,oN];omega
   refine vK _ _ _ _ _ _ _ _ _ _ _ _ _ _ _ _ _ _ _ _ _ _ _ _ _ _ _ _ _ _ _ ?_
   rw [hat.lt,oG,hd',hat.w,oG]
   refine ⟨⟨by omega,by omega⟩,_,rfl,⟨by omega,by omega⟩,_,rfl,Br.not (fun hdy=>?_) fun hdy=>⟨⟨hml,rfl⟩,?_,fun c5=>?_⟩⟩
   ·have e1:x8 (x::xs)=x::x8 xs:=by simp [x8,hdy]
    rw [e1] at hjl hfa
    rw [nK] at hjl
    simp only [oH] at hjl
    have hjlt:j<ns.length:=by omega
    have hdr:ns.drop j=ns[j]::ns.drop (j+1):=by rw [nj]
    have hng:=uc (oD hjlt)
    rw [hdr] at hfa hpl
    simp only [y8] at hfa
    simp only [rK,hdy,nX,o3,mG,nz] at hpl
    refine ⟨⟨by omega,by omega⟩,⟨by omega,by rw [hnl];omega⟩,_,hng,fun N1 hN1=>?_⟩
    refine ro hty _ N1 _ fun N2 hN2 _=>Br.not (fun hx N3 hN3=>?_) fun hx=>⟨⟨by omega,by rw [hnl];omega⟩,_,hng,⟨hml,rfl⟩,?_,fun c5=>?_⟩
    ·refine no ?_ _ (by omega)
     unfold yT
     rw [if_neg]
     intro ⟨_,_,hff⟩
     rw [hfa,hx] at hff
     simp at hff
    ·have:=hap (x.nm,ns[j],false)
     simp only [spB] at this
     rw [hdy];exact this
    ·have e2:done.map spB++[D.ag [D.lit (.string x.nm),D.lit (.bool x.dy),D.lit (.int .i64 ns[j])]]=(done++[(x.nm,ns[j],false)]).map spB:=by rw [hdy];simp [spB]
     have e3:IntKind.i64.wrap ((j:Int)+1)=((j+1:Nat):Int):=by rw [i64_in _ (by omega)];simp
     rw [e2,e3,o6]
     refine ih2 _ (j+1) _ _ (by omega) (by omega) ?_ (by simp [hdl]) ?_ (by rw [<-hpl];simp)
     ·rw [nK];omega
     ·rw [hfa,hx,mV]
   ·have:=hap (x.nm,0,true)
    simp only [spB] at this
    rw [hdy];exact this
   ·have e2:done.map spB++[D.ag [D.lit (.string x.nm),D.lit (.bool x.dy),D.lit (.int .i64 0)]]=(done++[(x.nm,0,true)]).map spB:=by rw [hdy];simp [spB]
    have e1:x8 (x::xs)=x8 xs:=by simp [x8,hdy]
    rw [e1] at hjl hfa
    simp only [rK,hdy,nn] at hpl
    rw [e2,o6]
    exact ih2 _ j _ _ (by omega) hj hjl (by simp [hdl]) hfa (by rw [<-hpl];simp)
theorem zAn {g:List Pm} {es:List D} (h:Pms g es) (hg:g.length<=1073741) (hcg:∀ x∈g,x.ty.cnt<=1073741824) {e:Tm} {d:D} (he:e.Is d) (hc:e.cnt<=250000000) (ns:List Int) (hn:ns.length<=1073741824) (a a2:Option Addr) (c c2:Nat) :
  zQZ 83 [.sv a 4 es c,.dg 9 d,.sv a2 0 (zI ns) c2] (yT g e ns):=fun N Q hQ=>by
 have hl:=h.all.len
 have hnl:=z9 ns
 have no:yT g e ns=none->∀ N',N<=N'->Q (D.ag [D.lit (.int .i64 0),D.lit (.string (bytes [])),D.lit (.string (bytes [])),D.lit (.int .i64 0),D.lit (.int .i64 0),D.sl none 2 [] 0,D.lit (.int .i64 0),D.sl none 2 [] 0,D.sl none 9 [] 0]) false N':=fun h N' hN'=>by
  rw [h] at hQ
  exact hQ _ _ hN' (zN6 rfl (by simp)) (zJe 0)
 refine zAi N a es c d a2 _ c2 Q fun _ _ _ N1 hN1=>?_
 refine xz h (by omega) hcg a c N1 _ fun a3 es3 c3 a4 es4 c4 N2 hN2 h3 h4 _ _ _ N3 hN3=>?_
 refine tx h (by omega) hcg he (by omega) a c N3 _ fun x N4 hN4 _ _ _ _=>Br.not (fun hb N5 hN5=>?_) fun hb N5 hN5=>?_
 ·exact no (by unfold yT;rw [if_neg (by simp [hb])]) _ (by omega)
 ·have n1:=uB g
  refine r5 h3 (by omega) ns hn a3 a2 c3 c2 N5 _ fun N6 hN6 _=>Br.not (fun hx N7 hN7=>?_) fun hx=>?_
  ·refine no ?_ _ (by omega)
   unfold yT
   rw [if_neg]
   intro ⟨_,h8,h9⟩
   rw [h9,nY h8] at hx
   simp at hx
  ·simp only [oI,nE] at hx
   obtain ⟨hnn,hfit⟩:=hx
   have hsp:yT g e ns=some (e.sp (rK g ns) (xI g)):=by unfold yT;rw [if_pos ⟨hb,hnn,hfit⟩]
   rw [hsp] at hQ
   refine up h.all h.len (fun i xs=>∀ (done:List D) (q N':Nat),N<=N'->All2 Tg.Is ((xI g).take i) done->done.length=i ->
    ym Q N a es c a2 (zI ns) c2 done.length q a es c es.length i d 0 (bytes []) (bytes []) 0 0 none [] 0 0 none [] 0 none [] 0 done q N') ?_ ?_ [] 0 N6 (by omega) rfl rfl
   ·intro i hlt hi done q N' hN' hd hdl
    refine vc _ _ _ _ _ _ _ _ _ _ _ _ _ _ _ _ _ _ _ _ _ _ _ _ _ _ _ _ _ _ _ _ _ _ ?_
    rw [oY (by rw [vS];omega)] at hd
    rw [hlt]
    intro N7 hN7
    refine zOh h (by omega) ns hn a a2 c c2 N7 _ fun a6 c6 N8 hN8 _ _=>⟨⟨rfl,rfl⟩,fun a7 _ _ _ N9 hN9 hbel=>?_⟩
    refine zMM e d he _ _ done (zFf hb hnn hfit (by omega)) ⟨by omega,hd⟩ (by rw [zFS];omega) a6 a7 c6 q N9 _ fun d' N10 hN10 hd' ho' _=>⟨wS hbel ho',fun _ N11 hN11=>?_⟩
    exact hQ _ _ (by omega) hd' (ho'.mono (by omega) hN11)
   ·intro i x xs hat _ ih2 done q N' hN' hd hdl
    have hb2:=hat.b
    obtain ⟨t0,t1,hd',hnm,hty⟩:=hat.r
    have hat2:(xI g)[i]?=some ⟨x.nm,x.ty,0⟩:=by rw [xI,oE,hat.g];rfl
    refine vc _ _ _ _ _ _ _ _ _ _ _ _ _ _ _ _ _ _ _ _ _ _ _ _ _ _ _ _ _ _ _ _ _ _ ?_
    rw [hat.lt,oG,hd',hat.w]
    refine ⟨⟨by omega,by omega⟩,_,rfl,⟨rfl,rfl⟩,by unfold zA;rw [oK];simp only [oH,oN];omega,fun c5=>?_⟩
    exact ih2 _ _ _ hN' (by rw [zY hat2];exact hd.snoc ⟨_,_,rfl,hnm,hty⟩) (by simp [hdl])
def tL (g:List Pm) (e:Tm) (ns ms:List Int):Int × Bool:=match yT g e ns with
 | some x=>yj (zR g) x ms
 | none=>(0,false)
theorem zG7 {g:List Pm} {e:Tm} {ns:List Int} (h:(yj g e ns).2=false):yj g e ns=(0,false):=by
 unfold yj at h ⊢
 split
 ·rename_i h1
  rw [if_pos h1] at h
  split
  ·rename_i h2
   rw [if_pos h2] at h
   split
   ·rename_i h3
    rw [if_pos h3] at h
    cases h
   ·rfl
  ·rfl
 ·rfl
theorem zHp {g:List Pm} {e:Tm} {ns:List Int} (h:¬e.sz<=80):yj g e ns=(0,false):=by
 have hb:yd g e=none:=by
  unfold yd
  rw [if_neg]
  intro ⟨_,hv,_⟩
  simp [Tm.vd] at hv
  exact h hv.1.1
 unfold yj
 rw [hb]
 rfl
theorem zKC {g:List Pm} {P:Pm->Prop} (h:∀ x∈g,P x):∀ x∈zR g,P x:=fun x hx=>h x (mA.1 hx).1
theorem qE {g:List Pm} {es:List D} (h:Pms g es) (hg:g.length<=1073741) (hcg:∀ x∈g,x.ty.cnt<=1073741824) {e:Tm} {d:D} (he:e.Is d) (hc:e.cnt<=250000000) (ns ms:List Int) (hn:ns.length<=1073741824) (hm:ms.length<=1073741824) (a a2 a3:Option Addr) (c c2 c3:Nat) :
  zKh 25 [.sv a 4 es c,.dg 9 d,.sv a2 0 (zI ns) c2,.sv a3 0 (zI ms) c3] (tL g e ns ms):=fun N Q hQ=>by
 have hll:=xM g
 have hsc:=qI g e ns
 refine qW N a es c d a2 _ c2 a3 _ c3 Q fun _ _ _ _ N1 hN1=>?_
 refine ud h hg hcg he hc ns hn a a2 c c2 N1 _ fun x N2 hN2 hx _ _ _ N3 hN3=>?_
 refine yK h (by omega) hcg a c N3 _ fun a4 es4 c4 a5 es5 c5 N4 hN4 h4 h5 _ _ _ N5 hN5=>?_
 refine si h5 (by omega) hx (by omega) ms hm a5 a3 c5 c3 N5 _ fun N6 hN6 _=>?_
 unfold tL at hQ
 cases ho:yT g e ns with
 | none=>
   rw [ho] at hQ
   exact fun N7 hN7=>hQ _ (by omega)
 | some y=>
   rw [ho] at hQ
   simp only [oZ,mD]
   simp only at hQ
   refine Br.not (fun hb=>by cases hb) fun _=>Br.not (fun hb N8 hN8=>?_) fun hb N9 hN9=>?_
   ·rw [zG7 hb] at hQ
    exact hQ _ (by omega)
   ·have:=hQ N9 (by omega)
    rw [hb] at this
    exact this
theorem qZ {g:List Pm} {es:List D} (h:Pms g es) (hg:g.length<=1073741) (hcg:∀ x∈g,x.ty.cnt<=1073741824) {e:Tm} {d:D} (he:e.Is d) (hc:e.cnt<=250000000) (ns ms:List Int) (hn:ns.length<=1073741824) (hm:ms.length<=1073741824) (a a2 a3:Option Addr) (c c2 c3:Nat) :
  zKh 24 [.sv a 4 es c,.dg 9 d,.sv a2 0 (zI ns) c2,.sv a3 0 (zI ms) c3] (tL g e ns ms):=fun N Q hQ=>by
 have hll:=xM g
 have hsc:=qI g e ns
 refine qT N a es c d a2 _ c2 a3 _ c3 Q fun _ _ _ _ N1 hN1=>?_
 refine xz h (by omega) hcg a c N1 _ fun a4 es4 c4 a5 es5 c5 N2 hN2 h4 h5 _ _ _ N3 hN3=>?_
 refine zAn h hg hcg he hc ns hn a a2 c c2 N3 _ fun x N4 hN4 hx _ _ _=>?_
 unfold tL at hQ
 cases ho:yT g e ns with
 | none=>
   rw [ho] at hQ
   exact fun N5 hN5=>hQ _ (by omega)
 | some y=>
   rw [ho] at hQ hx hsc
   simp only [oZ] at hx hsc
   simp only at hQ
   refine fun N5 hN5=>?_
   refine zAA y x hx (by omega) N5 _ fun N6 hN6 _=>Br.dec (fun hb N7 hN7=>?_) fun hb N7 hN7=>?_
   ·rw [zHp (by omega)] at hQ
    exact hQ _ (by omega)
   ·exact zCY h5 (by omega) (zKC hcg) hx (by omega) ms hm a5 a3 c5 c3 N7 _ fun N8 hN8 _ N9 hN9=>hQ _ (by omega)
end Go.Proofs.YtkdjhkfiolhkiaaGreat
