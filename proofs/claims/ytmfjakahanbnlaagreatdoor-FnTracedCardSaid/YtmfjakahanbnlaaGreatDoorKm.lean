/- Printed by gen.py: what the functions come to. -/
import Derived.Test.YtmfjakahanbnlaaGreatDoorJh
set_option linter.unusedVariables false
set_option maxRecDepth 100000
namespace Go.Proofs.YtmfjakahanbnlaaGreatDoor
open Go Go.Proofs Go.Proofs.Tryz
def shT:FuncId->List Sh:=λf=>match zL7 f [(80,[.row 0 1000007,.ag 11]),(81,[.row 0 1000007])] with
 | []=>sh f
 | l=>l
theorem zUK {f:FuncId} {rs:List Sh} {Q:QT rs} {N:Nat} {H:Hint} {args:List PV} {F:Prop} (hc:yv prog f=true) (I:F=zGn prog shT f rs Q N H 400 args) (h:F):ACalls prog f rs args N Q:=zPJ mixed hc I h
theorem zTU {f:FuncId} {full:List Sh} {Q:QT full} {N:Nat} {H:Hint} {args:List PV} {bx:List Bx} {F:Env->Prop} (hc:yv prog f=true) (I:∀ E,F E=zGy prog shT f full Q N H 400 args bx E) (h:∀ E,F E):BCalls prog f full args bx N Q:=zLO mixed hc I h
theorem zUD {f:FuncId} {rs:List Sh} {Q:QT rs} {N0:Nat} {M:Mode} {H:Hint} {I:List Item} {st:St} {F:Prop} (J:F=zB5 st λst=>W prog shT f rs Q N0 M H 400 true I st) (h:F):AT prog f rs Q N0 M I st:=zRe mixed J h
def zFl:Hint:=⟨[],[],[(2,hs 4 [ec 3 [7]])]⟩
def rF:Hint:=⟨[hc 6 [1,2,6,7,8]],[],[(1,hs 8 [{ i:=1,hard:=true,cl:=[11],fs:=[11] }]),(3,hs 4 [{ i:=1,hard:=true,cl:=[20],fs:=[20] }]),(6,hs 4 [{ i:=1,hard:=true,cl:=[25],fs:=[25] }]),(8,hs 3 [{ i:=1,hard:=true,cl:=[31],fs:=[31] }]),(12,hs 8 [{ i:=1,hard:=true,cl:=[44],fs:=[44] }]),(16,hs 3 [{ i:=1,hard:=true,cl:=[56],fs:=[56] }])]⟩
def zC5:Hint:=⟨[],[],[]⟩
def xN (E:Env) (Q:QT [(Sh.ag 11),(Sh.sl 0)]) (N0:Nat) (n1 n8:Int) (J O:Nat) (r1:List D) (q1:Nat) (U Y:Int) (aa ab:ByteArray) (ac ae:Int) (ah:Option Addr) (ai:List D) (aj:Nat) (ak:Int) (al:Option Addr) (am:List D) (ao:Nat) (aq:Option Addr) (au:List D) (aw:Nat) (I ax:Int) (ay az:ByteArray) (a1:Int) (a6 a7 a8 ba:D) (bb bc:Nat) (r4:List D) (q4:Nat) (N:Nat):Prop:=AT prog 80 [(Sh.ag 11),(Sh.sl 0)] Q N0 (.io E [.var [.sb 1 0 0 0 0],.arr 3 0 [] 0]) (zC prog 80 6) ⟨an 1 (.int .i64 n1::.fn 81 [.pb 0 0 0 0]::an 3 (.pb 2 0 0 0::.pb 3 0 0 0::.int .i64 n8::an 49 [])),[.var [.sb 1 0 0 J O],.arr 3 0 r1 q1,.var [.int .i64 U,.int .i64 Y,.str aa,.str ab,.int .i64 ac,.int .i64 ae,.sv ah 2 ai aj,.int .i64 ak,.sv al 2 am ao,.sv aq 9 au aw,.int .i64 I],.var [.int .i64 ax,.str ay,.str az,.int .i64 a1,.dc a6,.dc a7,.dc a8,.dc ba,.sb 4 9 0 bb bc],.arr 35 9 r4 q4],N,some (yu E 0 [.var [.sb 1 0 0 0 0],.arr 3 0 [] 0],[])⟩
theorem zFg (N:Nat) (I:D) (n1:Int) (Q:QT [.sl 0]) (h :
Bel N I->∀ b,N<=b->BCalls prog 80 [.ag 11,.sl 0] [.dg 9 I,.int .i64 n1,.fn 81 [.pb 0 0 0 0]] [Bx.var [.sb 1 0 0 0 0],Bx.arr 3 0 [] 0] b (λx a
 c d e=>b<=e->Bel e x->Bel e (D.sl a 0 c d)->(c.length=c.length/\d=d)/\(c.length=c.length/\d=d)/\(c.length=c.length/\d=d)
 /\ ∀ a b,e<=b->Fresh N b a [D.ag c]->∀ e,b<=e->Q a c d e)):ACalls prog 30 [.sl 0] [PV.dg 9 I,PV.int .i64 n1] N Q:=
  zUK (H:=zFl) (by kernel_rfl) (by kernel_rfl) h
theorem zBR (N:Nat) (Y:D) (n1:Int) (I J:Nat) (O:List D) (U:Nat) (Q:QT [(Sh.ag 11),(Sh.sl 0)]) (h:∀ E:Env,
Bel N Y->Bel N (D.sl Option.none 0 O U)->∀ a,N<=a->ACalls prog 102 [.bool] [.dg 9 Y,.int .i64 0] a (λb d=>a<=d->Br (!b) (zN E [.var
 [.sb 1 0 0 0 0],.arr 3 0 [] 0]/\(I=O.length/\J=U)/\∀ a,d<=a->Q (D.ag [D.lit (.int .i64 0),D.lit (.int .i64 0),D.lit (.string (bytes
 [])),D.lit (.string (bytes [])),D.lit (.int .i64 0),D.lit (.int .i64 0),D.sl Option.none 2 [] 0,D.lit (.int .i64 0),D.sl Option.none 2 [] 0,D.sl Option.none
 9 [] 0,D.lit (.int .i64 0)]) Option.none O U a) (∀ a,d<=a->ACalls prog 65 [.bool] [.int .i64 n1,.int .i64 0,.int .i64 200] a (λb d=>
 a<=d->Br (!b) (zN E [.var [.sb 1 0 0 0 0],.arr 3 0 [] 0]/\(I=O.length/\J=U)/\∀ a,d<=a->Q (D.ag [D.lit (.int .i64 0),D.lit
 (.int .i64 0),D.lit (.string (bytes [])),D.lit (.string (bytes [])),D.lit (.int .i64 0),D.lit (.int .i64 0),D.sl Option.none 2 [] 0,D.lit (.int .i64 0),D.sl
 Option.none 2 [] 0,D.sl Option.none 9 [] 0,D.lit (.int .i64 0)]) Option.none O U a) (∀ a,d<=a->ACalls prog 101 [Sh.pk,.int .i64,.str,.str,.int
 .i64,Sh.dc,Sh.dc,Sh.dc,Sh.dc,.row (OfNat.ofNat 35) 9] [.dg 9 Y] a (λn s b c x d e f g h i=>a<=i->Bel i (D.ag g)->xN
 E Q N n1 0 I J O U 0 0 (bytes []) (bytes []) 0 0 Option.none [] 0 0 Option.none [] 0 Option.none [] 0 0 n s b c x d e f g.length h g h i))))) 
 ):BCalls prog 80 [(Sh.ag 11),(Sh.sl 0)] [.dg 9 Y,.int .i64 n1,.fn 81 [.pb 0 0 0 0]] [.var [.sb 1 0 0 I J],.arr 3 0 O U] N Q:=
  zTU (H:=rF) (by kernel_rfl) (λE=>by kernel_rfl) h
theorem tB (E:Env) (Q:QT [(Sh.ag 11),(Sh.sl 0)]) (N0:Nat) (n1 n8:Int) (m0_0 c0_0:Nat) (r1:List D) (q1:Nat) (n2_0 n2_1:Int) (s2_2 s2_3:ByteArray) (n2_4 n2_5:Int) (a2_6:Option Addr) (e2_6:List D) (c2_6:Nat) (n2_7:Int) (a2_8:Option Addr) (e2_8:List D) (c2_8:Nat) (a2_9:Option Addr) (e2_9:List D) (c2_9:Nat) (n2_10 n3_0:Int) (s3_1 s3_2:ByteArray) (n3_3:Int) (x3_4 x3_5 x3_6 x3_7:D) (m3_8 c3_8:Nat) (r4:List D) (q4:Nat) (N:Nat) (h :
(m3_8=r4.length/\c3_8=q4)/\(m3_8=r4.length/\c3_8=q4)/\∀ a d,N<=d->Fresh N0 d a [D.ag r4,x3_4,x3_5,x3_6,x3_7]->∀ e,d<=e->ACalls
 prog 103 [.int .i64] [.dg 9 (D.ag [D.lit (.int .i64 n3_0),D.lit (.string s3_1),D.lit (.string s3_2),D.lit (.int .i64 n3_3),x3_4,x3_5,x3_6,x3_7,D.sl a 9 r4
 q4])] e (fun n d=>e<=d->Br (decide (n>400)) (zN E [.var [.sb 1 0 0 0 0],.arr 3 0 [] 0]/\(m0_0=r1.length/\c0_0=q1)/\∀ a,d<=a->Q (D.ag
 [D.lit (.int .i64 3),D.lit (.int .i64 0),D.lit (.string (bytes [])),D.lit (.string (bytes [])),D.lit (.int .i64 0),D.lit (.int .i64 0),D.sl Option.none 2 []
 0,D.lit (.int .i64 0),D.sl Option.none 2 [] 0,D.sl Option.none 9 [] 0,D.lit (.int .i64 n8)]) Option.none r1 q1 a) (∀ e,d<=e->ACalls prog 139 [.bool]
 [.dg 9 (D.ag [D.lit (.int .i64 n3_0),D.lit (.string s3_1),D.lit (.string s3_2),D.lit (.int .i64 n3_3),x3_4,x3_5,x3_6,x3_7,D.sl a 9 r4 q4])] e (fun b d
 => e<=d->Br b (zN E [.var [.sb 1 0 0 0 0],.arr 3 0 [] 0]/\(m0_0=r1.length/\c0_0=q1)/\∀ b,d<=b->Q (D.ag [D.lit (.int .i64 1),D.lit (.int
 .i64 n3_0),D.lit (.string s3_1),D.lit (.string s3_2),D.lit (.int .i64 n3_3),x3_4,x3_5,x3_6,x3_7,D.sl a 9 r4 q4,D.lit (.int .i64 n8)]) Option.none r1 q1
 b) (Br (n8==n1) (zN E [.var [.sb 1 0 0 0 0],.arr 3 0 [] 0]/\(m0_0=r1.length/\c0_0=q1)/\∀ b,d<=b->Q (D.ag [D.lit (.int .i64 2),D.lit (.int
 .i64 n3_0),D.lit (.string s3_1),D.lit (.string s3_2),D.lit (.int .i64 n3_3),x3_4,x3_5,x3_6,x3_7,D.sl a 9 r4 q4,D.lit (.int .i64 n8)]) Option.none r1 q1
 b) (∀ b,d<=b->ACalls prog 104 [.ag 9,.int .i64] [.dg 9 (D.ag [D.lit (.int .i64 n3_0),D.lit (.string s3_1),D.lit (.string s3_2),D.lit (.int .i64 n3_3),
 x3_4,x3_5,x3_6,x3_7,D.sl a 9 r4 q4])] b (fun x d e=>b<=e->Bel e x->Br (d==0) (zN E [.var [.sb 1 0 0 0 0],.arr 3 0 [] 0]/\(m0_0 =
 r1.length/\c0_0=q1)/\∀ b,e<=b->Q (D.ag [D.lit (.int .i64 4),D.lit (.int .i64 n3_0),D.lit (.string s3_1),D.lit (.string s3_2),D.lit (.int .i64
 n3_3),x3_4,x3_5,x3_6,x3_7,D.sl a 9 r4 q4,D.lit (.int .i64 n8)]) Option.none r1 q1 b) (∀ a,e<=a->BCalls prog 81 [.sl 0] [.int .i64 d,.pb 0
 0 0 0] [Bx.var [.sb 1 0 0 m0_0 c0_0],Bx.arr 3 0 r1 q1] a (fun b c d e=>a<=e->Bel e (D.sl b 0 c d)->∀ a,e<=a->ACalls prog 101
 [Sh.pk,.int .i64,.str,.str,.int .i64,Sh.dc,Sh.dc,Sh.dc,Sh.dc,.row (OfNat.ofNat 35) 9] [.dg 9 x] a (fun b s e f g h i j k l m=>
 a<=m->Bel m (D.ag k)->xN E Q N0 n1 (IntKind.i64.wrap (n8+1)) c.length d c d n2_0 n2_1 s2_2 s2_3 n2_4 n2_5 a2_6 e2_6 c2_6 n2_7 a2_8
 e2_8 c2_8 a2_9 e2_9 c2_9 n2_10 b s e f g h i j k.length l k l m)))))))))):xN E Q N0 n1 n8 m0_0 c0_0 r1 q1 n2_0 n2_1 s2_2 s2_3 n2_4 n2_5 a2_6 e2_6 c2_6 n2_7 a2_8 e2_8 c2_8 a2_9 e2_9 c2_9 n2_10 n3_0 s3_1 s3_2 n3_3 x3_4 x3_5 x3_6 x3_7 m3_8 c3_8 r4 q4 N:=
  zUD (H:=rF) (by kernel_rfl) h
theorem pX (N:Nat) (n0:Int) (J O:Nat) (I:List D) (U:Nat) (Q:QT [(Sh.sl 0)]) (h:∀ E:Env,
Bel N (D.sl Option.none 0 I U)->(J=I.length/\O=U)/\zB I [D.lit (.int .i64 n0)] 8/\∀ (c:Nat),zN E [.var [.sb 1 0 0 0 0],.arr
 3 0 [] 0]/\((I++[D.lit (.int .i64 n0)]).length=(I++[D.lit (.int .i64 n0)]).length/\c=c)/\∀ a,N<=a->Q Option.none (I++[D.lit (.int .i64
 n0)]) c a):BCalls prog 81 [(Sh.sl 0)] [.int .i64 n0,.pb 0 0 0 0] [.var [.sb 1 0 0 J O],.arr 3 0 I U] N Q:=
  zTU (H:=zC5) (by kernel_rfl) (λE=>by kernel_rfl) h
end Go.Proofs.YtmfjakahanbnlaaGreatDoor
set_option maxRecDepth 100000
namespace Go.Proofs.YtmfjakahanbnlaaGreatDoor
open Go Go.Proofs Go.Proofs.Tryz
def tU:Hint:=⟨[hc 5 [5,6,7,8] [(5,3,0)]],[],[(2,hs 5 [ec 2 [12]]),(3,hs 4 [ec 1 [16]]),(7,hs 8 [ec 1 [24]])]⟩
def vU (Q:QT [.sl 0]) (N0:Nat) (m5 c5:Nat) (n6 n8:Int) (r0:List D) (q0:Nat) (I:Int) (J O:ByteArray) (U:Int) (Y aa ab ac:D) (ae ah:Nat) (r2:List D) (q2:Nat) (N:Nat):Prop:=AT prog 36 [.sl 0] Q N0 .ord (zC prog 36 5) ⟨an 5 (.sb 0 0 0 m5 c5::.int .i64 n6::.pb 1 0 0 0::.int .i64 n8::an 25 []),[.arr 3 0 r0 q0,.var [.int .i64 I,.str J,.str O,.int .i64 U,.dc Y,.dc aa,.dc ab,.dc ac,.sb 2 9 0 ae ah],.arr 35 9 r2 q2],N,none⟩
def yM (Q:QT [.sl 0]) (N0:Nat) (I J:Nat) (O U:Int) (r0:List D) (Y:Nat) (y1:D) (N:Nat):Prop:=AT prog 36 [.sl 0] Q N0 .ord (zC prog 36 5) ⟨an 5 (.sb 0 0 0 I J::.int .i64 O::.pb 1 0 0 0::.int .i64 U::an 25 []),[.arr 3 0 r0 Y,.vd y1 9],N,none⟩
theorem zGM (N:Nat) (I:D) (n1:Int) (Q:QT [.sl 0]) (h :
Bel N I->∀ a,N<=a->ACalls prog 31 [.ag 11] [.dg 9 I,.int .i64 n1] a (λx b=>a<=b->Bel b x->∃ n:Int,(x.cell 10)=D.lit (.int .i64
 n)/\∀ a,b<=a->ACalls prog 83 [Sh.pk,.int .i64,.str,.str,.int .i64,Sh.dc,Sh.dc,Sh.dc,Sh.dc,.row (OfNat.ofNat 35) 9] [.dg 9 I] a (λb s c
 d e f g h i j k=>a<=k->Bel k (D.ag i)->vU Q N 0 0 n 0 [] 0 b s c d e f g h i.length j i j k))):ACalls prog 36 [.sl 0] [PV.dg 9 I,PV.int .i64 n1] N Q:=
  eE (H:=tU) (by kernel_rfl) (by kernel_rfl) h
theorem xv (Q:QT [.sl 0]) (N0:Nat) (m5 c5:Nat) (n6 n8:Int) (r0:List D) (q0:Nat) (O:Int) (U Y:ByteArray) (aa:Int) (ab ac ae ah:D) (I J:Nat) (r2:List D) (q2:Nat) (N:Nat) (h :
Br (decide (n8<n6)) ((I=r2.length/\J=q2)/\(I=r2.length/\J=q2)/\∀ a b,N<=b->Fresh N0 b a [D.ag r2]->∀ d,b<=d->ACalls
 prog 86 [.ag 9,.int .i64] [.dg 9 (D.ag [D.lit (.int .i64 O),D.lit (.string U),D.lit (.string Y),D.lit (.int .i64 aa),ab,ac,ae,ah,D.sl
 a 9 r2 q2])] d (λx n a=>d<=a->Bel a x->(m5=r0.length/\c5=q0)/\zB r0 [D.lit (.int .i64 n)] 8/\∀ (c:Nat),yM Q N0
 (r0++[D.lit (.int .i64 n)]).length c n6 (IntKind.i64.wrap (n8+1)) (r0++[D.lit (.int .i64 n)]) c x a)) ((m5=r0.length/\c5=q0)/\(m5=r0.length/\c5
 = q0)/\(m5=r0.length/\c5=q0)/\∀ a b,N<=b->Fresh N0 b a [D.ag r0]->∀ c,b<=c->Q a r0 q0 c)):vU Q N0 m5 c5 n6 n8 r0 q0 O U Y aa ab ac ae ah I J r2 q2 N:=
  hE (H:=tU) (by kernel_rfl) h
theorem xy (Q:QT [.sl 0]) (N0:Nat) (J O:Nat) (U Y:Int) (r0:List D) (I:Nat) (y1:D) (N:Nat) (h :
Br (decide (Y<U)) (∀ a,N<=a->ACalls prog 86 [.ag 9,.int .i64] [.dg 9 y1] a (λx n b=>a<=b->Bel b x->(J=r0.length/\O=I)/\zB
 r0 [D.lit (.int .i64 n)] 8/\∀ (c:Nat),yM Q N0 (r0++[D.lit (.int .i64 n)]).length c U (IntKind.i64.wrap (Y+1)) (r0++[D.lit (.int .i64
 n)]) c x b)) ((J=r0.length/\O=I)/\(J=r0.length/\O=I)/\(J=r0.length/\O=I)/\∀ a b,N<=b->Fresh N0 b a [D.ag r0]->∀ c,b <=
 c->Q a r0 I c)):yM Q N0 J O U Y r0 I y1 N:=
  hE (H:=tU) (by kernel_rfl) h
end Go.Proofs.YtmfjakahanbnlaaGreatDoor
