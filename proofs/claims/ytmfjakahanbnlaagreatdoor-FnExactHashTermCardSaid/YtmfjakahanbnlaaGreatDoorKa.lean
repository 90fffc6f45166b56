/- Printed by gen.py: what the functions come to. -/
import Derived.Test.YtmfjakahanbnlaaGreatDoorJh
set_option linter.unusedVariables false
set_option maxRecDepth 100000
namespace Go.Proofs.YtmfjakahanbnlaaGreatDoor
open Go Go.Proofs Go.Proofs.Tryz
def zBR:Hint:=⟨[],[],[]⟩
def tF:Hint:=⟨[hc 5 [0,1,5]],[],[(7,hs 7 [ec 5 [21]])]⟩
def zBo:Hint:=⟨[],[],[(7,hs 5 [ec 3 [20]]),(10,hs 5 [ec 3 [26]])]⟩
def uy:Hint:=⟨[hc 5 [0,1,5]],[],[(7,hs 7 [ec 5 [21]])]⟩
def yy (Q:QT [.int .i64]) (N0:Nat) (a0:Option Addr) (e0:List D) (c0:Nat) (n1 n5:Int) (N:Nat):Prop:=AT prog 105 [.int .i64] Q N0 .ord (zF prog 105 5) ⟨.sv a0 2 e0 c0::.int .i64 n1::an 3 (.int .i64 n5::an 21 []),[],N,none⟩
def yG (Q:QT [.int .i64]) (N0:Nat) (a0:Option Addr) (e0:List D) (c0:Nat) (n1 n5:Int) (N:Nat):Prop:=AT prog 45 [.int .i64] Q N0 .ord (zF prog 45 5) ⟨.sv a0 9 e0 c0::.int .i64 n1::an 3 (.int .i64 n5::an 21 []),[],N,none⟩
theorem zCF (N:Nat) (x0:D) (n1:Int) (Q:QT [.int .i64]) (h :
Bel N x0->∃ a b,∃ c:Nat,(x0.cell 1)=D.sl a 2 b c/\∀ d,N<=d->ACalls prog 105 [.int .i64] [.sv a 2 b c,.int .i64 n1] d (fun n a=>d<=a
 -> Br (decide (n<0)) (∀ b,a<=b->Q (-1) b) (∀ b,a<=b->Q n b))):ACalls prog 44 [.int .i64] [PV.dg 2 x0,PV.int .i64 n1] N Q:=
  eE (H:=zBR) (by kernel_rfl) (by kernel_rfl) h
theorem zAI (N:Nat) (a0:Option Addr) (e0:List D) (c0:Nat) (n1:Int) (Q:QT [.int .i64]) (h :
Bel N (D.sl a0 2 e0 c0)->Br (decide (IntKind.i64.wrap (n1 - (e0.length:Int))<0)) (∀ a,N<=a->Q (-1) a) (yy Q N a0 e0 c0 (IntKind.i64.wrap
 (n1 - (e0.length:Int))) 0 N)):ACalls prog 105 [.int .i64] [PV.sv a0 2 e0 c0,PV.int .i64 n1] N Q:=
  eE (H:=tF) (by kernel_rfl) (by kernel_rfl) h
theorem zB6 (N:Nat) (x0:D) (n1:Int) (Q:QT [.int .i64]) (h :
Bel N x0->∃ s,(x0.cell 1)=D.lit (.string s)/\Br (decide (IntKind.i64.wrap (n1 - (s.size:Int))<0)) (∀ a,N<=a->Q (-1) a) (∃ b,(x0.cell 2)=D.lit
 (.string b)/\Br (decide (IntKind.i64.wrap (IntKind.i64.wrap (n1 - (s.size:Int)) - (b.size:Int))<0)) (∀ a,N<=a->Q (-1) a) (∀ d,N<=d->ACalls
 prog 44 [.int .i64] [.dg 2 (D.sub x0 4 2),.int .i64 (IntKind.i64.wrap (IntKind.i64.wrap (n1 - (s.size:Int)) - (b.size:Int)))] d (fun n b=>d<=b
 -> Br (decide (n<0)) (∀ a,b<=a->Q (-1) a) (∀ d,b<=d->ACalls prog 44 [.int .i64] [.dg 2 (D.sub x0 6 2),.int .i64 n] d (fun b e=>d
 <= e->Br (decide (b<0)) (∀ a,e<=a->Q (-1) a) (∃ a d,∃ c:Nat,(x0.cell 8)=D.sl a 9 d c/\∀ f,e<=f->ACalls prog 45 [.int .i64] [.sv
 a 9 d c,.int .i64 b] f (fun a b=>f<=b->Br (decide (a<0)) (∀ a,b<=a->Q (-1) a) (∀ c,b<=c->Q a c))))))))):ACalls prog 8 [.int .i64] [PV.dg 9 x0,PV.int .i64 n1] N Q:=
  eE (H:=zBo) (by kernel_rfl) (by kernel_rfl) h
theorem zAU (N:Nat) (a0:Option Addr) (e0:List D) (c0:Nat) (n1:Int) (Q:QT [.int .i64]) (h :
Bel N (D.sl a0 9 e0 c0)->Br (decide (IntKind.i64.wrap (n1 - (e0.length:Int))<0)) (∀ a,N<=a->Q (-1) a) (yG Q N a0 e0 c0 (IntKind.i64.wrap
 (n1 - (e0.length:Int))) 0 N)):ACalls prog 45 [.int .i64] [PV.sv a0 9 e0 c0,PV.int .i64 n1] N Q:=
  eE (H:=uy) (by kernel_rfl) (by kernel_rfl) h
theorem vb (Q:QT [.int .i64]) (N0:Nat) (a0:Option Addr) (e0:List D) (c0:Nat) (n1 n5:Int) (N:Nat) (h :
Br (decide (n5<(e0.length:Int))) ((0<=n5/\n5<(e0.length:Int))/\∀ a,N<=a->ACalls prog 44 [.int .i64] [.dg 2 (List.getD e0 n5.toNat default),.int
 .i64 n1] a (fun n b=>a<=b->Br (decide (n<0)) (∀ a,b<=a->Q (-1) a) (yy Q N0 a0 e0 c0 n (IntKind.i64.wrap (n5+1)) b))) (∀
 a,N<=a->Q n1 a)):yy Q N0 a0 e0 c0 n1 n5 N:=
  hE (H:=tF) (by kernel_rfl) h
theorem ve (Q:QT [.int .i64]) (N0:Nat) (a0:Option Addr) (e0:List D) (c0:Nat) (n1 n5:Int) (N:Nat) (h :
Br (decide (n5<(e0.length:Int))) ((0<=n5/\n5<(e0.length:Int))/\∀ a,N<=a->ACalls prog 8 [.int .i64] [.dg 9 (List.getD e0 n5.toNat default),.int
 .i64 n1] a (fun n b=>a<=b->Br (decide (n<0)) (∀ a,b<=a->Q (-1) a) (yG Q N0 a0 e0 c0 n (IntKind.i64.wrap (n5+1)) b))) (∀
 a,N<=a->Q n1 a)):yG Q N0 a0 e0 c0 n1 n5 N:=
  hE (H:=uy) (by kernel_rfl) h
end Go.Proofs.YtmfjakahanbnlaaGreatDoor
set_option maxRecDepth 100000
namespace Go.Proofs.YtmfjakahanbnlaaGreatDoor
open Go Go.Proofs Go.Proofs.Tryz
def zBX:Hint:=⟨[],[],[]⟩
def u4:Hint:=⟨[hc 3 [0,3,4]],[],[(5,hs 9 [ec 6 [19]])]⟩
def zBu:Hint:=⟨[],[],[(6,hs 5 [ec 2 [17]]),(7,hs 5 [ec 2 [21]])]⟩
def tG:Hint:=⟨[hc 3 [0,3,4]],[],[(5,hs 9 [ec 6 [19]])]⟩
def yw (Q:QT [.sl 2]) (N0:Nat) (a0:Option Addr) (e0:List D) (c0 m3 c3:Nat) (n4:Int) (r0:List D) (q0:Nat) (N:Nat):Prop:=AT prog 110 [.sl 2] Q N0 .ord (zF prog 110 3) ⟨.sv a0 2 e0 c0::an 2 (.sb 0 2 0 m3 c3::.int .i64 n4::an 18 []),[.arr 32 2 r0 q0],N,none⟩
def ym (Q:QT [.sl 9]) (N0:Nat) (a0:Option Addr) (e0:List D) (c0 m3 c3:Nat) (n4:Int) (r0:List D) (q0:Nat) (N:Nat):Prop:=AT prog 49 [.sl 9] Q N0 .ord (zF prog 49 3) ⟨.sv a0 9 e0 c0::an 2 (.sb 0 9 0 m3 c3::.int .i64 n4::an 18 []),[.arr 35 9 r0 q0],N,none⟩
theorem zBY (N:Nat) (x0:D) (Q:QT [.ag 2]) (h :
Bel N x0->∃ n:Int,(x0.cell 0)=D.lit (.int .i64 n)/\∃ a b,∃ c:Nat,(x0.cell 1)=D.sl a 2 b c/\∀ d,N<=d->ACalls prog 110 [.sl 2] [.sv a 2 b c]
 d (fun a b c e=>d<=e->Bel e (D.sl a 2 b c)->∀ d,e<=d->Q (D.ag [D.lit (.int .i64 n),D.sl a 2 b c]) d)):ACalls prog 48 [.ag 2] [PV.dg 2 x0] N Q:=
  eE (H:=zBX) (by kernel_rfl) (by kernel_rfl) h
theorem p4 (N:Nat) (a0:Option Addr) (e0:List D) (c0:Nat) (Q:QT [.sl 2]) (h :
Bel N (D.sl a0 2 e0 c0)->(0<=(e0.length:Int)/\(e0.length:Int)<=(e0.length:Int)/\(32*(e0.length:Int))<=140737488355328/\(e0.length:Int)<=9223372036854775807)
 /\ yw Q N a0 e0 c0 ((e0.length:Int)).toNat ((e0.length:Int)).toNat 0 (List.replicate ((e0.length:Int)).toNat (D.ag [D.lit (.int .i64 0),D.sl
 Option.none 2 [] 0])) ((e0.length:Int)).toNat N):ACalls prog 110 [.sl 2] [PV.sv a0 2 e0 c0] N Q:=
  eE (H:=u4) (by kernel_rfl) (by kernel_rfl) h
theorem zBt (N:Nat) (x0:D) (Q:QT [.ag 9]) (h :
Bel N x0->∃ n:Int,(x0.cell 0)=D.lit (.int .i64 n)/\∃ s,(x0.cell 1)=D.lit (.string s)/\∃ b,(x0.cell 2)=D.lit (.string b)/\∃ d:Int,(x0.cell
 3)=D.lit (.int .i64 d)/\∀ e,N<=e->ACalls prog 48 [.ag 2] [.dg 2 (D.sub x0 4 2)] e (fun x f=>e<=f->Bel f x->∀ e,f<=e->ACalls prog
 48 [.ag 2] [.dg 2 (D.sub x0 6 2)] e (fun f g=>e<=g->Bel g f->∃ a e,∃ c:Nat,(x0.cell 8)=D.sl a 9 e c/\∀ h,g<=h->ACalls prog 49
 [.sl 9] [.sv a 9 e c] h (fun a c e g=>h<=g->Bel g (D.sl a 9 c e)->∀ h,g<=h->Q (D.ag [D.lit (.int .i64 n),D.lit (.string s),
 D.lit (.string b),D.lit (.int .i64 d),(x.cell 0),(x.cell 1),(f.cell 0),(f.cell 1),D.sl a 9 c e]) h)))):ACalls prog 10 [.ag 9] [PV.dg 9 x0] N Q:=
  eE (H:=zBu) (by kernel_rfl) (by kernel_rfl) h
theorem p5 (N:Nat) (a0:Option Addr) (e0:List D) (c0:Nat) (Q:QT [.sl 9]) (h :
Bel N (D.sl a0 9 e0 c0)->(0<=(e0.length:Int)/\(e0.length:Int)<=(e0.length:Int)/\(136*(e0.length:Int))<=140737488355328/\(e0.length:Int)<=9223372036854775807)
 /\ ym Q N a0 e0 c0 ((e0.length:Int)).toNat ((e0.length:Int)).toNat 0 (List.replicate ((e0.length:Int)).toNat (D.ag [D.lit (.int .i64 0),D.lit
 (.string (bytes [])),D.lit (.string (bytes [])),D.lit (.int .i64 0),D.lit (.int .i64 0),D.sl Option.none 2 [] 0,D.lit (.int .i64 0),D.sl Option.none 2 [] 0,
 D.sl Option.none 9 [] 0])) ((e0.length:Int)).toNat N):ACalls prog 49 [.sl 9] [PV.sv a0 9 e0 c0] N Q:=
  eE (H:=tG) (by kernel_rfl) (by kernel_rfl) h
theorem vS (Q:QT [.sl 2]) (N0:Nat) (a0:Option Addr) (e0:List D) (c0 m3 c3:Nat) (n4:Int) (r0:List D) (q0:Nat) (N:Nat) (h :
Br (decide (n4<(e0.length:Int))) ((0<=n4/\n4<(e0.length:Int))/\∀ a,N<=a->ACalls prog 48 [.ag 2] [.dg 2 (List.getD e0 n4.toNat default)] a (fun
 x b=>a<=b->Bel b x->(0<=n4/\n4<(m3:Int)/\(0+n4.toNat:Nat)<r0.length)/\(0+n4.toNat:Nat)<r0.length/\yw Q N0 a0 e0 c0
 m3 c3 (IntKind.i64.wrap (n4+1)) (List.set r0 (0+n4.toNat:Nat) x) q0 b)) ((m3=r0.length/\c3=q0)/\(m3=r0.length/\c3=q0)/\(m3=r0.length/\c3 =
 q0)/\∀ a b,N<=b->Fresh N0 b a [D.ag r0]->∀ c,b<=c->Q a r0 q0 c)):yw Q N0 a0 e0 c0 m3 c3 n4 r0 q0 N:=
  hE (H:=u4) (by kernel_rfl) h
theorem va (Q:QT [.sl 9]) (N0:Nat) (a0:Option Addr) (e0:List D) (c0 m3 c3:Nat) (n4:Int) (r0:List D) (q0:Nat) (N:Nat) (h :
Br (decide (n4<(e0.length:Int))) ((0<=n4/\n4<(e0.length:Int))/\∀ a,N<=a->ACalls prog 10 [.ag 9] [.dg 9 (List.getD e0 n4.toNat default)] a (fun
 x b=>a<=b->Bel b x->(0<=n4/\n4<(m3:Int)/\(0+n4.toNat:Nat)<r0.length)/\(0+n4.toNat:Nat)<r0.length/\ym Q N0 a0 e0 c0
 m3 c3 (IntKind.i64.wrap (n4+1)) (List.set r0 (0+n4.toNat:Nat) x) q0 b)) ((m3=r0.length/\c3=q0)/\(m3=r0.length/\c3=q0)/\(m3=r0.length/\c3 =
 q0)/\∀ a b,N<=b->Fresh N0 b a [D.ag r0]->∀ c,b<=c->Q a r0 q0 c)):ym Q N0 a0 e0 c0 m3 c3 n4 r0 q0 N:=
  hE (H:=tG) (by kernel_rfl) h
end Go.Proofs.YtmfjakahanbnlaaGreatDoor
set_option maxRecDepth 100000
namespace Go.Proofs.YtmfjakahanbnlaaGreatDoor
open Go Go.Proofs Go.Proofs.Tryz
def zBd:Hint:=⟨[],[],[]⟩
def tB:Hint:=⟨[hc 4 [0,1,5]],[],[(6,[en 0,en 1,en 2,en 3,en 4,en 5,en 6,en 7,ec 8 [20,24],en 9])]⟩
def zA7:Hint:=⟨[],[],[(9,hs 6 [ec 4 [26,28]]),(11,hs 6 [ec 4 [32,34]])]⟩
def tC:Hint:=⟨[hc 4 [0,1,5]],[],[(6,[en 0,en 1,en 2,en 3,en 4,en 5,en 6,en 7,ec 8 [20,24],en 9])]⟩
def yu (Q:QT [.bool]) (N0:Nat) (a0:Option Addr) (e0:List D) (c0:Nat) (a1:Option Addr) (e1:List D) (c1:Nat) (n5:Int) (N:Nat):Prop:=AT prog 118 [.bool] Q N0 .ord (zF prog 118 4) ⟨.sv a0 2 e0 c0::.sv a1 2 e1 c1::an 3 (.int .i64 n5::an 21 []),[],N,none⟩
def yq (Q:QT [.bool]) (N0:Nat) (a0:Option Addr) (e0:List D) (c0:Nat) (a1:Option Addr) (e1:List D) (c1:Nat) (n5:Int) (N:Nat):Prop:=AT prog 54 [.bool] Q N0 .ord (zF prog 54 4) ⟨.sv a0 9 e0 c0::.sv a1 9 e1 c1::an 3 (.int .i64 n5::an 21 []),[],N,none⟩
theorem zBQ (N:Nat) (x0 x1:D) (Q:QT [.bool]) (h :
Bel N x0->Bel N x1->∃ n:Int,(x0.cell 0)=D.lit (.int .i64 n)/\∃ d:Int,(x1.cell 0)=D.lit (.int .i64 d)/\Br (bne n d) (∀ a,N<=a->Q false
 a) (∃ a d,∃ c:Nat,(x0.cell 1)=D.sl a 2 d c/\∃ e f,∃ g:Nat,(x1.cell 1)=D.sl e 2 f g/\∀ h,N<=h->ACalls prog 118 [.bool] [.sv
 a 2 d c,.sv e 2 f g] h (fun b a=>h<=a->Br (!b) (∀ b,a<=b->Q false b) (∀ b,a<=b->Q true b)))):ACalls prog 53 [.bool] [PV.dg 2 x0,PV.dg 2 x1] N Q:=
  eE (H:=zBd) (by kernel_rfl) (by kernel_rfl) h
theorem p9 (N:Nat) (a0:Option Addr) (e0:List D) (c0:Nat) (a1:Option Addr) (e1:List D) (c1:Nat) (Q:QT [.bool]) (h :
Bel N (D.sl a0 2 e0 c0)->Bel N (D.sl a1 2 e1 c1)->Br (bne (e0.length:Int) (e1.length:Int)) (∀ a,N<=a->Q false a) (yu Q N a0 e0 c0 a1
 e1 c1 0 N)):ACalls prog 118 [.bool] [PV.sv a0 2 e0 c0,PV.sv a1 2 e1 c1] N Q:=
  eE (H:=tB) (by kernel_rfl) (by kernel_rfl) h
theorem zB2 (N:Nat) (x0 x1:D) (Q:QT [.bool]) (h :
Bel N x0->Bel N x1->∃ n:Int,(x0.cell 0)=D.lit (.int .i64 n)/\∃ d:Int,(x1.cell 0)=D.lit (.int .i64 d)/\Br (bne n d) (∀ a,N<=a->Q false
 a) (∃ s,(x0.cell 1)=D.lit (.string s)/\∃ d,(x1.cell 1)=D.lit (.string d)/\Br (!(ByteArray.toList s==ByteArray.toList d)) (∀ a,N<=a->Q false
 a) (∃ d,(x0.cell 2)=D.lit (.string d)/\∃ e,(x1.cell 2)=D.lit (.string e)/\Br (!(ByteArray.toList d==ByteArray.toList e)) (∀ a,N<=a
 -> Q false a) (∃ d:Int,(x0.cell 3)=D.lit (.int .i64 d)/\∃ e:Int,(x1.cell 3)=D.lit (.int .i64 e)/\Br (bne d e) (∀ a,N<=a->Q false
 a) (∀ d,N<=d->ACalls prog 53 [.bool] [.dg 2 (D.sub x0 4 2),.dg 2 (D.sub x1 4 2)] d (fun b e=>d<=e->Br (!b) (∀ a,e<=a->Q false a)
 (∀ b,e<=b->ACalls prog 53 [.bool] [.dg 2 (D.sub x0 6 2),.dg 2 (D.sub x1 6 2)] b (fun d e=>b<=e->Br (!d) (∀ a,e<=a->Q false a)
 (∃ a b,∃ c:Nat,(x0.cell 8)=D.sl a 9 b c/\∃ d f,∃ g:Nat,(x1.cell 8)=D.sl d 9 f g/\∀ h,e<=h->ACalls prog 54 [.bool] [.sv a
 9 b c,.sv d 9 f g] h (fun a b=>h<=b->Br (!a) (∀ a,b<=a->Q false a) (∀ a,b<=a->Q true a))))))))))):ACalls prog 12 [.bool] [PV.dg 9 x0,PV.dg 9 x1] N Q:=
  eE (H:=zA7) (by kernel_rfl) (by kernel_rfl) h
theorem zAE (N:Nat) (a0:Option Addr) (e0:List D) (c0:Nat) (a1:Option Addr) (e1:List D) (c1:Nat) (Q:QT [.bool]) (h :
Bel N (D.sl a0 9 e0 c0)->Bel N (D.sl a1 9 e1 c1)->Br (bne (e0.length:Int) (e1.length:Int)) (∀ a,N<=a->Q false a) (yq Q N a0 e0 c0 a1
 e1 c1 0 N)):ACalls prog 54 [.bool] [PV.sv a0 9 e0 c0,PV.sv a1 9 e1 c1] N Q:=
  eE (H:=tC) (by kernel_rfl) (by kernel_rfl) h
theorem vY (Q:QT [.bool]) (N0:Nat) (a0:Option Addr) (e0:List D) (c0:Nat) (a1:Option Addr) (e1:List D) (c1:Nat) (n5:Int) (N:Nat) (h :
Br (decide (n5<(e0.length:Int))) ((0<=n5/\n5<(e0.length:Int))/\(0<=n5/\n5<(e1.length:Int))/\∀ a,N<=a->ACalls prog 53 [.bool] [.dg 2 (List.getD
 e0 n5.toNat default),.dg 2 (List.getD e1 n5.toNat default)] a (fun b c=>a<=c->Br (!b) (∀ a,c<=a->Q false a) (yu Q N0 a0 e0
 c0 a1 e1 c1 (IntKind.i64.wrap (n5+1)) c))) (∀ a,N<=a->Q true a)):yu Q N0 a0 e0 c0 a1 e1 c1 n5 N:=
  hE (H:=tB) (by kernel_rfl) h
theorem vV (Q:QT [.bool]) (N0:Nat) (a0:Option Addr) (e0:List D) (c0:Nat) (a1:Option Addr) (e1:List D) (c1:Nat) (n5:Int) (N:Nat) (h :
Br (decide (n5<(e0.length:Int))) ((0<=n5/\n5<(e0.length:Int))/\(0<=n5/\n5<(e1.length:Int))/\∀ a,N<=a->ACalls prog 12 [.bool] [.dg 9 (List.getD
 e0 n5.toNat default),.dg 9 (List.getD e1 n5.toNat default)] a (fun b c=>a<=c->Br (!b) (∀ a,c<=a->Q false a) (yq Q N0 a0 e0
 c0 a1 e1 c1 (IntKind.i64.wrap (n5+1)) c))) (∀ a,N<=a->Q true a)):yq Q N0 a0 e0 c0 a1 e1 c1 n5 N:=
  hE (H:=tC) (by kernel_rfl) h
end Go.Proofs.YtmfjakahanbnlaaGreatDoor
