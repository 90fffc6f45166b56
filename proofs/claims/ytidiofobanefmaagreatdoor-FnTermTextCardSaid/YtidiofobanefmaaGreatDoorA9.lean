/- Texts of types and terms: what they are, and how long (no program in sight). -/
import Derived.Test.YtidiofobanefmaaGreatDoorA5
import Derived.Test.YtidiofobanefmaaGreatDoorKa
import Derived.Shelf.Strings.OnBuilder
set_option linter.unusedVariables false
set_option linter.unusedSimpArgs false
set_option maxRecDepth 100000
namespace Go.Proofs.YtidiofobanefmaaGreatDoor
open Go Go.Proofs Go.Proofs.Tryz Go.IntWalk
def uH (b:ByteArray):List ByteArray->ByteArray
 | []=>bytes []
 | s::l=>b++s++uH b l
def xt (b:ByteArray):List ByteArray->ByteArray
 | []=>bytes []
 | s::l=>s++uH b l
mutual
def Ap:Ty->ByteArray
 | .mk k l=>if k=1 then bytes [73]else if k=2 then bytes [66]else if k=3 then bytes [40]++(KN l).getD 0 (bytes [])++bytes [62]++(KN l).getD 1 (bytes [])++bytes [41]else bytes [60]++(KN l).getD 0 (bytes [])++bytes [62]
def KN:List Ty->List ByteArray
 | []=>[]
 | t::l=>Ap t::KN l
end
def wG (k:Int)(nm ot:ByteArray)(n:Int)(ty re:Ty)(ws:List ByteArray):ByteArray:=
 if k=1 then nm else if k=2 then JW n.toNat else if k=3 then bytes [35]++bytes [if n=0 then 102 else 116]
 else if k=4 then(if ws.length=1 then bytes [40,33]++ws.getD 0 (bytes [])++bytes [41]else bytes [40]++ws.getD 0 (bytes [])++nm++ws.getD 1 (bytes [])++bytes [41])
 else if k=5 then bytes [40,105,102,32]++xt (bytes [32]) ws++bytes [41]
 else if k=6 then bytes [40,92]++nm++bytes [58]++Ap ty++bytes [46]++ws.getD 0 (bytes [])++bytes [41]
 else if k=7 then bytes [40]++xt (bytes [32]) ws++bytes [41]
 else if k=8 then bytes [40,108,101,116,32]++nm++bytes [61]++xt (bytes [32]) ws++bytes [41]
 else if k=9 then bytes [40,114,101,99,32]++nm++bytes [32]++ot++bytes [58]++Ap ty++bytes [62]++Ap re++bytes [46]++ws.getD 0 (bytes [])++bytes [41]
 else if k=10 then bytes [60]++ws.getD 0 (bytes [])++bytes [62]
 else if k=11 then bytes [126]++ws.getD 0 (bytes [])
 else if k=12 then bytes [40,114,117,110,32]++ws.getD 0 (bytes [])++bytes [41]
 else bytes [40,108,105,102,116,32]++ws.getD 0 (bytes [])++bytes [41]
section
variable (nm ot:ByteArray) (n:Int) (ty re:Ty) (ws:List ByteArray)
theorem Lh:wG 1 nm ot n ty re ws=nm:=rfl
theorem Li:wG 2 nm ot n ty re ws=JW n.toNat:=rfl
theorem Lj:wG 3 nm ot n ty re ws=bytes [35]++bytes [if n=0 then 102 else 116]:=rfl
theorem Jx:wG 4 nm ot n ty re ws=if ws.length=1 then bytes [40,33]++ws.getD 0 (bytes [])++bytes [41]else bytes [40]++ws.getD 0 (bytes [])++nm++ws.getD 1 (bytes [])++bytes [41]:=rfl
theorem Lk:wG 5 nm ot n ty re ws=bytes [40,105,102,32]++xt (bytes [32]) ws++bytes [41]:=rfl
theorem Ll:wG 6 nm ot n ty re ws=bytes [40,92]++nm++bytes [58]++Ap ty++bytes [46]++ws.getD 0 (bytes [])++bytes [41]:=rfl
theorem Lm:wG 7 nm ot n ty re ws=bytes [40]++xt (bytes [32]) ws++bytes [41]:=rfl
theorem Ln:wG 8 nm ot n ty re ws=bytes [40,108,101,116,32]++nm++bytes [61]++xt (bytes [32]) ws++bytes [41]:=rfl
theorem Lo:wG 9 nm ot n ty re ws=bytes [40,114,101,99,32]++nm++bytes [32]++ot++bytes [58]++Ap ty++bytes [62]++Ap re++bytes [46]++ws.getD 0 (bytes [])++bytes [41]:=rfl
theorem E2:wG 10 nm ot n ty re ws=bytes [60]++ws.getD 0 (bytes [])++bytes [62]:=rfl
theorem E3:wG 11 nm ot n ty re ws=bytes [126]++ws.getD 0 (bytes []):=rfl
theorem E4:wG 12 nm ot n ty re ws=bytes [40,114,117,110,32]++ws.getD 0 (bytes [])++bytes [41]:=rfl
theorem E5:wG 13 nm ot n ty re ws=bytes [40,108,105,102,116,32]++ws.getD 0 (bytes [])++bytes [41]:=rfl
end
mutual
def Tm.tx:Tm->ByteArray
 | .mk k nm ot n ty re l=>wG k nm ot n ty re (txs l)
def txs:List Tm->List ByteArray
 | []=>[]
 | t::l=>t.tx::txs l
end
theorem FO:∀ l:List Tm,(txs l).length=l.length
 | []=>rfl
 | x::l=>by simp[txs,FO l]
def tot:List ByteArray->Nat
 | []=>0
 | s::l=>s.size+1+tot l
theorem Ao:∀ l:List ByteArray,l.length<=tot l
 | []=>by simp[tot]
 | x::l=>by have:=Ao l;simp only[tot,oN];omega
theorem Bh (b:ByteArray)(hb:b.size<=1):∀ l:List ByteArray,(uH b l).size<=tot l
 | []=>by simp[uH,tot];rfl
 | x::l=>by have:=Bh b hb l;simp only[uH,tot,oD];omega
theorem uw (b:ByteArray)(hb:b.size<=1):∀ l:List ByteArray,(xt b l).size<=tot l
 | []=>by simp[xt,tot];rfl
 | x::l=>by have:=Bh b hb l;simp only[xt,tot,oD];omega
theorem NZ:(bytes []).size=0:=rfl
theorem b1 (a:Nat):(bytes [a]).size=1:=rfl
theorem b2 (a b:Nat):(bytes [a,b]).size=2:=rfl
theorem b4 (a b c d:Nat):(bytes [a,b,c,d]).size=4:=rfl
theorem b5 (a b c d e:Nat):(bytes [a,b,c,d,e]).size=5:=rfl
theorem b6 (a b c d e f:Nat):(bytes [a,b,c,d,e,f]).size=6:=rfl
theorem L2:∀ t:Ty,t.form=true->Wf t:=by
 refine Ty.ind λk l ih h=>?_;simp only[Ty.form,oL]at h;obtain⟨J,O⟩:=h;have sub:∀ t∈l,Wf t:=λt ht=>ih t ht (by
  have key:∀ l:List Ty,w8 l=true->∀ t∈l,t.form=true:=by
   intro l
   induction l with
   | nil=>intro _ t ht;simp at ht
   | cons x l U=>
     intro h t ht;simp only[w8,oL]at h;rcases oG.1 ht with rfl | ht
     ·exact h.1
     ·exact U h.2 t ht
  exact key l (by first | exact J | exact O) t ht)
 have I:BJ k l.length=true:=by first | exact J | exact O
 unfold BJ at I;split at I
 ·rename_i V;have:l=[]:=oV (by have:=mH.1 I;omega);subst this;rcases V with rfl | rfl
  ·exact .int
  ·exact .bool
 split at I
 ·rename_i Y;subst Y;have O:l.length=2:=by have:=mH.1 I;omega
  match l,O,sub with
  | [a,b],_,sub=>exact .fn (sub a (by simp)) (sub b (by simp))
 split at I
 ·rename_i Z;subst Z;have J:l.length=1:=by have:=mH.1 I;omega
  match l,J,sub with
  | [a],_,sub=>exact .code (sub a (by simp))
 ·cases I
theorem zk {t:Ty}(h:t.valid=true):Wf t/\t.cnt<=30:=by refine⟨L2 t ?_,Ty.valid_cnt h⟩;simp only[Ty.valid,oL]at h;exact h.2
theorem Aq (a b:Ty):Ap (B5 a b)=bytes [40]++Ap a++bytes [62]++Ap b++bytes [41]:=rfl
theorem uh (a:Ty):Ap (vK a)=bytes [60]++Ap a++bytes [62]:=rfl
theorem zn {t:Ty}(I:Wf t):(Ap t).size<=3*t.cnt:=by
 induction I with
 | int=>decide
 | bool=>decide
 | @fn u v _ _ J O=>have:(B5 u v).cnt=1+(u.cnt+(v.cnt+0)):=rfl;rw[Aq];simp only[oD,b1];omega
 | @code u _ J=>have:(vK u).cnt=1+(u.cnt+0):=rfl;rw[uh];simp only[oD,b1];omega
theorem AN {s:ByteArray}(h:xf s=true):s.size<=4:=by
 simp only[xf,qh,oL]at h
 have:=(vS.1 h.2.1).2
 omega
theorem ID {s:ByteArray}(h:rW s>0):s.size<=4:=by
 unfold rW at h
 (repeat' split at h)<;>first | (rename_i e;rw[e];decide) | (exfalso;revert h;decide)
theorem Gn {k:Int}{nm ot:ByteArray}(h:yT k nm ot=true):nm.size<=4/\ot.size<=4:=by
 unfold yT at h
 (repeat' split at h)<;>simp only[oL,oc,o6,nR]at h
 ·exact⟨ID h.1,by rw[h.2];decide⟩
 ·exact⟨AN h.1,by rw[h.2];decide⟩
 ·exact⟨AN h.1,AN h.2.1⟩
 ·rw[h.1,h.2];decide
structure NodeS (k:Int) (nm ot:ByteArray) (n:Int) (ty re:Ty) (l:List Tm):Prop extends Node k nm ot n ty re l where
 n4:nm.size<=4
 o4:ot.size<=4
 num:k=2->0<=n/\n<=10006
 bit:k=3->n=0\/n=1
 one:k=6\/k=9\/k=10\/k=11\/k=12\/k=13->l.length=1
 op:k=4->l.length=1\/l.length=2
 kind:k=1\/k=2\/k=3\/k=4\/k=5\/k=6\/k=7\/k=8\/k=9\/k=10\/k=11\/k=12\/k=13
theorem Ey {k:Int}{nm ot:ByteArray}{n:Int}{ty re:Ty}{l:List Tm}(h:(Tm.mk k nm ot n ty re l).ok=true):NodeS k nm ot n ty re l:=by
 have nd:=Lg h;have f:=nd.f;simp only[zw,oL]at f;obtain⟨n4,o4⟩:=Gn f.2.2.2.2.2;have O:=vS.1 f.2.2.2.2.1;have I:=nd.ar;refine { toNode:=nd,n4:=n4,o4:=o4,num:=λJ=>?_,bit:=λJ=>?_,one:=λJ=>?_,op:=λJ=>?_,kind:=HI (nm:=nm) (by omega) }
 ·rw[if_pos J]at O;exact O
 ·rw[if_neg (by omega),if_pos J]at O;omega
 ·unfold DK at I;rw[if_neg (by omega),if_neg (by omega),if_pos (by omega)]at I;omega
 ·subst J;have I:(l.length:Int)=rW nm:=I;have h:=f.2.2.2.2.2;simp only[yT]at h;rw[if_pos trivial]at h;simp only[oL,oc]at h
  have:=h.1
  have U:rW nm=1\/rW nm=2:=by
   revert this;unfold rW
   (repeat' split)<;>simp
  omega
theorem uG (ws:List ByteArray)(i:Nat):(ws.getD i (bytes [])).size<=tot ws:=by
 induction ws generalizing i with
 | nil=>simp only[List.getD_nil,NZ,tot];omega
 | cons x l I=>
   cases i with
   | zero=>simp only[List.getD_cons_zero,tot];omega
   | succ i=>have:=I i;simp only[List.getD_cons_succ,tot];omega
theorem Cs (ws:List ByteArray):(ws.getD 0 (bytes [])).size+(ws.getD 1 (bytes [])).size<=tot ws:=by
 cases ws with
 | nil=>simp only[List.getD_nil,NZ,tot];omega
 | cons x l=>have:=uG l 0;simp only[List.getD_cons_zero,List.getD_cons_succ,tot];omega
theorem Ez {k:Int}{nm ot:ByteArray}{n:Int}{ty re:Ty}{l:List Tm}(nd:NodeS k nm ot n ty re l)(ws:List ByteArray):(wG k nm ot n ty re ws).size<=tot ws+300:=by
 have O:=nd.n4;have U:=nd.o4;have g0:=uG ws 0;have V:=Cs ws;have Y:=uw (bytes [32]) (by decide) ws;have I:k=6\/k=9->(Ap ty).size<=90:=λh=>by have:=zk (nd.vt h);have:=zn this.1;omega
 have J:k=9->(Ap re).size<=90:=λh=>by have:=zk (nd.vr h);have:=zn this.1;omega
 have hd:k=2->(JW n.toNat).size<=20:=λh=>by have:=nd.num h;rw[Hk];exact IA _ (by omega)
 rcases nd.kind with rfl | rfl | rfl | rfl | rfl | rfl | rfl | rfl | rfl | rfl | rfl | rfl | rfl
 ·rw[Lh];omega
 ·rw[Li];have:=hd rfl;omega
 ·rw[Lj];simp only[oD,b1];omega
 ·rw[Jx];split<;>simp only[oD,b1,b2]<;>omega
 ·rw[Lk];simp only[oD,b1,b4];omega
 ·rw[Ll];have:=I (.inl rfl);simp only[oD,b1,b2];omega
 ·rw[Lm];simp only[oD,b1];omega
 ·rw[Ln];simp only[oD,b1,b5];omega
 ·rw[Lo];have:=I (.inr rfl);have:=J rfl;simp only[oD,b1,b5];omega
 ·rw[E2];simp only[oD,b1];omega
 ·rw[E3];simp only[oD,b1];omega
 ·rw[E4];simp only[oD,b1,b5];omega
 ·rw[E5];simp only[oD,b1,b6];omega
theorem Al:∀ {l:List Tm}{t:Tm},t∈l->t.sz<=wJ l
 | x::l,t,h=>by
   simp only[wJ];rcases oG.1 h with rfl | h
   ·omega
   ·have:=Al h;omega
theorem Ix:∀ t:Tm,t.ok=true->t.tx.size+1<=500*t.sz:=by
 refine Tm.ind λk nm ot n ty re l J O=>?_;have nd:=Ey O;have key:∀ l:List Tm,(∀ t∈l,t.tx.size+1<=500*t.sz)->tot (txs l)<=500*wJ l:=by
  intro l
  induction l with
  | nil=>intro _;simp[txs,tot,wJ]
  | cons x l J=>intro h;have V:=h x (by simp);have U:=J λt I=>h t (by simp[I]);simp only[txs,tot,wJ];omega
 have h:=key l λt I=>J t I (nd.sub t I);have U:=Ez nd (txs l);simp only[Tm.tx,Tm.sz];omega
theorem EC {l:List Tm}(h:∀ t∈l,t.ok=true):tot (txs l)<=500*wJ l:=by
 induction l with
 | nil=>simp[txs,tot,wJ]
 | cons x l I=>have O:=Ix x (h x (by simp));have U:=I λt J=>h t (by simp[J]);simp only[txs,tot,wJ];omega
def Ly (t:Tm):ByteArray:=if t.ok=true then t.tx else bytes []
end Go.Proofs.YtidiofobanefmaaGreatDoor
namespace Go.Proofs
namespace YtidiofobanefmaaGreatDoor
open Go Go.Proofs Go.Proofs.Tryz Go.RowKit Go.Shelf
def Ml:Go.Shelf.Ren:=⟨λx=>match x with | 156=>76 | 165=>107 | 166=>108 | 169=>109 | 240=>134 | 241=>135 | 276=>151 | 277=>152 | n=>n,λx=>match x with | 0=>0 | 3=>3 | 4=>4 | 5=>5 | 9=>9 | 20=>20 | 31=>51 | 37=>22 | 70=>111 | 72=>113 | 75=>116 | 76=>117 | 80=>40 | 127=>139 | 164=>156 | n=>n,λn=>n⟩
theorem LY:Lays.n156 Tryz.prog Ml where
 mixed:=by kernel_rfl
 f156:=Tryz.func76.trans (oT some (by kernel_rfl))
 f165:=Tryz.func107.trans (oT some (by kernel_rfl))
 f166:=Tryz.func108.trans (oT some (by kernel_rfl))
 f169:=Tryz.func109.trans (oT some (by kernel_rfl))
 f240:=Tryz.func134.trans (oT some (by kernel_rfl))
 f241:=Tryz.func135.trans (oT some (by kernel_rfl))
 f276:=Tryz.func151.trans (oT some (by kernel_rfl))
 f277:=Tryz.func152.trans (oT some (by kernel_rfl))
 t0:=Tryz.underlying0
 a0:=Tryz.isAgg0
 z0:=Tryz.sizeOf0
 v0:=Tryz.zeroValue0
 t3:=Tryz.underlying3
 a3:=Tryz.isAgg3
 z3:=Tryz.sizeOf3
 v3:=Tryz.zeroValue3
 t4:=Tryz.underlying4
 a4:=Tryz.isAgg4
 z4:=Tryz.sizeOf4
 v4:=Tryz.zeroValue4
 t9:=Tryz.underlying9
 a9:=Tryz.isAgg9
 z9:=Tryz.sizeOf9
 v9:=Tryz.zeroValue9
 t20:=Tryz.underlying20
 a20:=Tryz.isAgg20
 z20:=Tryz.sizeOf20
 v20:=Tryz.zeroValue20
 t31:=Tryz.underlying51
 a31:=Tryz.isAgg51
 z31:=Tryz.sizeOf51
 v31:=Tryz.zeroValue51
 t37:=Tryz.underlying22
 a37:=Tryz.isAgg22
 z37:=Tryz.sizeOf22
 v37:=Tryz.zeroValue22
 t70:=Tryz.underlying111
 a70:=Tryz.isAgg111
 z70:=Tryz.sizeOf111
 v70:=Tryz.zeroValue111
 t72:=Tryz.underlying113
 a72:=Tryz.isAgg113
 z72:=Tryz.sizeOf113
 v72:=Tryz.zeroValue113
 t75:=Tryz.underlying116
 a75:=Tryz.isAgg116
 z75:=Tryz.sizeOf116
 v75:=Tryz.zeroValue116
 t76:=Tryz.underlying117
 a76:=Tryz.isAgg117
 z76:=Tryz.sizeOf117
 v76:=Tryz.zeroValue117
 t127:=Tryz.underlying139
 a127:=Tryz.isAgg139
 z127:=Tryz.sizeOf139
 v127:=Tryz.zeroValue139
 t164:=Tryz.underlying156
 a164:=Tryz.isAgg156
 z164:=Tryz.sizeOf156
 v164:=Tryz.zeroValue156
theorem LZ:Builder.Extra Tryz.prog Ml where
 sizeBuilder:=by kernel_rfl
 liesBuilder:=by kernel_rfl
 t5:=Tryz.underlying5
 a5:=Tryz.isAgg5
 z5:=Tryz.sizeOf5
 v5:=Tryz.zeroValue5
 infoByte:=by kernel_rfl
 cellsByte:=by kernel_rfl
 sizeByte:=by kernel_rfl
 neB5:=by decide
theorem AD (b:ByteArray):∀ l:List ByteArray,(uH b l).data.toList=Lib.joinTail b.data.toList (l.map (·.data.toList))
 | []=>rfl
 | s::l=>by simp only[uH,zK,AD b l,Lib.joinTail,o7,List.flatten_cons]
theorem AC (b:ByteArray)(l:List ByteArray):(xt b l).data.toList=Lib.join (l.map (·.data.toList)) b.data.toList:=by
 cases l with
 | nil=>rfl
 | cons s l=>simp only[xt,zK,AD,o7,Lib.join_cons]
theorem Er (l:List ByteArray):zg (zD l)=zD l:=by
 induction l with
 | nil=>rfl
 | cons s l I=>simp only[zD,o7,xr,D.cells]at I ⊢;rw[I];rfl
theorem FM {u:ByteArray}{N:Nat}{Q:QT [.str]}{av:Nat->Prop}{w0 w:World}(hN:w0.heap.size=N)(O:∀ N',N<=N'->Q u N')(I:Below w0.heap.size w0 w):Fin [.str] Q av w0 (.returned (.string u)) w:=
 ⟨[.str u],[],[],{ q:=O _ (by have:=I.size;omega),v:=rfl,m:=⟨rfl,by simp,by simp,by simp,λk j b h=>by obtain⟨_,U,_⟩:=h;simp[Env.at]at U⟩,ok:=λp J=>by simp at J;subst J;trivial,fresh:=λk b h=>by simp[Env.at]at h,size:=I.size,old:=I.block,fz:=λ_ _ _ _ _ _=>trivial,ku:=⟨I.os,I.output⟩ }⟩
theorem BH (ws:List ByteArray)(by_:ByteArray)(aa:by_.size<=1)(h:tot ws<=140737488355328)(a:Option Addr)(c:Nat):wT 76 [.sv a 0 (zD ws) c,.str by_] (xt by_ ws):=λN Q hQ=>
 ⟨by kernel_rfl,λav w0 hN ak U=>by
  have hg:=(U (.sv a 0 (zD ws) c) (by simp)).1;simp only[PV.Ok]at hg;have hH:=hg.1;have hl:=yz ws;have al:=Ao ws;have ab:(Lib.join (ws.map (·.data.toList)) by_.data.toList).length<=140737488355328:=by rw[<-AC,nF];exact o8 (uw by_ aa ws) h
  have he:(⟨(Lib.join (ws.map (·.data.toList)) by_.data.toList).toArray⟩:ByteArray)=xt by_ ws:=ze (by rw[AC]);have hv:([PV.sv a 0 (zD ws) c,.str by_].map (PV.val [])).toArray=#[.slice a ws.length c,.string by_]:=by simp[PV.val,PV.val1,PV.cv,hl]
  rw[hv];have ac:∀ es,es=zD ws->Holds w0 (.sl a 0 es c):=λes h=>h ▸ hH;clear hH;have key:∀ es,es=zD ws->Holds w0 (.sl a 0 es c)->(a=none/\es=[]/\c=0)\/∃ ad,a=some ad/\(es≠[]->ad.spot=none)/\es.length<=c/\Row w0 ad (zg es):=λes _ h=>by
   cases h with
   | nil=>exact .inl ⟨rfl,rfl,rfl⟩
   | sl J V _ _ h3=>exact .inr ⟨_,rfl,J,V,h3⟩
  rcases key _ rfl (ac _ rfl)with⟨rfl,ae,rfl⟩ | ⟨ad,rfl,hs,hc,I⟩
  ·have ah:ws=[]:=mP.1 (by rw[<-hl,ae];rfl);subst ah;refine(Any.strings_Join_none LY LZ none 0 by_ w0).mono λe w ⟨J,V⟩=>?_;subst J;subst V;exact FM hN hQ (Below.refl _ _)
  ·by_cases Y:ws=[]
   ·subst Y;refine(Any.strings_Join_none LY LZ _ c by_ w0).mono λe w ⟨J,V⟩=>?_;subst J;subst V;exact FM hN hQ (Below.refl _ _)
   have O:zD ws≠[]:=λhc=>Y (mP.1 (by rw[<-hl,hc];rfl));obtain⟨Z,off,sp⟩:=ad;have ai:sp=none:=hs O;subst ai;rw[Er]at I;rcases I with I | ⟨cc,t,fz,J,V⟩
   ·exact absurd I O
   have aj:Z<w0.heap.size:=(oP.1 J).1;refine(Any.strings_Join LY LZ Z off c ws by_ w0 (λj x hj=>?_) aj (by omega) (by rw[<-hl];exact hc) ab).mono λe w ⟨h3,h4⟩=>?_
   ·have hd:(zD ws)[j]?=some (.t x):=by simp[zD,hj]
    rw[w7 J];exact V j _ hd
   ·rw[he]at h3;subst h3;exact FM hN hQ h4⟩
theorem Ef (ws:List ByteArray)(by_:ByteArray)(I:by_.size<=1)(h:tot ws<=140737488355328)(a:Option Addr)(c:Nat):wT 40 [.sv a 0 (zD ws) c,.str by_] (xt by_ ws):=λN Q J=>FR N a _ c by_ Q λ_ N1 O=>BH ws by_ I h a c N1 _ λY U _ N3 V=>J _ (by omega)
end YtidiofobanefmaaGreatDoor
end Go.Proofs
set_option maxRecDepth 100000
namespace Go.Proofs.YtidiofobanefmaaGreatDoor
open Go Go.Proofs Go.Proofs.Tryz Go.IntWalk
theorem CS {t:Ty}(hw:Wf t):t.cnt<=1000000->∀ {d:D},t.Is d->wT 90 [.dg 2 d] (Ap t):=by
 induction hw with
 | int=>intro hc d hd N Q J;obtain⟨b,fs,k,rfl,_,h2⟩:=Ty.is_mk.1 hd;exact wK N _ Q λ_=>⟨1,rfl,Br.beq (λ_ N1 I=>J _ I) λh=>absurd rfl h⟩
 | bool=>intro hc d hd N Q J;obtain⟨b,fs,k,rfl,_,h2⟩:=Ty.is_mk.1 hd;exact wK N _ Q λ_=>⟨2,rfl,Br.beq (λh=>absurd h (by decide)) λ_=>Br.beq (λ_ N1 I=>J _ I) λh=>absurd rfl h⟩
 | @fn u v U hv O V=>
   intro hc d hd N Q J;have Y:(B5 u v).cnt=1+(u.cnt+(v.cnt+0)):=rfl;have s1:=zn U;have s2:=zn hv;obtain⟨b,fs,k,rfl,Z,d1,_,rfl,h3,d2,_,rfl,h4,rfl⟩:=Ty.is_mk.1 hd;refine wK N _ Q λ_=>⟨3,rfl,Br.beq (λh=>absurd h (by decide)) λ_=>Br.beq (λh=>absurd h (by decide)) λ_=>Br.beq (λ_=>⟨_,_,_,rfl,⟨by simp,by simp⟩,_,_,_,rfl,⟨by simp,by simp⟩,λN1 I=>?_⟩) λh=>absurd rfl h⟩
   refine O (by omega) h3 N1 _ λN2 aa _=>⟨by omega,by rw[oD,b1];omega,λN3 ab=>?_⟩
   exact V (by omega) h4 N3 _ λN4 ac _=>⟨by simp only[oD,b1];omega,by simp only[oD,b1];omega,λN5 ae=>Qst (J _ (by omega)) (Aq u v)⟩
 | @code u U O=>
   intro hc d hd N Q J;have Y:(vK u).cnt=1+(u.cnt+0):=rfl;have s1:=zn U;obtain⟨b,fs,k,rfl,Z,d1,_,rfl,h3,rfl⟩:=Ty.is_mk.1 hd;refine wK N _ Q λ_=>⟨4,rfl,Br.beq (λh=>absurd h (by decide)) λ_=>Br.beq (λh=>absurd h (by decide)) λ_=>Br.beq (λh=>absurd h (by decide)) λ_=>⟨_,_,_,rfl,⟨by simp,by simp⟩,λN1 I=>?_⟩⟩
   exact O (by omega) h3 N1 _ λN2 aa _=>⟨by omega,by rw[oD,b1];omega,λN3 ab=>Qst (J _ (by omega)) (uh u)⟩
theorem CQ (l:List Int):∀ b:ByteArray,(l.foldl (λr n=>r.push (UInt8.ofNat n.toNat)) b).data.toList=b.data.toList++l.map λn=>UInt8.ofNat n.toNat:=by
 induction l with
 | nil=>intro b;simp
 | cons x l I=>intro b;simp only[List.foldl_cons,I,ByteArray.data_push,Array.toList_push,o7,oM,List.singleton_append]
theorem DU (s:ByteArray):bytesOf (s.data.toList.map λb=>((b.toNat:Nat):Int))=s:=ze (by
 unfold bytesOf;rw[CQ,nq];show []++_=_;rw[nB]
 conv=>rhs;rw[<-List.map_id s.data.toList]
 refine ou λb _=>?_;simp)
theorem HW (s:ByteArray):zo s=(s.data.toList.map λb=>((b.toNat:Nat):Int)).map (λn=>D.lit (.int .u8 n)):=by simp[zo,nq,Function.comp_def]
theorem rl (s u:ByteArray):zo (s++u)=zo s++zo u:=by simp[zo]
theorem K5 (s:ByteArray):s++bytes []=s:=ze (by rw[zK];exact nh _)
theorem Lf (s:ByteArray):bytes []++s=s:=ze (by rw[zK];rfl)
theorem tg (ws:List ByteArray)(by_:ByteArray)(ab:by_.size<=1)(h:tot ws<=140737488355328)(a:Option Addr)(c:Nat):wT 89 [.sv a 0 (zD ws) c,.str by_] (xt by_ ws):=λN Q hQ=>by
 have ac:=yz ws;have U:=Ao ws;refine FS N a _ c by_ Q λ_=>?_;refine up (A4 ws) (by omega) (λi xs=>∀(I:ByteArray) (r:List D) (q N':Nat),N<=N'->r=zo I->I.size+tot xs<=tot ws->(i=0->I=bytes []/\xs=ws)->(0<i->I++uH by_ xs=xt by_ ws)->xC Q N a (zD ws) c by_ r.length q i r q N') ?_ ?_ (bytes []) [] 0 N (oJ _) rfl (by rw[NZ];omega) (λ_=>⟨rfl,rfl⟩) (λh=>by omega)
 ·intro k U hk I r q N' O V hn Y Z;subst V;refine sd ?_;rw[U];refine⟨oJ _,_,(nT (oJ _)).trans (HW I),λN1 ae=>Qst (hQ _ (by omega)) ?_⟩;rw[DU];by_cases aa:k=0
  ·obtain⟨rfl,rfl⟩:=Y aa;rfl
  ·rw[<-Z (by omega)];exact K5 I
 ·intro k x xs J _ ih I r q N' O V hn Y Z;have hb:=J.b;simp only[tot]at hn;have ah:r.length=I.size:=by rw[V,vD]
  refine sd ?_;rw[J.w,oX];refine Br.of (λ_=>?_) λh=>by rw[J.lt]at h;cases h
  refine Br.dec (λhk=>?_) λhk=>?_
  ·refine⟨⟨rfl,rfl⟩,by unfold zA;rw[oH,vD];omega,λc1=>⟨hb,x,J.r,⟨by trivial,by trivial⟩,by unfold zA;simp only[oH,vD];omega,λc2=>ih (I++by_++x) _ c2 N' O (by rw[V,rl,rl]) (by simp only[oD];omega) (λh=>by omega) λ_=>?_⟩⟩;rw[<-Z (by omega),uH,ml,ml,ml]
  ·refine⟨hb,x,J.r,⟨rfl,rfl⟩,by unfold zA;rw[oH,vD];omega,λc2=>ih (I++x) _ c2 N' O (by rw[V,rl]) (by simp only[oD];omega) (λh=>by omega) λ_=>?_⟩;obtain⟨e1,e2⟩:=Y (by omega);rw[e1,Lf,<-e2];rfl
theorem DM {ws:List ByteArray}{i:Nat}(h:i<ws.length):List.getD (zD ws) i default=D.t (ws.getD i (bytes [])):=by
 have I:ws[i]?=some (ws.getD i (bytes [])):=by rw[oA,oF h];rfl
 unfold zD;rw[oA,oE,I];rfl
theorem HP {n:Int}(h:n=0\/n=1):ByteArray.extract (bytes [102,116]) n.toNat (IntKind.i64.wrap (n+1)).toNat=bytes [if n=0 then 102 else 116]:=by rcases h with rfl | rfl<;>decide +kernel
theorem JN {k n:Int} {nm ot:ByteArray} {ty re:Ty} {l:List Tm} (nd:NodeS k nm ot n ty re l) {t0 t1 r0 r1 x:D} (hh:Tm.Hd nm ot ty re t0 t1 r0 r1) {ws:List ByteArray} (ac:tot ws<=2000000000) (hl:ws.length=l.length) (hk:k≠1/\k≠2/\k≠3/\k≠4/\k≠10/\k≠11) (a:Option Addr) (c:Nat) :
  wT 55 [.dg 9 (.ag [.j k,.t nm,.t ot,.j n,t0,t1,r0,r1,x]),.sv a 0 (zD ws) c] (wG k nm ot n ty re ws):=λN Q U=>by
 have ae:=yz ws;have n4:=nd.n4;have o4:=nd.o4;have g0:=uG ws 0;have gj:=uw (bytes [32]) (by decide) ws;have one:0<ws.length->((0:Int)<=(0:Int)/\0<((zD ws).length:Int)):=λh=>⟨by omega,by omega⟩
 have ne:k=6\/k=9\/k=10\/k=11\/k=12\/k=13->0<ws.length:=λh=>by have:=nd.one h;omega
 refine DE N _ a _ c Q λ_ _=>⟨k,rfl,Br.beq (λh5 N1 I=>?_) λh5=>Br.beq (λh6=>?_) λh6=>Br.beq (λh7 N1 I=>?_) λh7=>Br.beq (λh8=>⟨nm,rfl,by omega,by simp only[oD,b5];omega,λN1 I=>?_⟩) λh8=>Br.beq (λh9=>?_) λh9=>Br.beq (λV=>?_) λV=>?_⟩
 ·subst h5;exact tg ws _ (by decide) (by omega) a c N1 _ λN2 J _=>⟨by omega,by simp only[oD,b4];omega,λN3 O=>Qst (U _ (by omega)) (Lk ..)⟩
 ·subst h6;have Y:=zk (nd.vt (.inl rfl));have aa:=zn Y.1;refine⟨nm,rfl,by omega,by simp only[oD,b2];omega,one (ne (by omega)),_,DM (ne (by omega)),λN1 I=>?_⟩;exact CS Y.1 (by omega) hh.ty N1 _ λN2 J _=>⟨by simp only[oD,b2,b1];omega,by simp only[oD,b2,b1];omega,by simp only[oD,b2,b1];omega,by simp only[oD,b2,b1];omega,λN3 O=>Qst (U _ (by omega)) (Ll ..)⟩
 ·subst h7;exact tg ws _ (by decide) (by omega) a c N1 _ λN2 J _=>⟨by omega,by simp only[oD,b1];omega,λN3 O=>Qst (U _ (by omega)) (Lm ..)⟩
 ·subst h8;exact tg ws _ (by decide) (by omega) a c N1 _ λN2 J _=>⟨by simp only[oD,b5,b1];omega,by simp only[oD,b5,b1];omega,λN3 O=>Qst (U _ (by omega)) (Ln ..)⟩
 ·subst h9;have Y:=zk (nd.vt (.inr rfl));have Z:=zk (nd.vr rfl);have aa:=zn Y.1;have ab:=zn Z.1;refine⟨nm,rfl,by omega,by simp only[oD,b5];omega,ot,rfl,by simp only[oD,b5,b1];omega,by simp only[oD,b5,b1];omega,one (ne (by omega)),_,DM (ne (by omega)),λN1 I=>?_⟩;refine CS Y.1 (by omega) hh.ty N1 _ λN2 J _=>⟨by simp only[oD,b5,b1];omega,by simp only[oD,b5,b1];omega,λN3 O=>?_⟩
  exact CS Z.1 (by omega) hh.re N3 _ λN4 ah _=>⟨by simp only[oD,b5,b1];omega,by simp only[oD,b5,b1];omega,by simp only[oD,b5,b1];omega,by simp only[oD,b5,b1];omega,λN5 ai=>Qst (U _ (by omega)) (Lo ..)⟩
 ·subst V;exact⟨one (ne (by omega)),_,DM (ne (by omega)),by omega,by simp only[oD,b5];omega,λN1 I=>Qst (U _ (by omega)) (E4 ..)⟩
 ·have hc:=nd.kind;obtain rfl:k=13:=by omega
  exact⟨one (ne (by omega)),_,DM (ne (by omega)),by omega,by simp only[oD,b6];omega,λN1 I=>Qst (U _ (by omega)) (E5 ..)⟩
theorem Fa:∀ t:Tm,t.ok=true->t.sz<=4000000->∀ d,t.Is d->wT 22 [.dg 9 d] t.tx:=by
 refine Tm.ind λk nm ot n ty re l ih ae ah d hd N Q O=>?_;obtain⟨t0,t1,r0,r1,a,es,c,rfl,hh,Z,aa⟩:=Tm.is_mk.1 hd;have nd:=Ey ae;have aq:=aa.len;have n4:=nd.n4;have o4:=nd.o4;have hs:(Tm.mk k nm ot n ty re l).sz=1+wJ l:=by simp only[Tm.sz]
 have ao:=EC nd.sub;have U:=FO l;rw[hs]at ah;simp only[Tm.tx]at O;have g0:=uG (txs l) 0;have g1:=Cs (txs l);refine DF N _ Q λ_=>?_;refine up aa Z (λi xs=>∀(ws:List ByteArray) (q N':Nat),N<=N'->ws.length=i->ws++txs xs=txs l->xM Q N (zD ws).length q i _ (zD ws) q N') ?_ ?_ [] 0 N (oJ _) rfl rfl
 ·intro i ai hi ws q N' aj ab he;simp only[txs,nh]at he;subst he;have au:=yz (txs l);have ps:0<(txs l).length->((0:Int)<=(0:Int)/\0<((zD (txs l)).length:Int)/\0<(zD (txs l)).length):=λh=>⟨by omega,by omega,by omega⟩
  refine uV ⟨a,es,c,rfl,Br.of (λh=>by rw[ai]at h;cases h) λ_=>⟨k,rfl,Br.beq (λh1=>⟨nm,rfl,λN1 I=>?_⟩) λh1=>Br.beq (λh2=>⟨n,rfl,λN1 I=>?_⟩) λh2=>Br.beq (λh3=>⟨n,rfl,n,rfl,?_⟩) λh3=>Br.beq (λh4=>?_) λh4=>Br.beq (λV=>?_) λV=>Br.beq (λY=>?_) λY=>⟨⟨rfl,rfl⟩,λa2 _ _ N1 I _=>?_⟩⟩⟩
  ·subst h1;exact Qst (O _ (by omega)) (Lh ..)
  ·subst h2;have hn:=nd.num rfl;obtain⟨u,rfl⟩:=Int.eq_ofNat_of_zero_le hn.1;exact x9 u (by omega) N1 _ λN2 ac _ N3 ak=>Qst (O _ (by omega)) (by rw[Li,oX])
  ·subst h3;have hn:=nd.bit rfl;rw[HP hn,i64_in (n+1) (by omega)];exact⟨⟨by omega,by omega,by omega⟩,by rw[b1];decide,λN1 I=>Qst (O _ (by omega)) (Lj ..)⟩
  ·subst h4;have aw:=nd.op rfl;refine Br.beq (λhw=>?_) λhw=>?_
   ·exact⟨ps (by omega),by omega,_,DM (by omega),by omega,by simp only[oD,b2];omega,λN1 I=>Qst (O _ (by omega)) (by rw[Jx,if_pos (by omega)])⟩
   ·exact⟨ps (by omega),by omega,_,DM (by omega),by omega,nm,rfl,by simp only[oD,b1];omega,⟨by omega,by omega,by omega⟩,by omega,_,DM (by omega),by simp only[oD,b1];omega,by simp only[oD,b1];omega,λN1 I=>Qst (O _ (by omega)) (by rw[Jx,if_neg (by omega)])⟩
  ·subst V
   have:=nd.one (by omega)
   exact⟨ps (by omega),by omega,_,DM (by omega),by omega,by simp only[oD,b1];omega,λN1 I=>Qst (O _ (by omega)) (E2 ..)⟩
  ·subst Y
   have:=nd.one (by omega)
   exact⟨ps (by omega),by omega,_,DM (by omega),by omega,λN1 I=>Qst (O _ (by omega)) (E3 ..)⟩
  ·exact JN nd hh (by omega) U ⟨h1,h2,h3,h4,V,Y⟩ a2 q N1 _ λN2 ac _ N3 ak=>O _ (by omega)
 ·intro i x xs J _ al ws q N' aj ab he;have hb:=J.b;have hx:x.sz<=wJ l:=Al J.m;have ax:=Ao (txs l);refine uV ⟨a,es,c,rfl,Br.of (λ_=>⟨a,es,c,rfl,hb,λN1 I=>?_⟩) λh=>by rw[J.lt]at h;cases h⟩;rw[oX];refine ih x J.m (nd.sub x J.m) (by omega) _ J.r N1 _ λN2 ac _=>⟨⟨rfl,rfl⟩,by unfold zA;rw[oH,yz];simp only[oN,oa];omega,λc2=>?_⟩
  have e:zD ws++[D.t x.tx]=zD (ws++[x.tx]):=by simp[zD]
  rw[e,J.w];exact al (ws++[x.tx]) c2 N2 (by omega) (by simp[ab]) (by rw[<-he];simp[txs])
theorem pq {t:Tm}{d:D}(hd:t.Is d)(hc:t.cnt<=4000000):wT 15 [.dg 9 d] (Ly t):=λN Q J=>A0 N d Q λ_ N1 O=>sR t d hd (by omega) N1 _ λN2 U _=>Br.not (λI N3 V=>Qst (J _ (by omega)) (by rw[Ly,if_neg (by rw[I];decide)])) λI Y Z=>Fa t I (by have:=Tm.sz_cnt t;omega) d hd Y _ λN5 aa _ N6 ab=>Qst (J _ (by omega)) (by rw[Ly,if_pos I])
end Go.Proofs.YtidiofobanefmaaGreatDoor
set_option maxRecDepth 100000
namespace Go.Proofs.YtidiofobanefmaaGreatDoor
open Go Go.Proofs Go.Proofs.Tryz Go.IntWalk
theorem GV {t:Ty}(hw:Wf t):t.cnt<=1000000->∀ {d:D},t.Is d->wT 78 [.dg 2 d] (Ap t):=by
 induction hw with
 | int=>intro hc d hd N Q J;obtain⟨b,fs,k,rfl,_,h2⟩:=Ty.is_mk.1 hd;exact ym N _ Q λ_=>⟨1,rfl,Br.beq (λ_ N1 I=>J _ I) λh=>absurd rfl h⟩
 | bool=>intro hc d hd N Q J;obtain⟨b,fs,k,rfl,_,h2⟩:=Ty.is_mk.1 hd;exact ym N _ Q λ_=>⟨2,rfl,Br.beq (λh=>absurd h (by decide)) λ_=>Br.beq (λ_ N1 I=>J _ I) λh=>absurd rfl h⟩
 | @fn u v U hv O V=>
   intro hc d hd N Q J;have Y:(B5 u v).cnt=1+(u.cnt+(v.cnt+0)):=rfl;have s1:=zn U;have s2:=zn hv;obtain⟨b,fs,k,rfl,Z,d1,_,rfl,h3,d2,_,rfl,h4,rfl⟩:=Ty.is_mk.1 hd;refine ym N _ Q λ_=>⟨3,rfl,Br.beq (λh=>absurd h (by decide)) λ_=>Br.beq (λh=>absurd h (by decide)) λ_=>Br.beq (λ_=>⟨_,_,_,rfl,⟨by simp,by simp⟩,_,_,_,rfl,⟨by simp,by simp⟩,λN1 I=>?_⟩) λh=>absurd rfl h⟩
   refine O (by omega) h3 N1 _ λN2 aa _=>⟨by omega,by rw[oD,b1];omega,λN3 ab=>?_⟩
   exact V (by omega) h4 N3 _ λN4 ac _=>⟨by simp only[oD,b1];omega,by simp only[oD,b1];omega,λN5 ae=>Qst (J _ (by omega)) (Aq u v)⟩
 | @code u U O=>
   intro hc d hd N Q J;have Y:(vK u).cnt=1+(u.cnt+0):=rfl;have s1:=zn U;obtain⟨b,fs,k,rfl,Z,d1,_,rfl,h3,rfl⟩:=Ty.is_mk.1 hd;refine ym N _ Q λ_=>⟨4,rfl,Br.beq (λh=>absurd h (by decide)) λ_=>Br.beq (λh=>absurd h (by decide)) λ_=>Br.beq (λh=>absurd h (by decide)) λ_=>⟨_,_,_,rfl,⟨by simp,by simp⟩,λN1 I=>?_⟩⟩
   exact O (by omega) h3 N1 _ λN2 aa _=>⟨by omega,by rw[oD,b1];omega,λN3 ab=>Qst (J _ (by omega)) (uh u)⟩
theorem uA {t:Ty}(I:t.valid=true){d:D}(hd:t.Is d):wT 41 [.dg 2 d] (Ap t):=λN Q O=>by have h:=zk I;have J:=xO t d hd (by omega);rw[I]at J;exact qP N d Q λ_ N1 U=>J N1 _ λN2 V _=>Br.not (λh=>by cases h) λ_ N3 Y=>GV h.1 (by omega) hd N3 _ λN4 Z _ N5 aa=>O _ (by omega)
theorem KY:∀ t:Tm,t.ok=true->t.sz<=4000000->∀ d,t.Is d->wT 19 [.dg 9 d] t.tx:=by
 refine Tm.ind λk nm ot n ty re l ih ak al d hd N Q J=>?_;obtain⟨t0,t1,r0,r1,a,es,c,rfl,hh,ab,ac⟩:=Tm.is_mk.1 hd;have nd:=Ey ak;have a7:=ac.len;have n4:=nd.n4;have o4:=nd.o4;have hs:(Tm.mk k nm ot n ty re l).sz=1+wJ l:=by simp only[Tm.sz]
 have az:=EC nd.sub;have ao:=FO l;rw[hs]at al;simp only[Tm.tx]at J;have g0:=uG (txs l) 0;have g1:=Cs (txs l);have gj:=uw (bytes [32]) (by decide) (txs l);refine qz N _ Q λ_=>⟨a,es,c,rfl,?_⟩
 refine up ac ab (λi xs=>∀(ws:List ByteArray) (q N':Nat),N<=N'->ws.length=i->ws++txs xs=txs l->yG Q N (zD ws).length q a es c (es.length:Int) i _ (zD ws) q N') ?_ ?_ [] 0 N (oJ _) rfl rfl
 ·intro i aq hi ws q N' au ae he;simp only[txs,nh]at he;subst he;have a8:=yz (txs l);have ps:0<(txs l).length->((0:Int)<=(0:Int)/\0<((zD (txs l)).length:Int)/\0<(zD (txs l)).length):=λh=>⟨by omega,by omega,by omega⟩
  have hj:=λa c=>Ef (txs l) (bytes [32]) (by decide) (by omega) a c;refine wn (Br.of (λh=>by rw[aq]at h;cases h) λ_=>⟨k,rfl,Br.beq (λh1=>⟨nm,rfl,λN1 I=>?_⟩) λh1=>Br.beq (λh2=>⟨n,rfl,λN1 I=>?_⟩) λh2=>Br.beq (λh3=>⟨n,rfl,n,rfl,?_⟩) λh3=>Br.beq (λh4=>?_) λh4=>Br.beq (λh5=>⟨⟨rfl,rfl⟩,λa2 _ N1 I _=>?_⟩) λh5=>Br.beq (λh6=>?_) λh6=>Br.beq (λh7=>⟨⟨rfl,rfl⟩,λa2 _ N1 I _=>?_⟩) λh7=>Br.beq (λh8=>⟨nm,rfl,by omega,by simp only[oD,b5];omega,⟨rfl,rfl⟩,λa2 _ N1 I _=>?_⟩) λh8=>Br.beq (λh9=>?_) λh9=>Br.beq (λah=>?_) λah=>Br.beq (λai=>?_) λai=>Br.beq (λaj=>?_) λaj=>?_⟩)
  ·subst h1;exact Qst (J _ (by omega)) (Lh ..)
  ·subst h2;have hn:=nd.num rfl;obtain⟨u,rfl⟩:=Int.eq_ofNat_of_zero_le hn.1;exact qp u (by omega) N1 _ λY U _ N3 V=>Qst (J _ (by omega)) (by rw[Li,oX])
  ·subst h3;have hn:=nd.bit rfl;rw[HP hn,i64_in (n+1) (by omega)];exact⟨⟨by omega,by omega,by omega⟩,by rw[b1];decide,λN1 I=>Qst (J _ (by omega)) (Lj ..)⟩
  ·subst h4;have ba:=nd.op rfl;refine Br.beq (λhw=>?_) λhw=>?_
   ·exact⟨ps (by omega),by omega,_,DM (by omega),by omega,by simp only[oD,b2];omega,λN1 I=>Qst (J _ (by omega)) (by rw[Jx,if_pos (by omega)])⟩
   ·exact⟨ps (by omega),by omega,_,DM (by omega),by omega,nm,rfl,by simp only[oD,b1];omega,⟨by omega,by omega,by omega⟩,by omega,_,DM (by omega),by simp only[oD,b1];omega,by simp only[oD,b1];omega,λN1 I=>Qst (J _ (by omega)) (by rw[Jx,if_neg (by omega)])⟩
  ·subst h5;exact hj _ _ N1 _ λY U _=>⟨by omega,by simp only[oD,b4];omega,λN3 V=>Qst (J _ (by omega)) (Lk ..)⟩
  ·subst h6;have Z:=nd.vt (.inl rfl);have aw:=zn (zk Z).1;have ax:=(zk Z).2
   have:=nd.one (by omega)
   refine⟨nm,rfl,by omega,by simp only[oD,b2];omega,ps (by omega),by omega,_,DM (by omega),λN1 I=>?_⟩;exact uA Z hh.ty N1 _ λY U _=>⟨by simp only[oD,b2,b1];omega,by simp only[oD,b2,b1];omega,by simp only[oD,b2,b1];omega,by simp only[oD,b2,b1];omega,λN3 V=>Qst (J _ (by omega)) (Ll ..)⟩
  ·subst h7;exact hj _ _ N1 _ λY U _=>⟨by omega,by simp only[oD,b1];omega,λN3 V=>Qst (J _ (by omega)) (Lm ..)⟩
  ·subst h8;exact hj _ _ N1 _ λY U _=>⟨by simp only[oD,b5,b1];omega,by simp only[oD,b5,b1];omega,λN3 V=>Qst (J _ (by omega)) (Ln ..)⟩
  ·subst h9;have Z:=nd.vt (.inr rfl);have aa:=nd.vr rfl;have aw:=zn (zk Z).1;have a1:=zn (zk aa).1;have ax:=(zk Z).2;have a6:=(zk aa).2
   have:=nd.one (by omega)
   refine⟨nm,rfl,by omega,by simp only[oD,b5];omega,ot,rfl,by simp only[oD,b5,b1];omega,by simp only[oD,b5,b1];omega,ps (by omega),by omega,_,DM (by omega),λN1 I=>?_⟩;refine uA Z hh.ty N1 _ λY U _=>⟨by simp only[oD,b5,b1];omega,by simp only[oD,b5,b1];omega,λN3 V=>?_⟩
   exact uA aa hh.re N3 _ λN4 bb _=>⟨by simp only[oD,b5,b1];omega,by simp only[oD,b5,b1];omega,by simp only[oD,b5,b1];omega,by simp only[oD,b5,b1];omega,λN5 bc=>Qst (J _ (by omega)) (Lo ..)⟩
  ·subst ah
   have:=nd.one (by omega)
   exact⟨ps (by omega),by omega,_,DM (by omega),by omega,by simp only[oD,b1];omega,λN1 I=>Qst (J _ (by omega)) (E2 ..)⟩
  ·subst ai
   have:=nd.one (by omega)
   exact⟨ps (by omega),by omega,_,DM (by omega),by omega,λN1 I=>Qst (J _ (by omega)) (E3 ..)⟩
  ·subst aj
   have:=nd.one (by omega)
   exact⟨ps (by omega),by omega,_,DM (by omega),by omega,by simp only[oD,b5];omega,λN1 I=>Qst (J _ (by omega)) (E4 ..)⟩
  ·have hc:=nd.kind;obtain rfl:k=13:=by omega
   have:=nd.one (by omega)
   exact⟨ps (by omega),by omega,_,DM (by omega),by omega,by simp only[oD,b6];omega,λN1 I=>Qst (J _ (by omega)) (E5 ..)⟩
 ·intro i x xs O _ ay ws q N' au ae he;have hb:=O.b;have hx:x.sz<=wJ l:=Al O.m;have bg:=Ao (txs l);refine wn (Br.of (λ_=>⟨hb,λN1 I=>?_⟩) λh=>by rw[O.lt]at h;cases h);rw[oX];refine ih x O.m (nd.sub x O.m) (by omega) _ O.r N1 _ λY U _=>⟨⟨rfl,rfl⟩,by unfold zA;rw[oH,yz];simp only[oN,oa];omega,λc2=>?_⟩
  have e:zD ws++[D.t x.tx]=zD (ws++[x.tx]):=by simp[zD]
  rw[e,O.w];exact ay (ws++[x.tx]) c2 Y (by omega) (by simp[ae]) (by rw[<-he];simp[txs])
theorem uB {t:Tm}{d:D}(hd:t.Is d)(hc:t.cnt<=4000000):wT 11 [.dg 9 d] (Ly t):=λN Q J=>Ax N d Q λ_ N1 O=>sO t d hd (by omega) N1 _ λN2 U _=>Br.not (λI N3 V=>Qst (J _ (by omega)) (by rw[Ly,if_neg (by rw[I];decide)])) λI Y Z=>KY t I (by have:=Tm.sz_cnt t;omega) d hd Y _ λN5 aa _ N6 ab=>Qst (J _ (by omega)) (by rw[Ly,if_pos I])
mutual
def Ky:Tm->Tm->Bool
 | .mk k nm ot n ty re l,.mk V I J n' O U l'=>decide (k=V)&&(decide (nm=I)&&(decide (ot=J)&&(decide (n=n')&&(HA ty O&&(HA re U&&qK l l')))))
def qK:List Tm->List Tm->Bool
 | [],[]=>true
 | x::xs,y::ys=>Ky x y&&qK xs ys
 | _,_=>false
end
theorem Aj:∀ {l m:List Tm},(∀ t∈l,∀ u,Ky t u=true↔t=u)->(qK l m=true↔l=m)
 | [],[],_=>by simp[qK]
 | [],_::_,_=>by simp[qK]
 | _::_,[],_=>by simp[qK]
 | x::l,y::m,h=>by have I:=h x (by simp) y;have J:=Aj (l:=l) (m:=m) λt O=>h t (by simp[O]);simp only[qK,oL,I,J,List.cons.injEq]
theorem GC:∀(t u:Tm),Ky t u=true↔t=u:=by
 refine Tm.ind λk nm ot n ty re l I u=>?_;cases u with
 | mk Z J O n' U V l'=>have Y:=Aj (m:=l') I;simp only[Ky,oL,oc,Ct,Y,Tm.mk.injEq]
theorem Iq (t:Tm):Ky t t=true:=(GC t t).2 rfl
theorem Ir {l m:List Tm}(h:l.length≠m.length):qK l m=false:=by
 cases hc:qK l m with
 | false=>rfl
 | true=>exact absurd (oT List.length ((Aj λt _=>GC t).1 hc)) h
theorem qn {l l':List Tm} {es O:List D} (Y:All2 Tm.Is l es) (V:All2 Tm.Is l' O) (Z:es.length<=4611686018427387904) (ab:O.length<=4611686018427387904) (a a':Option Addr) (c c':Nat)
  (ih:∀ t∈l,∀(u:Tm) (d e:D),t.Is d->u.Is e->tH 10 [.dg 9 d,.dg 9 e] (Ky t u)):tH 27 [.sv a 9 es c,.sv a' 9 O c',.fn 10 []] (qK l l'):=λN Q hQ=>by
 have hl:=Y.len;have ak:=V.len;refine wc N _ _ _ _ _ _ Q λ_ _=>Br.bne (λh N1 ac=>Qb (hQ _ ac) (Ir (by omega))) λh=>?_;refine up Y Z (λi xs=>∀(N':Nat),N<=N'->(∀ U,N'<=U->Q (qK xs (l'.drop i)) U)->zW Q N a' O c' a es c es.length i N') ?_ ?_ N (oJ _) hQ
 ·intro i ae hi N' ah I;refine yW ?_
  repeat' first|with_reducible intro _|simp only[ae,Y1,Y2,Y3,Y4]|with_reducible refine X ?_ ?_|refine⟨_,_,_,rfl,?_⟩|refine⟨_,rfl,?_⟩|refine X0 ?_|fail
  refine Qb (I _ (by assumption)) ?_;rw[mS (by omega)];rfl
 ·intro i x xs J _ ai N' ah I;have hb:=J.b;have aa:i<l'.length:=by omega
  have hg:l'[i]?=some l'[i]:=oF aa;have aj:l'.drop i=l'[i]::l'.drop (i+1):=List.drop_eq_getElem_cons aa;refine yW ?_;rw[aj]at I
  repeat' first|with_reducible intro _|simp only[J.lt,J.w,oX,Y1,Y2,Y3,Y4]|with_reducible refine X ?_ ?_|refine⟨_,_,_,rfl,?_⟩|refine⟨_,rfl,?_⟩|refine X0 ?_|refine(ih x J.m _ _ _ J.r (V.get hg)) _ _ ?_|fail
  ·exact Qb (I _ (by omega)) (by simp[qK, *])
  ·exact ai _ (by omega) λU h=>Qb (I U (by omega)) (by simp[qK, *])
theorem qo:∀(t u:Tm)(d e:D),t.Is d->u.Is e->tH 10 [.dg 9 d,.dg 9 e] (Ky t u):=by
 refine Tm.ind λk nm ot m ty re l ih u d e hd he N Q Y=>?_;cases u with
 | mk k' aa ab m' ac ae l'=>
 obtain⟨t0,t1,r0,r1,a,es,c,rfl,Z,J,V⟩:=Tm.is_mk.1 hd;obtain⟨u0,u1,v0,v1,a',ah,c',rfl,O,I,U⟩:=Tm.is_mk.1 he;simp only[Ky]at Y;refine qv N _ _ Q λ_ _=>?_
 repeat' first|with_reducible intro _|simp only[Y1,Y2,Y3,Y4]|with_reducible refine X ?_ ?_|refine⟨_,_,_,rfl,?_⟩|refine⟨_,rfl,?_⟩|refine X0 ?_|refine(zl _ _ _ _ Z.ty O.ty) _ _ ?_|refine(zl _ _ _ _ Z.re O.re) _ _ ?_|refine(qn V U J I _ _ _ _ ih) _ _ ?_|fail
 all_goals first | exact Qb (Y _ (by omega)) (by simp[*]) | skip
end Go.Proofs.YtidiofobanefmaaGreatDoor
