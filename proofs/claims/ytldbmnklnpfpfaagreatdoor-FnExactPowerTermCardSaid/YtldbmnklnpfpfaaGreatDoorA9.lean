/- Texts of types and terms: what they are, and how long (no program in sight). -/
import Derived.Test.YtldbmnklnpfpfaaGreatDoorA5
import Derived.Test.YtldbmnklnpfpfaaGreatDoorKa
import Derived.Shelf.Strings.OnBuilder
set_option linter.unusedVariables false
set_option linter.unusedSimpArgs false
set_option maxRecDepth 100000
namespace Go.Proofs.YtldbmnklnpfpfaaGreatDoor
open Go Go.Proofs Go.Proofs.Tryz Go.IntWalk
def uJ (b:ByteArray):List ByteArray->ByteArray
 | []=>bytes []
 | s::l=>b++s++uJ b l
def xl (b:ByteArray):List ByteArray->ByteArray
 | []=>bytes []
 | s::l=>s++uJ b l
mutual
def Ai:Ty->ByteArray
 | .mk k l=>if k=1 then bytes [73]else if k=2 then bytes [66]else if k=3 then bytes [40]++(J5 l).getD 0 (bytes [])++bytes [62]++(J5 l).getD 1 (bytes [])++bytes [41]else bytes [60]++(J5 l).getD 0 (bytes [])++bytes [62]
def J5:List Ty->List ByteArray
 | []=>[]
 | t::l=>Ai t::J5 l
end
def wA (k:Int)(nm ot:ByteArray)(n:Int)(ty re:Ty)(ws:List ByteArray):ByteArray:=
 if k=1 then nm else if k=2 then Dc n.toNat else if k=3 then bytes [35]++bytes [if n=0 then 102 else 116]
 else if k=4 then(if ws.length=1 then bytes [40,33]++ws.getD 0 (bytes [])++bytes [41]else bytes [40]++ws.getD 0 (bytes [])++nm++ws.getD 1 (bytes [])++bytes [41])
 else if k=5 then bytes [40,105,102,32]++xl (bytes [32]) ws++bytes [41]
 else if k=6 then bytes [40,92]++nm++bytes [58]++Ai ty++bytes [46]++ws.getD 0 (bytes [])++bytes [41]
 else if k=7 then bytes [40]++xl (bytes [32]) ws++bytes [41]
 else if k=8 then bytes [40,108,101,116,32]++nm++bytes [61]++xl (bytes [32]) ws++bytes [41]
 else if k=9 then bytes [40,114,101,99,32]++nm++bytes [32]++ot++bytes [58]++Ai ty++bytes [62]++Ai re++bytes [46]++ws.getD 0 (bytes [])++bytes [41]
 else if k=10 then bytes [60]++ws.getD 0 (bytes [])++bytes [62]
 else if k=11 then bytes [126]++ws.getD 0 (bytes [])
 else if k=12 then bytes [40,114,117,110,32]++ws.getD 0 (bytes [])++bytes [41]
 else bytes [40,108,105,102,116,32]++ws.getD 0 (bytes [])++bytes [41]
section
variable (nm ot:ByteArray) (n:Int) (ty re:Ty) (ws:List ByteArray)
theorem LM:wA 1 nm ot n ty re ws=nm:=rfl
theorem LN:wA 2 nm ot n ty re ws=Dc n.toNat:=rfl
theorem LO:wA 3 nm ot n ty re ws=bytes [35]++bytes [if n=0 then 102 else 116]:=rfl
theorem Jd:wA 4 nm ot n ty re ws=if ws.length=1 then bytes [40,33]++ws.getD 0 (bytes [])++bytes [41]else bytes [40]++ws.getD 0 (bytes [])++nm++ws.getD 1 (bytes [])++bytes [41]:=rfl
theorem LP:wA 5 nm ot n ty re ws=bytes [40,105,102,32]++xl (bytes [32]) ws++bytes [41]:=rfl
theorem LQ:wA 6 nm ot n ty re ws=bytes [40,92]++nm++bytes [58]++Ai ty++bytes [46]++ws.getD 0 (bytes [])++bytes [41]:=rfl
theorem LR:wA 7 nm ot n ty re ws=bytes [40]++xl (bytes [32]) ws++bytes [41]:=rfl
theorem LS:wA 8 nm ot n ty re ws=bytes [40,108,101,116,32]++nm++bytes [61]++xl (bytes [32]) ws++bytes [41]:=rfl
theorem LT:wA 9 nm ot n ty re ws=bytes [40,114,101,99,32]++nm++bytes [32]++ot++bytes [58]++Ai ty++bytes [62]++Ai re++bytes [46]++ws.getD 0 (bytes [])++bytes [41]:=rfl
theorem Et:wA 10 nm ot n ty re ws=bytes [60]++ws.getD 0 (bytes [])++bytes [62]:=rfl
theorem Eu:wA 11 nm ot n ty re ws=bytes [126]++ws.getD 0 (bytes []):=rfl
theorem Ev:wA 12 nm ot n ty re ws=bytes [40,114,117,110,32]++ws.getD 0 (bytes [])++bytes [41]:=rfl
theorem Ew:wA 13 nm ot n ty re ws=bytes [40,108,105,102,116,32]++ws.getD 0 (bytes [])++bytes [41]:=rfl
end
mutual
def Tm.tx:Tm->ByteArray
 | .mk k nm ot n ty re l=>wA k nm ot n ty re (txs l)
def txs:List Tm->List ByteArray
 | []=>[]
 | t::l=>t.tx::txs l
end
theorem FF:∀ l:List Tm,(txs l).length=l.length
 | []=>rfl
 | x::l=>by simp[txs,FF l]
def tot:List ByteArray->Nat
 | []=>0
 | s::l=>s.size+1+tot l
theorem Ah:∀ l:List ByteArray,l.length<=tot l
 | []=>by simp[tot]
 | x::l=>by have:=Ah l;simp only[tot,oR];omega
theorem Bn (b:ByteArray)(I:b.size<=1):∀ l:List ByteArray,(uJ b l).size<=tot l
 | []=>by simp[uJ,tot];rfl
 | x::l=>by have:=Bn b I l;simp only[uJ,tot,oC];omega
theorem uv (b:ByteArray)(I:b.size<=1):∀ l:List ByteArray,(xl b l).size<=tot l
 | []=>by simp[xl,tot];rfl
 | x::l=>by have:=Bn b I l;simp only[xl,tot,oC];omega
theorem NF:(bytes []).size=0:=rfl
theorem b1 (a:Nat):(bytes [a]).size=1:=rfl
theorem b2 (a b:Nat):(bytes [a,b]).size=2:=rfl
theorem b4 (a b c d:Nat):(bytes [a,b,c,d]).size=4:=rfl
theorem b5 (a b c d e:Nat):(bytes [a,b,c,d,e]).size=5:=rfl
theorem b6 (a b c d e f:Nat):(bytes [a,b,c,d,e,f]).size=6:=rfl
theorem Lh:∀ t:Ty,t.form=true->Wf t:=by
 refine Ty.ind λk l ih h=>?_;simp only[Ty.form,oM]at h;obtain⟨J,O⟩:=h;have sub:∀ t∈l,Wf t:=λt ht=>ih t ht (by
  have key:∀ l:List Ty,wy l=true->∀ t∈l,t.form=true:=by
   intro l
   induction l with
   | nil=>intro _ t ht;simp at ht
   | cons x l U=>
     intro h t ht;simp only[wy,oM]at h;rcases oH.1 ht with rfl | ht
     ·exact h.1
     ·exact U h.2 t ht
  exact key l (by first | exact J | exact O) t ht)
 have I:BG k l.length=true:=by first | exact J | exact O
 unfold BG at I;split at I
 ·rename_i V;have:l=[]:=oV (by have:=mW.1 I;omega);subst this;rcases V with rfl | rfl
  ·exact .int
  ·exact .bool
 split at I
 ·rename_i Y;subst Y;have O:l.length=2:=by have:=mW.1 I;omega
  match l,O,sub with
  | [a,b],_,sub=>exact .fn (sub a (by simp)) (sub b (by simp))
 split at I
 ·rename_i Z;subst Z;have J:l.length=1:=by have:=mW.1 I;omega
  match l,J,sub with
  | [a],_,sub=>exact .code (sub a (by simp))
 ·cases I
theorem zo {t:Ty}(h:t.valid=true):Wf t/\t.cnt<=30:=by refine⟨Lh t ?_,Ty.valid_cnt h⟩;simp only[Ty.valid,oM]at h;exact h.2
theorem Aj (a b:Ty):Ai (DJ a b)=bytes [40]++Ai a++bytes [62]++Ai b++bytes [41]:=rfl
theorem ui (a:Ty):Ai (v7 a)=bytes [60]++Ai a++bytes [62]:=rfl
theorem zu {t:Ty}(I:Wf t):(Ai t).size<=3*t.cnt:=by
 induction I with
 | int=>decide
 | bool=>decide
 | @fn u v _ _ J O=>have:(DJ u v).cnt=1+(u.cnt+(v.cnt+0)):=rfl;rw[Aj];simp only[oC,b1];omega
 | @code u _ J=>have:(v7 u).cnt=1+(u.cnt+0):=rfl;rw[ui];simp only[oC,b1];omega
theorem AH {s:ByteArray}(h:xc s=true):s.size<=4:=by
 simp only[xc,qX,oM]at h
 have:=(xv.1 h.2.1).2
 omega
theorem Hu {s:ByteArray}(h:qC s>0):s.size<=4:=by
 unfold qC at h
 (repeat' split at h)<;>first | (rename_i e;rw[e];decide) | (exfalso;revert h;decide)
theorem Gc {k:Int}{nm ot:ByteArray}(h:yb k nm ot=true):nm.size<=4/\ot.size<=4:=by
 unfold yb at h
 (repeat' split at h)<;>simp only[oM,oi,nC,nW]at h
 ·exact⟨Hu h.1,by rw[h.2];decide⟩
 ·exact⟨AH h.1,by rw[h.2];decide⟩
 ·exact⟨AH h.1,AH h.2.1⟩
 ·rw[h.1,h.2];decide
structure NodeS (k:Int) (nm ot:ByteArray) (n:Int) (ty re:Ty) (l:List Tm):Prop extends Node k nm ot n ty re l where
 n4:nm.size<=4
 o4:ot.size<=4
 num:k=2->0<=n/\n<=10006
 bit:k=3->n=0\/n=1
 one:k=6\/k=9\/k=10\/k=11\/k=12\/k=13->l.length=1
 op:k=4->l.length=1\/l.length=2
 kind:k=1\/k=2\/k=3\/k=4\/k=5\/k=6\/k=7\/k=8\/k=9\/k=10\/k=11\/k=12\/k=13
theorem Er {k:Int}{nm ot:ByteArray}{n:Int}{ty re:Ty}{l:List Tm}(h:(Tm.mk k nm ot n ty re l).ok=true):NodeS k nm ot n ty re l:=by
 have nd:=LL h;have f:=nd.f;simp only[yC,oM]at f;obtain⟨n4,o4⟩:=Gc f.2.2.2.2.2;have O:=xv.1 f.2.2.2.2.1;have I:=nd.ar;refine { toNode:=nd,n4:=n4,o4:=o4,num:=λJ=>?_,bit:=λJ=>?_,one:=λJ=>?_,op:=λJ=>?_,kind:=G5 (nm:=nm) (by omega) }
 ·rw[if_pos J]at O;exact O
 ·rw[if_neg (by omega),if_pos J]at O;omega
 ·unfold EQ at I;rw[if_neg (by omega),if_neg (by omega),if_pos (by omega)]at I;omega
 ·subst J;have I:(l.length:Int)=qC nm:=I;have h:=f.2.2.2.2.2;simp only[yb]at h;rw[if_pos trivial]at h;simp only[oM,oi]at h
  have:=h.1
  have U:qC nm=1\/qC nm=2:=by
   revert this;unfold qC
   (repeat' split)<;>simp
  omega
theorem uH (ws:List ByteArray)(i:Nat):(ws.getD i (bytes [])).size<=tot ws:=by
 induction ws generalizing i with
 | nil=>simp only[List.getD_nil,NF,tot];omega
 | cons x l I=>
   cases i with
   | zero=>simp only[List.getD_cons_zero,tot];omega
   | succ i=>have:=I i;simp only[List.getD_cons_succ,tot];omega
theorem Cs (ws:List ByteArray):(ws.getD 0 (bytes [])).size+(ws.getD 1 (bytes [])).size<=tot ws:=by
 cases ws with
 | nil=>simp only[List.getD_nil,NF,tot];omega
 | cons x l=>have:=uH l 0;simp only[List.getD_cons_zero,List.getD_cons_succ,tot];omega
theorem Es {k:Int}{nm ot:ByteArray}{n:Int}{ty re:Ty}{l:List Tm}(nd:NodeS k nm ot n ty re l)(ws:List ByteArray):(wA k nm ot n ty re ws).size<=tot ws+300:=by
 have O:=nd.n4;have U:=nd.o4;have g0:=uH ws 0;have g1:=Cs ws;have V:=uv (bytes [32]) (by decide) ws;have I:k=6\/k=9->(Ai ty).size<=90:=λh=>by have:=zo (nd.vt h);have:=zu this.1;omega
 have J:k=9->(Ai re).size<=90:=λh=>by have:=zo (nd.vr h);have:=zu this.1;omega
 have hd:k=2->(Dc n.toNat).size<=20:=λh=>by have:=nd.num h;rw[sT];exact rx _ (by omega)
 rcases nd.kind with rfl | rfl | rfl | rfl | rfl | rfl | rfl | rfl | rfl | rfl | rfl | rfl | rfl
 ·rw[LM];omega
 ·rw[LN];have:=hd rfl;omega
 ·rw[LO];simp only[oC,b1];omega
 ·rw[Jd];split<;>simp only[oC,b1,b2]<;>omega
 ·rw[LP];simp only[oC,b1,b4];omega
 ·rw[LQ];have:=I (.inl rfl);simp only[oC,b1,b2];omega
 ·rw[LR];simp only[oC,b1];omega
 ·rw[LS];simp only[oC,b1,b5];omega
 ·rw[LT];have:=I (.inr rfl);have:=J rfl;simp only[oC,b1,b5];omega
 ·rw[Et];simp only[oC,b1];omega
 ·rw[Eu];simp only[oC,b1];omega
 ·rw[Ev];simp only[oC,b1,b5];omega
 ·rw[Ew];simp only[oC,b1,b6];omega
theorem Af:∀ {l:List Tm}{t:Tm},t∈l->t.sz<=wD l
 | x::l,t,h=>by
   simp only[wD];rcases oH.1 h with rfl | h
   ·omega
   ·have:=Af h;omega
theorem Lf:∀ t:Tm,t.ok=true->t.tx.size+1<=500*t.sz:=by
 refine Tm.ind λk nm ot n ty re l J O=>?_;have nd:=Er O;have key:∀ l:List Tm,(∀ t∈l,t.tx.size+1<=500*t.sz)->tot (txs l)<=500*wD l:=by
  intro l
  induction l with
  | nil=>intro _;simp[txs,tot,wD]
  | cons x l J=>intro h;have V:=h x (by simp);have U:=J λt I=>h t (by simp[I]);simp only[txs,tot,wD];omega
 have h:=key l λt I=>J t I (nd.sub t I);have U:=Es nd (txs l);simp only[Tm.tx,Tm.sz];omega
theorem EC {l:List Tm}(h:∀ t∈l,t.ok=true):tot (txs l)<=500*wD l:=by
 induction l with
 | nil=>simp[txs,tot,wD]
 | cons x l I=>have O:=Lf x (h x (by simp));have U:=I λt J=>h t (by simp[J]);simp only[txs,tot,wD];omega
end Go.Proofs.YtldbmnklnpfpfaaGreatDoor
namespace Go.Proofs
namespace YtldbmnklnpfpfaaGreatDoor
open Go Go.Proofs Go.Proofs.Tryz Go.RowKit Go.Shelf
def MT:Go.Shelf.Ren:=⟨λx=>match x with | 156=>108 | 165=>56 | 166=>58 | 169=>60 | 240=>88 | 241=>89 | 276=>115 | 277=>116 | n=>n,λx=>match x with | 0=>0 | 3=>3 | 4=>4 | 5=>5 | 9=>9 | 20=>20 | 31=>84 | 37=>63 | 70=>70 | 72=>72 | 75=>75 | 76=>76 | 80=>60 | 127=>100 | 164=>119 | n=>n,λn=>n⟩
theorem LC:Lays.n156 Tryz.prog MT where
 mixed:=by kernel_rfl
 f156:=Tryz.func108.trans (oN some (by kernel_rfl))
 f165:=Tryz.func56.trans (oN some (by kernel_rfl))
 f166:=Tryz.func58.trans (oN some (by kernel_rfl))
 f169:=Tryz.func60.trans (oN some (by kernel_rfl))
 f240:=Tryz.func88.trans (oN some (by kernel_rfl))
 f241:=Tryz.func89.trans (oN some (by kernel_rfl))
 f276:=Tryz.func115.trans (oN some (by kernel_rfl))
 f277:=Tryz.func116.trans (oN some (by kernel_rfl))
 t0:=Tryz.underlying0
 a0:=Tryz.isAgg0
 z0:=Tryz.sizeOf0
 v0:=Tryz.zeroValue0
 t3:=Tryz.underlying3
 a3:=Tryz.isAgg3
 z3:=Tryz.sizeOf3
 v3:=Tryz.zeroValue3
 t4:=Tryz.underlying4
 a4:=Tryz.isAgg4
 z4:=Tryz.sizeOf4
 v4:=Tryz.zeroValue4
 t9:=Tryz.underlying9
 a9:=Tryz.isAgg9
 z9:=Tryz.sizeOf9
 v9:=Tryz.zeroValue9
 t20:=Tryz.underlying20
 a20:=Tryz.isAgg20
 z20:=Tryz.sizeOf20
 v20:=Tryz.zeroValue20
 t31:=Tryz.underlying84
 a31:=Tryz.isAgg84
 z31:=Tryz.sizeOf84
 v31:=Tryz.zeroValue84
 t37:=Tryz.underlying63
 a37:=Tryz.isAgg63
 z37:=Tryz.sizeOf63
 v37:=Tryz.zeroValue63
 t70:=Tryz.underlying70
 a70:=Tryz.isAgg70
 z70:=Tryz.sizeOf70
 v70:=Tryz.zeroValue70
 t72:=Tryz.underlying72
 a72:=Tryz.isAgg72
 z72:=Tryz.sizeOf72
 v72:=Tryz.zeroValue72
 t75:=Tryz.underlying75
 a75:=Tryz.isAgg75
 z75:=Tryz.sizeOf75
 v75:=Tryz.zeroValue75
 t76:=Tryz.underlying76
 a76:=Tryz.isAgg76
 z76:=Tryz.sizeOf76
 v76:=Tryz.zeroValue76
 t127:=Tryz.underlying100
 a127:=Tryz.isAgg100
 z127:=Tryz.sizeOf100
 v127:=Tryz.zeroValue100
 t164:=Tryz.underlying119
 a164:=Tryz.isAgg119
 z164:=Tryz.sizeOf119
 v164:=Tryz.zeroValue119
theorem LD:Builder.Extra Tryz.prog MT where
 sizeBuilder:=by kernel_rfl
 liesBuilder:=by kernel_rfl
 t5:=Tryz.underlying5
 a5:=Tryz.isAgg5
 z5:=Tryz.sizeOf5
 v5:=Tryz.zeroValue5
 infoByte:=by kernel_rfl
 cellsByte:=by kernel_rfl
 sizeByte:=by kernel_rfl
 neB5:=by decide
theorem p8 (b:ByteArray):∀ l:List ByteArray,(uJ b l).data.toList=Lib.joinTail b.data.toList (l.map (·.data.toList))
 | []=>rfl
 | s::l=>by simp only[uJ,zL,p8 b l,Lib.joinTail,nE,List.flatten_cons]
theorem p7 (b:ByteArray)(l:List ByteArray):(xl b l).data.toList=Lib.join (l.map (·.data.toList)) b.data.toList:=by
 cases l with
 | nil=>rfl
 | cons s l=>simp only[xl,zL,p8,nE,Lib.join_cons]
theorem Em (l:List ByteArray):zj (zR l)=zR l:=by
 induction l with
 | nil=>rfl
 | cons s l I=>simp only[zR,nE,xP,D.cells]at I ⊢;rw[I];rfl
theorem FD {u:ByteArray}{N:Nat}{Q:QT [.str]}{av:Nat->Prop}{w0 w:World}(hN:w0.heap.size=N)(O:∀ N',N<=N'->Q u N')(I:Below w0.heap.size w0 w):Fin [.str] Q av w0 (.returned (.string u)) w:=
 ⟨[.str u],[],[],{ q:=O _ (by have:=I.size;omega),v:=rfl,m:=⟨rfl,by simp,by simp,by simp,λk j b h=>by obtain⟨_,U,_⟩:=h;simp[Env.at]at U⟩,ok:=λp J=>by simp at J;subst J;trivial,fresh:=λk b h=>by simp[Env.at]at h,size:=I.size,old:=I.block,fz:=λ_ _ _ _ _ _=>trivial,ku:=⟨I.os,I.output⟩ }⟩
theorem BF (ws:List ByteArray)(by_:ByteArray)(aa:by_.size<=1)(h:tot ws<=140737488355328)(a:Option Addr)(c:Nat):we 108 [.sv a 0 (zR ws) c,.str by_] (xl by_ ws):=λN Q hQ=>
 ⟨by kernel_rfl,λav w0 hN ak U=>by
  have hg:=(U (.sv a 0 (zR ws) c) (by simp)).1;simp only[PV.Ok]at hg;have hH:=hg.1;have hl:=xh ws;have al:=Ah ws;have ab:(Lib.join (ws.map (·.data.toList)) by_.data.toList).length<=140737488355328:=by rw[<-p7,nR];exact o8 (uv by_ aa ws) h
  have he:(⟨(Lib.join (ws.map (·.data.toList)) by_.data.toList).toArray⟩:ByteArray)=xl by_ ws:=zZ (by rw[p7]);have hv:([PV.sv a 0 (zR ws) c,.str by_].map (PV.val [])).toArray=#[.slice a ws.length c,.string by_]:=by simp[PV.val,PV.val1,PV.cv,hl]
  rw[hv];have ac:∀ es,es=zR ws->Holds w0 (.sl a 0 es c):=λes h=>h ▸ hH;clear hH;have key:∀ es,es=zR ws->Holds w0 (.sl a 0 es c)->(a=none/\es=[]/\c=0)\/∃ ad,a=some ad/\(es≠[]->ad.spot=none)/\es.length<=c/\Row w0 ad (zj es):=λes _ h=>by
   cases h with
   | nil=>exact .inl ⟨rfl,rfl,rfl⟩
   | sl J V _ _ h3=>exact .inr ⟨_,rfl,J,V,h3⟩
  rcases key _ rfl (ac _ rfl)with⟨rfl,ae,rfl⟩ | ⟨ad,rfl,hs,hc,I⟩
  ·have ah:ws=[]:=mQ.1 (by rw[<-hl,ae];rfl);subst ah;refine(Any.strings_Join_none LC LD none 0 by_ w0).mono λe w ⟨J,V⟩=>?_;subst J;subst V;exact FD hN hQ (Below.refl _ _)
  ·by_cases Y:ws=[]
   ·subst Y;refine(Any.strings_Join_none LC LD _ c by_ w0).mono λe w ⟨J,V⟩=>?_;subst J;subst V;exact FD hN hQ (Below.refl _ _)
   have O:zR ws≠[]:=λhc=>Y (mQ.1 (by rw[<-hl,hc];rfl));obtain⟨Z,off,sp⟩:=ad;have ai:sp=none:=hs O;subst ai;rw[Em]at I;rcases I with I | ⟨cc,t,fz,J,V⟩
   ·exact absurd I O
   have aj:Z<w0.heap.size:=(oO.1 J).1;refine(Any.strings_Join LC LD Z off c ws by_ w0 (λj x hj=>?_) aj (by omega) (by rw[<-hl];exact hc) ab).mono λe w ⟨h3,h4⟩=>?_
   ·have hd:(zR ws)[j]?=some (.t x):=by simp[zR,hj]
    rw[wu J];exact V j _ hd
   ·rw[he]at h3;subst h3;exact FD hN hQ h4⟩
theorem Ea (ws:List ByteArray)(by_:ByteArray)(I:by_.size<=1)(h:tot ws<=140737488355328)(a:Option Addr)(c:Nat):we 81 [.sv a 0 (zR ws) c,.str by_] (xl by_ ws):=λN Q J=>FH N a _ c by_ Q λ_ N1 O=>BF ws by_ I h a c N1 _ λY U _ N3 V=>J _ (by omega)
end YtldbmnklnpfpfaaGreatDoor
end Go.Proofs
set_option maxRecDepth 100000
namespace Go.Proofs.YtldbmnklnpfpfaaGreatDoor
open Go Go.Proofs Go.Proofs.Tryz Go.IntWalk
theorem CR {t:Ty}(hw:Wf t):t.cnt<=1000000->∀ {d:D},t.Is d->we 101 [.dg 2 d] (Ai t):=by
 induction hw with
 | int=>intro hc d hd N Q J;obtain⟨b,fs,k,rfl,_,h2⟩:=Ty.is_mk.1 hd;exact wF N _ Q λ_=>⟨1,rfl,Br.beq (λ_ N1 I=>J _ I) λh=>absurd rfl h⟩
 | bool=>intro hc d hd N Q J;obtain⟨b,fs,k,rfl,_,h2⟩:=Ty.is_mk.1 hd;exact wF N _ Q λ_=>⟨2,rfl,Br.beq (λh=>absurd h (by decide)) λ_=>Br.beq (λ_ N1 I=>J _ I) λh=>absurd rfl h⟩
 | @fn u v U hv O V=>
   intro hc d hd N Q J;have Y:(DJ u v).cnt=1+(u.cnt+(v.cnt+0)):=rfl;have s1:=zu U;have s2:=zu hv;obtain⟨b,fs,k,rfl,Z,d1,_,rfl,h3,d2,_,rfl,h4,rfl⟩:=Ty.is_mk.1 hd;refine wF N _ Q λ_=>⟨3,rfl,Br.beq (λh=>absurd h (by decide)) λ_=>Br.beq (λh=>absurd h (by decide)) λ_=>Br.beq (λ_=>⟨_,_,_,rfl,⟨by simp,by simp⟩,_,_,_,rfl,⟨by simp,by simp⟩,λN1 I=>?_⟩) λh=>absurd rfl h⟩
   refine O (by omega) h3 N1 _ λN2 aa _=>⟨by omega,by rw[oC,b1];omega,λN3 ab=>?_⟩
   exact V (by omega) h4 N3 _ λN4 ac _=>⟨by simp only[oC,b1];omega,by simp only[oC,b1];omega,λN5 ae=>Qst (J _ (by omega)) (Aj u v)⟩
 | @code u U O=>
   intro hc d hd N Q J;have Y:(v7 u).cnt=1+(u.cnt+0):=rfl;have s1:=zu U;obtain⟨b,fs,k,rfl,Z,d1,_,rfl,h3,rfl⟩:=Ty.is_mk.1 hd;refine wF N _ Q λ_=>⟨4,rfl,Br.beq (λh=>absurd h (by decide)) λ_=>Br.beq (λh=>absurd h (by decide)) λ_=>Br.beq (λh=>absurd h (by decide)) λ_=>⟨_,_,_,rfl,⟨by simp,by simp⟩,λN1 I=>?_⟩⟩
   exact O (by omega) h3 N1 _ λN2 aa _=>⟨by omega,by rw[oC,b1];omega,λN3 ab=>Qst (J _ (by omega)) (ui u)⟩
theorem CO (l:List Int):∀ b:ByteArray,(l.foldl (λr n=>r.push (UInt8.ofNat n.toNat)) b).data.toList=b.data.toList++l.map λn=>UInt8.ofNat n.toNat:=by
 induction l with
 | nil=>intro b;simp
 | cons x l I=>intro b;simp only[List.foldl_cons,I,ByteArray.data_push,Array.toList_push,nE,oL,mO]
theorem DS (s:ByteArray):zX (s.data.toList.map λb=>((b.toNat:Nat):Int))=s:=zZ (by
 unfold zX;rw[CO,nw];show []++_=_;rw[o6]
 conv=>rhs;rw[<-List.map_id s.data.toList]
 refine o7 λb _=>?_;simp)
theorem HJ (s:ByteArray):zw s=(s.data.toList.map λb=>((b.toNat:Nat):Int)).map (λn=>D.lit (.int .u8 n)):=by simp[zw,nw,Function.comp_def]
theorem rY (s u:ByteArray):zw (s++u)=zw s++zw u:=by simp[zw]
theorem Kn (s:ByteArray):s++bytes []=s:=zZ (by rw[zL];exact nH _)
theorem LK (s:ByteArray):bytes []++s=s:=zZ (by rw[zL];rfl)
theorem tg (ws:List ByteArray)(by_:ByteArray)(ab:by_.size<=1)(h:tot ws<=140737488355328)(a:Option Addr)(c:Nat):we 100 [.sv a 0 (zR ws) c,.str by_] (xl by_ ws):=λN Q hQ=>by
 have ac:=xh ws;have U:=Ah ws;refine FI N a _ c by_ Q λ_=>?_;refine up (A1 ws) (by omega) (λi xs=>∀(I:ByteArray) (r:List D) (q N':Nat),N<=N'->r=zw I->I.size+tot xs<=tot ws->(i=0->I=bytes []/\xs=ws)->(0<i->I++uJ by_ xs=xl by_ ws)->xG Q N a (zR ws) c by_ r.length q i r q N') ?_ ?_ (bytes []) [] 0 N (oG _) rfl (by rw[NF];omega) (λ_=>⟨rfl,rfl⟩) (λh=>by omega)
 ·intro k U hk I r q N' O V hn Y Z;subst V;refine sd ?_;rw[U];refine⟨oG _,_,(nk (oG _)).trans (HJ I),λN1 ae=>Qst (hQ _ (by omega)) ?_⟩;rw[DS];by_cases aa:k=0
  ·obtain⟨rfl,rfl⟩:=Y aa;rfl
  ·rw[<-Z (by omega)];exact Kn I
 ·intro k x xs J _ ih I r q N' O V hn Y Z;have hb:=J.b;simp only[tot]at hn;have ah:r.length=I.size:=by rw[V,w9]
  refine sd ?_;rw[J.w,oX];refine Br.of (λ_=>?_) λh=>by rw[J.lt]at h;cases h
  refine Br.dec (λhk=>?_) λhk=>?_
  ·refine⟨⟨rfl,rfl⟩,by unfold zK;rw[oK,w9];omega,λc1=>⟨hb,x,J.r,⟨by trivial,by trivial⟩,by unfold zK;simp only[oK,w9];omega,λc2=>ih (I++by_++x) _ c2 N' O (by rw[V,rY,rY]) (by simp only[oC];omega) (λh=>by omega) λ_=>?_⟩⟩;rw[<-Z (by omega),uJ,mq,mq,mq]
  ·refine⟨hb,x,J.r,⟨rfl,rfl⟩,by unfold zK;rw[oK,w9];omega,λc2=>ih (I++x) _ c2 N' O (by rw[V,rY]) (by simp only[oC];omega) (λh=>by omega) λ_=>?_⟩;obtain⟨e1,e2⟩:=Y (by omega);rw[e1,LK,<-e2];rfl
theorem DL {ws:List ByteArray}{i:Nat}(h:i<ws.length):List.getD (zR ws) i default=D.t (ws.getD i (bytes [])):=by
 have I:ws[i]?=some (ws.getD i (bytes [])):=by rw[oA,oF h];rfl
 unfold zR;rw[oA,oE,I];rfl
theorem HC {n:Int}(h:n=0\/n=1):ByteArray.extract (bytes [102,116]) n.toNat (IntKind.i64.wrap (n+1)).toNat=bytes [if n=0 then 102 else 116]:=by rcases h with rfl | rfl<;>decide +kernel
theorem I0 {k n:Int} {nm ot:ByteArray} {ty re:Ty} {l:List Tm} (nd:NodeS k nm ot n ty re l) {t0 t1 r0 r1 x:D} (hh:Tm.Hd nm ot ty re t0 t1 r0 r1) {ws:List ByteArray} (ac:tot ws<=2000000000) (hl:ws.length=l.length) (hk:k≠1/\k≠2/\k≠3/\k≠4/\k≠10/\k≠11) (a:Option Addr) (c:Nat) :
  we 71 [.dg 9 (.ag [.j k,.t nm,.t ot,.j n,t0,t1,r0,r1,x]),.sv a 0 (zR ws) c] (wA k nm ot n ty re ws):=λN Q U=>by
 have ae:=xh ws;have n4:=nd.n4;have o4:=nd.o4;have g0:=uH ws 0;have gj:=uv (bytes [32]) (by decide) ws;have one:0<ws.length->((0:Int)<=(0:Int)/\0<((zR ws).length:Int)):=λh=>⟨by omega,by omega⟩
 have ne:k=6\/k=9\/k=10\/k=11\/k=12\/k=13->0<ws.length:=λh=>by have:=nd.one h;omega
 refine DD N _ a _ c Q λ_ _=>⟨k,rfl,Br.beq (λh5 N1 I=>?_) λh5=>Br.beq (λh6=>?_) λh6=>Br.beq (λh7 N1 I=>?_) λh7=>Br.beq (λh8=>⟨nm,rfl,by omega,by simp only[oC,b5];omega,λN1 I=>?_⟩) λh8=>Br.beq (λh9=>?_) λh9=>Br.beq (λV=>?_) λV=>?_⟩
 ·subst h5;exact tg ws _ (by decide) (by omega) a c N1 _ λN2 J _=>⟨by omega,by simp only[oC,b4];omega,λN3 O=>Qst (U _ (by omega)) (LP ..)⟩
 ·subst h6;have Y:=zo (nd.vt (.inl rfl));have aa:=zu Y.1;refine⟨nm,rfl,by omega,by simp only[oC,b2];omega,one (ne (by omega)),_,DL (ne (by omega)),λN1 I=>?_⟩;exact CR Y.1 (by omega) hh.ty N1 _ λN2 J _=>⟨by simp only[oC,b2,b1];omega,by simp only[oC,b2,b1];omega,by simp only[oC,b2,b1];omega,by simp only[oC,b2,b1];omega,λN3 O=>Qst (U _ (by omega)) (LQ ..)⟩
 ·subst h7;exact tg ws _ (by decide) (by omega) a c N1 _ λN2 J _=>⟨by omega,by simp only[oC,b1];omega,λN3 O=>Qst (U _ (by omega)) (LR ..)⟩
 ·subst h8;exact tg ws _ (by decide) (by omega) a c N1 _ λN2 J _=>⟨by simp only[oC,b5,b1];omega,by simp only[oC,b5,b1];omega,λN3 O=>Qst (U _ (by omega)) (LS ..)⟩
 ·subst h9;have Y:=zo (nd.vt (.inr rfl));have Z:=zo (nd.vr rfl);have aa:=zu Y.1;have ab:=zu Z.1;refine⟨nm,rfl,by omega,by simp only[oC,b5];omega,ot,rfl,by simp only[oC,b5,b1];omega,by simp only[oC,b5,b1];omega,one (ne (by omega)),_,DL (ne (by omega)),λN1 I=>?_⟩;refine CR Y.1 (by omega) hh.ty N1 _ λN2 J _=>⟨by simp only[oC,b5,b1];omega,by simp only[oC,b5,b1];omega,λN3 O=>?_⟩
  exact CR Z.1 (by omega) hh.re N3 _ λN4 ah _=>⟨by simp only[oC,b5,b1];omega,by simp only[oC,b5,b1];omega,by simp only[oC,b5,b1];omega,by simp only[oC,b5,b1];omega,λN5 ai=>Qst (U _ (by omega)) (LT ..)⟩
 ·subst V;exact⟨one (ne (by omega)),_,DL (ne (by omega)),by omega,by simp only[oC,b5];omega,λN1 I=>Qst (U _ (by omega)) (Ev ..)⟩
 ·have hc:=nd.kind;obtain rfl:k=13:=by omega
  exact⟨one (ne (by omega)),_,DL (ne (by omega)),by omega,by simp only[oC,b6];omega,λN1 I=>Qst (U _ (by omega)) (Ew ..)⟩
theorem I1:∀ t:Tm,t.ok=true->t.sz<=4000000->∀ d,t.Is d->we 36 [.dg 9 d] t.tx:=by
 refine Tm.ind λk nm ot n ty re l ih ae ah d hd N Q O=>?_;obtain⟨t0,t1,r0,r1,a,es,c,rfl,hh,Z,aa⟩:=Tm.is_mk.1 hd;have nd:=Er ae;have aq:=aa.len;have n4:=nd.n4;have o4:=nd.o4;have hs:(Tm.mk k nm ot n ty re l).sz=1+wD l:=by simp only[Tm.sz]
 have ao:=EC nd.sub;have U:=FF l;rw[hs]at ah;simp only[Tm.tx]at O;have g0:=uH (txs l) 0;have g1:=Cs (txs l);refine DE N _ Q λ_=>?_;refine up aa Z (λi xs=>∀(ws:List ByteArray) (q N':Nat),N<=N'->ws.length=i->ws++txs xs=txs l->xK Q N (zR ws).length q i _ (zR ws) q N') ?_ ?_ [] 0 N (oG _) rfl rfl
 ·intro i ai hi ws q N' aj ab he;simp only[txs,nH]at he;subst he;have au:=xh (txs l);have ps:0<(txs l).length->((0:Int)<=(0:Int)/\0<((zR (txs l)).length:Int)/\0<(zR (txs l)).length):=λh=>⟨by omega,by omega,by omega⟩
  refine uW ⟨a,es,c,rfl,Br.of (λh=>by rw[ai]at h;cases h) λ_=>⟨k,rfl,Br.beq (λh1=>⟨nm,rfl,λN1 I=>?_⟩) λh1=>Br.beq (λh2=>⟨n,rfl,λN1 I=>?_⟩) λh2=>Br.beq (λh3=>⟨n,rfl,n,rfl,?_⟩) λh3=>Br.beq (λh4=>?_) λh4=>Br.beq (λV=>?_) λV=>Br.beq (λY=>?_) λY=>⟨⟨rfl,rfl⟩,λa2 _ _ N1 I _=>?_⟩⟩⟩
  ·subst h1;exact Qst (O _ (by omega)) (LM ..)
  ·subst h2;have hn:=nd.num rfl;obtain⟨u,rfl⟩:=Int.eq_ofNat_of_zero_le hn.1;exact ys u (by omega) N1 _ λN2 ac _ N3 ak=>Qst (O _ (by omega)) (by rw[LN,oX])
  ·subst h3;have hn:=nd.bit rfl;rw[HC hn,i64_in (n+1) (by omega)];exact⟨⟨by omega,by omega,by omega⟩,by rw[b1];decide,λN1 I=>Qst (O _ (by omega)) (LO ..)⟩
  ·subst h4;have aw:=nd.op rfl;refine Br.beq (λhw=>?_) λhw=>?_
   ·exact⟨ps (by omega),by omega,_,DL (by omega),by omega,by simp only[oC,b2];omega,λN1 I=>Qst (O _ (by omega)) (by rw[Jd,if_pos (by omega)])⟩
   ·exact⟨ps (by omega),by omega,_,DL (by omega),by omega,nm,rfl,by simp only[oC,b1];omega,⟨by omega,by omega,by omega⟩,by omega,_,DL (by omega),by simp only[oC,b1];omega,by simp only[oC,b1];omega,λN1 I=>Qst (O _ (by omega)) (by rw[Jd,if_neg (by omega)])⟩
  ·subst V
   have:=nd.one (by omega)
   exact⟨ps (by omega),by omega,_,DL (by omega),by omega,by simp only[oC,b1];omega,λN1 I=>Qst (O _ (by omega)) (Et ..)⟩
  ·subst Y
   have:=nd.one (by omega)
   exact⟨ps (by omega),by omega,_,DL (by omega),by omega,λN1 I=>Qst (O _ (by omega)) (Eu ..)⟩
  ·exact I0 nd hh (by omega) U ⟨h1,h2,h3,h4,V,Y⟩ a2 q N1 _ λN2 ac _ N3 ak=>O _ (by omega)
 ·intro i x xs J _ al ws q N' aj ab he;have hb:=J.b;have hx:x.sz<=wD l:=Af J.m;have ax:=Ah (txs l);refine uW ⟨a,es,c,rfl,Br.of (λ_=>⟨a,es,c,rfl,hb,λN1 I=>?_⟩) λh=>by rw[J.lt]at h;cases h⟩;rw[oX];refine ih x J.m (nd.sub x J.m) (by omega) _ J.r N1 _ λN2 ac _=>⟨⟨rfl,rfl⟩,by unfold zK;rw[oK,xh];simp only[oR,o5];omega,λc2=>?_⟩
  have e:zR ws++[D.t x.tx]=zR (ws++[x.tx]):=by simp[zR]
  rw[e,J.w];exact al (ws++[x.tx]) c2 N2 (by omega) (by simp[ab]) (by rw[<-he];simp[txs])
end Go.Proofs.YtldbmnklnpfpfaaGreatDoor
set_option maxRecDepth 100000
namespace Go.Proofs.YtldbmnklnpfpfaaGreatDoor
open Go Go.Proofs Go.Proofs.Tryz Go.IntWalk
theorem GH {t:Ty}(hw:Wf t):t.cnt<=1000000->∀ {d:D},t.Is d->we 110 [.dg 2 d] (Ai t):=by
 induction hw with
 | int=>intro hc d hd N Q J;obtain⟨b,fs,k,rfl,_,h2⟩:=Ty.is_mk.1 hd;exact yv N _ Q λ_=>⟨1,rfl,Br.beq (λ_ N1 I=>J _ I) λh=>absurd rfl h⟩
 | bool=>intro hc d hd N Q J;obtain⟨b,fs,k,rfl,_,h2⟩:=Ty.is_mk.1 hd;exact yv N _ Q λ_=>⟨2,rfl,Br.beq (λh=>absurd h (by decide)) λ_=>Br.beq (λ_ N1 I=>J _ I) λh=>absurd rfl h⟩
 | @fn u v U hv O V=>
   intro hc d hd N Q J;have Y:(DJ u v).cnt=1+(u.cnt+(v.cnt+0)):=rfl;have s1:=zu U;have s2:=zu hv;obtain⟨b,fs,k,rfl,Z,d1,_,rfl,h3,d2,_,rfl,h4,rfl⟩:=Ty.is_mk.1 hd;refine yv N _ Q λ_=>⟨3,rfl,Br.beq (λh=>absurd h (by decide)) λ_=>Br.beq (λh=>absurd h (by decide)) λ_=>Br.beq (λ_=>⟨_,_,_,rfl,⟨by simp,by simp⟩,_,_,_,rfl,⟨by simp,by simp⟩,λN1 I=>?_⟩) λh=>absurd rfl h⟩
   refine O (by omega) h3 N1 _ λN2 aa _=>⟨by omega,by rw[oC,b1];omega,λN3 ab=>?_⟩
   exact V (by omega) h4 N3 _ λN4 ac _=>⟨by simp only[oC,b1];omega,by simp only[oC,b1];omega,λN5 ae=>Qst (J _ (by omega)) (Aj u v)⟩
 | @code u U O=>
   intro hc d hd N Q J;have Y:(v7 u).cnt=1+(u.cnt+0):=rfl;have s1:=zu U;obtain⟨b,fs,k,rfl,Z,d1,_,rfl,h3,rfl⟩:=Ty.is_mk.1 hd;refine yv N _ Q λ_=>⟨4,rfl,Br.beq (λh=>absurd h (by decide)) λ_=>Br.beq (λh=>absurd h (by decide)) λ_=>Br.beq (λh=>absurd h (by decide)) λ_=>⟨_,_,_,rfl,⟨by simp,by simp⟩,λN1 I=>?_⟩⟩
   exact O (by omega) h3 N1 _ λN2 aa _=>⟨by omega,by rw[oC,b1];omega,λN3 ab=>Qst (J _ (by omega)) (ui u)⟩
theorem uD {t:Ty}(I:t.valid=true){d:D}(hd:t.Is d):we 82 [.dg 2 d] (Ai t):=λN Q O=>by have h:=zo I;have J:=xO t d hd (by omega);rw[I]at J;exact qL N d Q λ_ N1 U=>J N1 _ λN2 V _=>Br.not (λh=>by cases h) λ_ N3 Y=>GH h.1 (by omega) hd N3 _ λN4 Z _ N5 aa=>O _ (by omega)
theorem L7:∀ t:Tm,t.ok=true->t.sz<=4000000->∀ d,t.Is d->we 47 [.dg 9 d] t.tx:=by
 refine Tm.ind λk nm ot n ty re l ih ak al d hd N Q J=>?_;obtain⟨t0,t1,r0,r1,a,es,c,rfl,hh,ab,ac⟩:=Tm.is_mk.1 hd;have nd:=Er ak;have a7:=ac.len;have n4:=nd.n4;have o4:=nd.o4;have hs:(Tm.mk k nm ot n ty re l).sz=1+wD l:=by simp only[Tm.sz]
 have az:=EC nd.sub;have ao:=FF l;rw[hs]at al;simp only[Tm.tx]at J;have g0:=uH (txs l) 0;have g1:=Cs (txs l);have gj:=uv (bytes [32]) (by decide) (txs l);refine qu N _ Q λ_=>⟨a,es,c,rfl,?_⟩
 refine up ac ab (λi xs=>∀(ws:List ByteArray) (q N':Nat),N<=N'->ws.length=i->ws++txs xs=txs l->yQ Q N (zR ws).length q a es c (es.length:Int) i _ (zR ws) q N') ?_ ?_ [] 0 N (oG _) rfl rfl
 ·intro i aq hi ws q N' au ae he;simp only[txs,nH]at he;subst he;have a8:=xh (txs l);have ps:0<(txs l).length->((0:Int)<=(0:Int)/\0<((zR (txs l)).length:Int)/\0<(zR (txs l)).length):=λh=>⟨by omega,by omega,by omega⟩
  have hj:=λa c=>Ea (txs l) (bytes [32]) (by decide) (by omega) a c;refine wj (Br.of (λh=>by rw[aq]at h;cases h) λ_=>⟨k,rfl,Br.beq (λh1=>⟨nm,rfl,λN1 I=>?_⟩) λh1=>Br.beq (λh2=>⟨n,rfl,λN1 I=>?_⟩) λh2=>Br.beq (λh3=>⟨n,rfl,n,rfl,?_⟩) λh3=>Br.beq (λh4=>?_) λh4=>Br.beq (λh5=>⟨⟨rfl,rfl⟩,λa2 _ N1 I _=>?_⟩) λh5=>Br.beq (λh6=>?_) λh6=>Br.beq (λh7=>⟨⟨rfl,rfl⟩,λa2 _ N1 I _=>?_⟩) λh7=>Br.beq (λh8=>⟨nm,rfl,by omega,by simp only[oC,b5];omega,⟨rfl,rfl⟩,λa2 _ N1 I _=>?_⟩) λh8=>Br.beq (λh9=>?_) λh9=>Br.beq (λah=>?_) λah=>Br.beq (λai=>?_) λai=>Br.beq (λaj=>?_) λaj=>?_⟩)
  ·subst h1;exact Qst (J _ (by omega)) (LM ..)
  ·subst h2;have hn:=nd.num rfl;obtain⟨u,rfl⟩:=Int.eq_ofNat_of_zero_le hn.1;exact vh u (by omega) N1 _ λY U _ N3 V=>Qst (J _ (by omega)) (by rw[LN,oX])
  ·subst h3;have hn:=nd.bit rfl;rw[HC hn,i64_in (n+1) (by omega)];exact⟨⟨by omega,by omega,by omega⟩,by rw[b1];decide,λN1 I=>Qst (J _ (by omega)) (LO ..)⟩
  ·subst h4;have ba:=nd.op rfl;refine Br.beq (λhw=>?_) λhw=>?_
   ·exact⟨ps (by omega),by omega,_,DL (by omega),by omega,by simp only[oC,b2];omega,λN1 I=>Qst (J _ (by omega)) (by rw[Jd,if_pos (by omega)])⟩
   ·exact⟨ps (by omega),by omega,_,DL (by omega),by omega,nm,rfl,by simp only[oC,b1];omega,⟨by omega,by omega,by omega⟩,by omega,_,DL (by omega),by simp only[oC,b1];omega,by simp only[oC,b1];omega,λN1 I=>Qst (J _ (by omega)) (by rw[Jd,if_neg (by omega)])⟩
  ·subst h5;exact hj _ _ N1 _ λY U _=>⟨by omega,by simp only[oC,b4];omega,λN3 V=>Qst (J _ (by omega)) (LP ..)⟩
  ·subst h6;have Z:=nd.vt (.inl rfl);have aw:=zu (zo Z).1;have ax:=(zo Z).2
   have:=nd.one (by omega)
   refine⟨nm,rfl,by omega,by simp only[oC,b2];omega,ps (by omega),by omega,_,DL (by omega),λN1 I=>?_⟩;exact uD Z hh.ty N1 _ λY U _=>⟨by simp only[oC,b2,b1];omega,by simp only[oC,b2,b1];omega,by simp only[oC,b2,b1];omega,by simp only[oC,b2,b1];omega,λN3 V=>Qst (J _ (by omega)) (LQ ..)⟩
  ·subst h7;exact hj _ _ N1 _ λY U _=>⟨by omega,by simp only[oC,b1];omega,λN3 V=>Qst (J _ (by omega)) (LR ..)⟩
  ·subst h8;exact hj _ _ N1 _ λY U _=>⟨by simp only[oC,b5,b1];omega,by simp only[oC,b5,b1];omega,λN3 V=>Qst (J _ (by omega)) (LS ..)⟩
  ·subst h9;have Z:=nd.vt (.inr rfl);have aa:=nd.vr rfl;have aw:=zu (zo Z).1;have a1:=zu (zo aa).1;have ax:=(zo Z).2;have a6:=(zo aa).2
   have:=nd.one (by omega)
   refine⟨nm,rfl,by omega,by simp only[oC,b5];omega,ot,rfl,by simp only[oC,b5,b1];omega,by simp only[oC,b5,b1];omega,ps (by omega),by omega,_,DL (by omega),λN1 I=>?_⟩;refine uD Z hh.ty N1 _ λY U _=>⟨by simp only[oC,b5,b1];omega,by simp only[oC,b5,b1];omega,λN3 V=>?_⟩
   exact uD aa hh.re N3 _ λN4 bb _=>⟨by simp only[oC,b5,b1];omega,by simp only[oC,b5,b1];omega,by simp only[oC,b5,b1];omega,by simp only[oC,b5,b1];omega,λN5 bc=>Qst (J _ (by omega)) (LT ..)⟩
  ·subst ah
   have:=nd.one (by omega)
   exact⟨ps (by omega),by omega,_,DL (by omega),by omega,by simp only[oC,b1];omega,λN1 I=>Qst (J _ (by omega)) (Et ..)⟩
  ·subst ai
   have:=nd.one (by omega)
   exact⟨ps (by omega),by omega,_,DL (by omega),by omega,λN1 I=>Qst (J _ (by omega)) (Eu ..)⟩
  ·subst aj
   have:=nd.one (by omega)
   exact⟨ps (by omega),by omega,_,DL (by omega),by omega,by simp only[oC,b5];omega,λN1 I=>Qst (J _ (by omega)) (Ev ..)⟩
  ·have hc:=nd.kind;obtain rfl:k=13:=by omega
   have:=nd.one (by omega)
   exact⟨ps (by omega),by omega,_,DL (by omega),by omega,by simp only[oC,b6];omega,λN1 I=>Qst (J _ (by omega)) (Ew ..)⟩
 ·intro i x xs O _ ay ws q N' au ae he;have hb:=O.b;have hx:x.sz<=wD l:=Af O.m;have bd:=Ah (txs l);refine wj (Br.of (λ_=>⟨hb,λN1 I=>?_⟩) λh=>by rw[O.lt]at h;cases h);rw[oX];refine ih x O.m (nd.sub x O.m) (by omega) _ O.r N1 _ λY U _=>⟨⟨rfl,rfl⟩,by unfold zK;rw[oK,xh];simp only[oR,o5];omega,λc2=>?_⟩
  have e:zR ws++[D.t x.tx]=zR (ws++[x.tx]):=by simp[zR]
  rw[e,O.w];exact ay (ws++[x.tx]) c2 Y (by omega) (by simp[ae]) (by rw[<-he];simp[txs])
end Go.Proofs.YtldbmnklnpfpfaaGreatDoor
