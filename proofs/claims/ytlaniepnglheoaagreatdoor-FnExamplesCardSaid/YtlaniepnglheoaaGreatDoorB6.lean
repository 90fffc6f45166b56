/- Texts of types and terms: what they are, and how long (no program in sight). -/
import Derived.Test.YtlaniepnglheoaaGreatDoorA9
import Derived.Test.YtlaniepnglheoaaGreatDoorA5
import Derived.Test.YtlaniepnglheoaaGreatDoorKa
import Derived.Shelf.Strings.OnBuilder
import Derived.Test.YtlaniepnglheoaaGreatDoorKf
set_option linter.unusedVariables false
set_option linter.unusedSimpArgs false
set_option maxRecDepth 100000
namespace Go.Proofs.YtlaniepnglheoaaGreatDoor
open Go Go.Proofs Go.Proofs.Tryz Go.IntWalk
def pO (b:aG):List aG->aG
 | []=>bytes []
 | s::l=>b++s++pO b l
def ua (b:aG):List aG->aG
 | []=>bytes []
 | s::l=>s++pO b l
mutual
def EU:Ty->aG
 | .mk k l=>if k=1 then bytes [73]else if k=2 then bytes [66]else if k=3 then bytes [40]++(WU l).getD 0 (bytes [])++bytes [62]++(WU l).getD 1 (bytes [])++bytes [41]else bytes [60]++(WU l).getD 0 (bytes [])++bytes [62]
def WU:aR->List aG
 | []=>[]
 | t::l=>EU t::WU l
end
def u6 (k:Int)(nm ot:aG)(n:Int)(ty re:Ty)(ws:List aG):aG:=
 if k=1 then nm else if k=2 then Rx n.toNat else if k=3 then bytes [35]++bytes [if n=0 then 102 else 116]
 else if k=4 then(if ws.length=1 then bytes [40,33]++ws.getD 0 (bytes [])++bytes [41]else bytes [40]++ws.getD 0 (bytes [])++nm++ws.getD 1 (bytes [])++bytes [41])
 else if k=5 then bytes [40,105,102,32]++ua (bytes [32]) ws++bytes [41]
 else if k=6 then bytes [40,92]++nm++bytes [58]++EU ty++bytes [46]++ws.getD 0 (bytes [])++bytes [41]
 else if k=7 then bytes [40]++ua (bytes [32]) ws++bytes [41]
 else if k=8 then bytes [40,108,101,116,32]++nm++bytes [61]++ua (bytes [32]) ws++bytes [41]
 else if k=9 then bytes [40,114,101,99,32]++nm++bytes [32]++ot++bytes [58]++EU ty++bytes [62]++EU re++bytes [46]++ws.getD 0 (bytes [])++bytes [41]
 else if k=10 then bytes [60]++ws.getD 0 (bytes [])++bytes [62]
 else if k=11 then bytes [126]++ws.getD 0 (bytes [])
 else if k=12 then bytes [40,114,117,110,32]++ws.getD 0 (bytes [])++bytes [41]
 else bytes [40,108,105,102,116,32]++ws.getD 0 (bytes [])++bytes [41]
section
variable (nm ot:aG) (n:Int) (ty re:Ty) (ws:List aG)
theorem YM:u6 1 nm ot n ty re ws=nm:=rfl
theorem YN:u6 2 nm ot n ty re ws=Rx n.toNat:=rfl
theorem YO:u6 3 nm ot n ty re ws=bytes [35]++bytes [if n=0 then 102 else 116]:=rfl
theorem Vs:u6 4 nm ot n ty re ws=if ws.length=1 then bytes [40,33]++ws.getD 0 (bytes [])++bytes [41]else bytes [40]++ws.getD 0 (bytes [])++nm++ws.getD 1 (bytes [])++bytes [41]:=rfl
theorem YP:u6 5 nm ot n ty re ws=bytes [40,105,102,32]++ua (bytes [32]) ws++bytes [41]:=rfl
theorem YQ:u6 6 nm ot n ty re ws=bytes [40,92]++nm++bytes [58]++EU ty++bytes [46]++ws.getD 0 (bytes [])++bytes [41]:=rfl
theorem YR:u6 7 nm ot n ty re ws=bytes [40]++ua (bytes [32]) ws++bytes [41]:=rfl
theorem YS:u6 8 nm ot n ty re ws=bytes [40,108,101,116,32]++nm++bytes [61]++ua (bytes [32]) ws++bytes [41]:=rfl
theorem YT:u6 9 nm ot n ty re ws=bytes [40,114,101,99,32]++nm++bytes [32]++ot++bytes [58]++EU ty++bytes [62]++EU re++bytes [46]++ws.getD 0 (bytes [])++bytes [41]:=rfl
theorem Ou:u6 10 nm ot n ty re ws=bytes [60]++ws.getD 0 (bytes [])++bytes [62]:=rfl
theorem Ov:u6 11 nm ot n ty re ws=bytes [126]++ws.getD 0 (bytes []):=rfl
theorem Ow:u6 12 nm ot n ty re ws=bytes [40,114,117,110,32]++ws.getD 0 (bytes [])++bytes [41]:=rfl
theorem Ox:u6 13 nm ot n ty re ws=bytes [40,108,105,102,116,32]++ws.getD 0 (bytes [])++bytes [41]:=rfl
end
mutual
def Tm.tx:Tm->aG
 | .mk k nm ot n ty re l=>u6 k nm ot n ty re (txs l)
def txs:aP->List aG
 | []=>[]
 | t::l=>t.tx::txs l
end
theorem PL:∀ l:aP,(txs l).length=l.length
 | []=>rfl
 | x::l=>by simp[txs,PL l]
def tot:List aG->Nat
 | []=>0
 | s::l=>s.size+1+tot l
theorem Hq:∀ l:List aG,l.length<=tot l
 | []=>by simp[tot]
 | x::l=>by have:=Hq l;simp only[tot,oJ];omega
theorem Ji b(hb:b.size<=1):∀ l:List aG,(pO b l).size<=tot l
 | []=>by simp[pO,tot];rfl
 | x::l=>by have:=Ji b hb l;simp only[pO,tot,oE];omega
theorem Ab b(hb:b.size<=1):∀ l:List aG,(ua b l).size<=tot l
 | []=>by simp[ua,tot];rfl
 | x::l=>by have:=Ji b hb l;simp only[ua,tot,oE];omega
theorem zA1:(bytes []).size=0:=rfl
theorem b1 a:(bytes [a]).size=1:=rfl
theorem b2 a b:(bytes [a,b]).size=2:=rfl
theorem b4 a b c d:(bytes [a,b,c,d]).size=4:=rfl
theorem b5 a b c d e:(bytes [a,b,c,d,e]).size=5:=rfl
theorem b6 a b c d e f:(bytes [a,b,c,d,e,f]).size=6:=rfl
theorem Yx:∀ t:Ty,t.form=true->Wf t:=by
 refine Ty.ind λk l ih h=>?_;simp only[Ty.form,oL]at h;obtain⟨J,O⟩:=h;have sub:∀ t∈l,Wf t:=λt ht=>ih t ht (by
  have key:∀ l:aR,t8 l=true->∀ t∈l,t.form=true:=by
   intro l
   induction l with
   | nil=>intro _ t ht;simp at ht
   | cons x l U=>
     intro h t ht;simp only[t8,oL]at h;rcases oK.1 ht with rfl | ht
     ·exact h.1
     ·exact U h.2 t ht
  exact key l (by first | exact J | exact O) t ht)
 have I:pJ k l.length=true:=by first | exact J | exact O
 unfold pJ at I;split at I
 ·rename_i Y;have:l=[]:=oV (by have:=mG.1 I;omega);subst this;rcases Y with rfl | rfl
  ·exact .int
  ·exact .bool
 split at I
 ·rename_i aa;subst aa;have O:l.length=2:=by have:=mG.1 I;omega
  match l,O,sub with
  | [a,b],_,sub=>exact .fn (sub a aB) (sub b aB)
 split at I
 ·rename_i ab;subst ab;have J:l.length=1:=by have:=mG.1 I;omega
  match l,J,sub with
  | [a],_,sub=>exact .code (sub a aB)
 ·cases I
theorem yP {t}(h:t.valid=true):Wf t/\t.cnt<=30:=by refine⟨Yx t ?_,Ty.valid_cnt h⟩;simp only[Ty.valid,oL]at h;exact h.2
theorem Hr a b:EU (wP a b)=bytes [40]++EU a++bytes [62]++EU b++bytes [41]:=rfl
theorem AJ a:EU (xW a)=bytes [60]++EU a++bytes [62]:=rfl
theorem yj {t}(I:Wf t):(EU t).size<=3*t.cnt:=by
 induction I with
 | int=>decide
 | bool=>decide
 | @fn u v _ _ J O=>have:(wP u v).cnt=1+(u.cnt+(v.cnt+0)):=rfl;rw[Hr];simp only[oE,b1];omega
 | @code u _ J=>have:(xW u).cnt=1+(u.cnt+0):=rfl;rw[AJ];simp only[oE,b1];omega
theorem HM {s}(h:yN s=true):s.size<=4:=by
 simp only[yN,FB,oL]at h
 have:=(yE.1 h.2.1).2
 omega
theorem Ta {s}(h:rj s>0):s.size<=4:=by
 unfold rj at h
 (repeat' split at h)<;>first | (rename_i e;rw[e];decide) | (exfalso;revert h;decide)
theorem RS {k nm ot}(h:zx k nm ot=true):nm.size<=4/\ot.size<=4:=by
 unfold zx at h
 (repeat' split at h)<;>simp only[oL,oh,nM,nw]at h
 ·exact⟨Ta h.1,by rw[h.2];decide⟩
 ·exact⟨HM h.1,by rw[h.2];decide⟩
 ·exact⟨HM h.1,HM h.2.1⟩
 ·rw[h.1,h.2];decide
structure NodeS (k:Int) (nm ot:aG) (n:Int) (ty re:Ty) (l:aP):Prop extends Node k nm ot n ty re l where
 n4:nm.size<=4
 o4:ot.size<=4
 num:k=2->0<=n/\n<=10006
 bit:k=3->n=0\/n=1
 one:k=6\/k=9\/k=10\/k=11\/k=12\/k=13->l.length=1
 op:k=4->l.length=1\/l.length=2
 kind:k=1\/k=2\/k=3\/k=4\/k=5\/k=6\/k=7\/k=8\/k=9\/k=10\/k=11\/k=12\/k=13
theorem Oo {k nm ot n ty re l}(h:(Tm.mk k nm ot n ty re l).ok=true):NodeS k nm ot n ty re l:=by
 have nd:=yn h;have f:=nd.f;simp only[zH,oL]at f;obtain⟨n4,o4⟩:=RS f.2.2.2.2.2;have O:=yE.1 f.2.2.2.2.1;have I:=nd.ar;refine { toNode:=nd,n4:=n4,o4:=o4,num:=λJ=>?_,bit:=λJ=>?_,one:=λJ=>?_,op:=λJ=>?_,kind:=Gd (nm:=nm) aA }
 ·rw[if_pos J]at O;exact O
 ·rw[if_neg aA,if_pos J]at O;omega
 ·unfold IL at I;rw[if_neg aA,if_neg aA,if_pos aA]at I;omega
 ·subst J;have I:(l.length:Int)=rj nm:=I;have h:=f.2.2.2.2.2;simp only[zx]at h;rw[if_pos trivial]at h;simp only[oL,oh]at h
  have:=h.1
  have U:rj nm=1\/rj nm=2:=by
   revert this;unfold rj
   (repeat' split)<;>simp
  omega
theorem pM ws i:(ws.getD i (bytes [])).size<=tot ws:=by
 induction ws generalizing i with
 | nil=>simp only[List.getD_nil,zA1,tot];omega
 | cons x l I=>
   cases i with
   | zero=>simp only[mL,tot];omega
   | succ i=>have:=I i;simp only[mr,tot];omega
theorem LP ws:(ws.getD 0 (bytes [])).size+(ws.getD 1 (bytes [])).size<=tot ws:=by
 cases ws with
 | nil=>simp only[List.getD_nil,zA1,tot];omega
 | cons x l=>have:=pM l 0;simp only[mL,mr,tot];omega
theorem Oq {k nm ot n ty re l}(nd:NodeS k nm ot n ty re l) ws:(u6 k nm ot n ty re ws).size<=tot ws+300:=by
 have O:=nd.n4;have U:=nd.o4;have g0:=pM ws 0;have Y:=LP ws;have gj:=Ab (bytes [32]) aD ws;have I:k=6\/k=9->(EU ty).size<=90:=λh=>by have:=yP (nd.vt h);have:=yj this.1;omega
 have J:k=9->(EU re).size<=90:=λh=>by have:=yP (nd.vr h);have:=yj this.1;omega
 have hd:k=2->(Rx n.toNat).size<=20:=λh=>by have:=nd.num h;rw[Cg];exact EJ _ aA
 rcases nd.kind with rfl | rfl | rfl | rfl | rfl | rfl | rfl | rfl | rfl | rfl | rfl | rfl | rfl
 ·rw[YM];omega
 ·rw[YN];have:=hd rfl;omega
 ·rw[YO];simp only[oE,b1];omega
 ·rw[Vs];split<;>simp only[oE,b1,b2]<;>omega
 ·rw[YP];simp only[oE,b1,b4];omega
 ·rw[YQ];have:=I (.inl rfl);simp only[oE,b1,b2];omega
 ·rw[YR];simp only[oE,b1];omega
 ·rw[YS];simp only[oE,b1,b5];omega
 ·rw[YT];have:=I (.inr rfl);have:=J rfl;simp only[oE,b1,b5];omega
 ·rw[Ou];simp only[oE,b1];omega
 ·rw[Ov];simp only[oE,b1];omega
 ·rw[Ow];simp only[oE,b1,b5];omega
 ·rw[Ox];simp only[oE,b1,b6];omega
theorem Hp:∀ {l:aP}{t:Tm},t∈l->t.sz<=zQ l
 | x::l,t,h=>by
   simp only[zQ];rcases oK.1 h with rfl | h
   ·omega
   ·have:=Hp h;omega
theorem PK:∀ t:Tm,t.ok=true->t.tx.size+1<=500*t.sz:=by
 refine Tm.ind λk nm ot n ty re l J O=>?_;have nd:=Oo O;have key:∀ l:aP,(∀ t∈l,t.tx.size+1<=500*t.sz)->tot (txs l)<=500*zQ l:=by
  intro l
  induction l with
  | nil=>intro _;simp[txs,tot,zQ]
  | cons x l J=>intro h;have Y:=h x aB;have U:=J λt I=>h t (by simp[I]);simp only[txs,tot,zQ];omega
 have h:=key l λt I=>J t I (nd.sub t I);have U:=Oq nd (txs l);simp only[Tm.tx,Tm.sz];omega
theorem NZ {l}(h:∀ t∈l,t.ok=true):tot (txs l)<=500*zQ l:=by
 induction l with
 | nil=>simp[txs,tot,zQ]
 | cons x l I=>have O:=PK x (h x aB);have U:=I λt J=>h t (by simp[J]);simp only[txs,tot,zQ];omega
def WR (t:Tm):aG:=if t.ok=true then t.tx else bytes []
end Go.Proofs.YtlaniepnglheoaaGreatDoor
namespace Go.Proofs
namespace YtlaniepnglheoaaGreatDoor
open Go Go.Proofs Go.Proofs.Tryz Go.RowKit Go.Shelf
def Z5:Go.Shelf.Ren:=⟨λx=>match x with | 156=>197 | 165=>237 | 166=>238 | 169=>239 | 240=>259 | 241=>260 | 276=>278 | 277=>279 | n=>n,λx=>match x with | 0=>0 | 3=>3 | 4=>4 | 5=>5 | 9=>9 | 20=>20 | 31=>53 | 37=>26 | 70=>188 | 72=>190 | 75=>169 | 76=>170 | 80=>73 | 127=>210 | 164=>222 | n=>n,λn=>n⟩
theorem YD:Lays.n156 Tryz.prog Z5 where
 mixed:=by kernel_rfl
 f156:=Tryz.func197.trans (oY some (by kernel_rfl))
 f165:=Tryz.func237.trans (oY some (by kernel_rfl))
 f166:=Tryz.func238.trans (oY some (by kernel_rfl))
 f169:=Tryz.func239.trans (oY some (by kernel_rfl))
 f240:=Tryz.func259.trans (oY some (by kernel_rfl))
 f241:=Tryz.func260.trans (oY some (by kernel_rfl))
 f276:=Tryz.func278.trans (oY some (by kernel_rfl))
 f277:=Tryz.func279.trans (oY some (by kernel_rfl))
 t0:=Tryz.underlying0
 a0:=Tryz.isAgg0
 z0:=Tryz.sizeOf0
 v0:=Tryz.zeroValue0
 t3:=Tryz.underlying3
 a3:=Tryz.isAgg3
 z3:=Tryz.sizeOf3
 v3:=Tryz.zeroValue3
 t4:=Tryz.underlying4
 a4:=Tryz.isAgg4
 z4:=Tryz.sizeOf4
 v4:=Tryz.zeroValue4
 t9:=Tryz.underlying9
 a9:=Tryz.isAgg9
 z9:=Tryz.sizeOf9
 v9:=Tryz.zeroValue9
 t20:=Tryz.underlying20
 a20:=Tryz.isAgg20
 z20:=Tryz.sizeOf20
 v20:=Tryz.zeroValue20
 t31:=Tryz.underlying53
 a31:=Tryz.isAgg53
 z31:=Tryz.sizeOf53
 v31:=Tryz.zeroValue53
 t37:=Tryz.underlying26
 a37:=Tryz.isAgg26
 z37:=Tryz.sizeOf26
 v37:=Tryz.zeroValue26
 t70:=Tryz.underlying188
 a70:=Tryz.isAgg188
 z70:=Tryz.sizeOf188
 v70:=Tryz.zeroValue188
 t72:=Tryz.underlying190
 a72:=Tryz.isAgg190
 z72:=Tryz.sizeOf190
 v72:=Tryz.zeroValue190
 t75:=Tryz.underlying169
 a75:=Tryz.isAgg169
 z75:=Tryz.sizeOf169
 v75:=Tryz.zeroValue169
 t76:=Tryz.underlying170
 a76:=Tryz.isAgg170
 z76:=Tryz.sizeOf170
 v76:=Tryz.zeroValue170
 t127:=Tryz.underlying210
 a127:=Tryz.isAgg210
 z127:=Tryz.sizeOf210
 v127:=Tryz.zeroValue210
 t164:=Tryz.underlying222
 a164:=Tryz.isAgg222
 z164:=Tryz.sizeOf222
 v164:=Tryz.zeroValue222
theorem YE:Builder.Extra Tryz.prog Z5 where
 sizeBuilder:=by kernel_rfl
 liesBuilder:=by kernel_rfl
 t5:=Tryz.underlying5
 a5:=Tryz.isAgg5
 z5:=Tryz.sizeOf5
 v5:=Tryz.zeroValue5
 infoByte:=by kernel_rfl
 cellsByte:=by kernel_rfl
 sizeByte:=by kernel_rfl
 neB5:=aD
theorem HA b:∀ l:List aG,(pO b l).data.toList=Lib.joinTail b.data.toList (l.map (·.data.toList))
 | []=>rfl
 | s::l=>by simp only[pO,zV,HA b l,Lib.joinTail,o9,List.flatten_cons]
theorem G8 b l:(ua b l).data.toList=Lib.join (l.map (·.data.toList)) b.data.toList:=by
 cases l with
 | nil=>rfl
 | cons s l=>simp only[ua,zV,HA,o9,Lib.join_cons]
theorem Of l:yM (zA l)=zA l:=by
 induction l with
 | nil=>rfl
 | cons s l I=>simp only[zA,o9,uZ,D.cells]at I ⊢;rw[I];rfl
theorem PI {u N}{Q:QT [.str]}{av w0 w}(hN:w0.heap.size=N)(O:∀ N',N<=N'->Q u N')(I:Below w0.heap.size w0 w):Fin [.str] Q av w0 (.returned (.string u)) w:=
 ⟨[.str u],[],[],{ q:=O _ (by have:=I.size;omega),v:=rfl,m:=⟨rfl,aB,aB,aB,λk j b h=>by obtain⟨_,U,_⟩:=h;simp[Env.at]at U⟩,ok:=λp J=>by simp at J;subst J;trivial,fresh:=λk b h=>by simp[Env.at]at h,size:=I.size,old:=I.block,fz:=λ_ _ _ _ _ _=>trivial,ku:=⟨I.os,I.output⟩ }⟩
theorem Ij ws by_(ac:by_.size<=1)(h:tot ws<=140737488355328) a c:xX 197 [.sv a 0 (zA ws) c,.str by_] (ua by_ ws):=λN Q hQ=>
 ⟨by kernel_rfl,λav w0 hN ao U=>by
  have hg:=(U (.sv a 0 (zA ws) c) aB).1;simp only[PV.Ok]at hg;have hH:=hg.1;have hl:=zG ws;have aq:=Hq ws;have ae:(Lib.join (ws.map (·.data.toList)) by_.data.toList).length<=140737488355328:=by rw[<-G8,nY];exact oR (Ab by_ ac ws) h
  have he:(⟨(Lib.join (ws.map (·.data.toList)) by_.data.toList).toArray⟩:aG)=ua by_ ws:=yA (by rw[G8]);have hv:([PV.sv a 0 (zA ws) c,.str by_].map (PV.val [])).toArray=#[.slice a ws.length c,.string by_]:=by simp[PV.val,PV.val1,PV.cv,hl]
  rw[hv];have ah:∀ es,es=zA ws->Holds w0 (.sl a 0 es c):=λes h=>h ▸ hH;clear hH;have key:∀ es,es=zA ws->Holds w0 (.sl a 0 es c)->(a=none/\es=[]/\c=0)\/∃ ad,a=some ad/\(es≠[]->ad.spot=none)/\es.length<=c/\Row w0 ad (yM es):=λes _ h=>by
   cases h with
   | nil=>exact .inl ⟨rfl,rfl,rfl⟩
   | sl J Y _ _ h3=>exact .inr ⟨_,rfl,J,Y,h3⟩
  rcases key _ rfl (ah _ rfl)with⟨rfl,ai,rfl⟩ | ⟨ad,rfl,hs,hc,I⟩
  ·have aj:ws=[]:=ms.1 (by rw[<-hl,ai];rfl);subst aj;refine(Any.strings_Join_none YD YE none 0 by_ w0).mono λe w ⟨J,Y⟩=>?_;subst J;subst Y;exact PI hN hQ (Below.refl _ _)
  ·by_cases aa:ws=[]
   ·subst aa;refine(Any.strings_Join_none YD YE _ c by_ w0).mono λe w ⟨J,Y⟩=>?_;subst J;subst Y;exact PI hN hQ (Below.refl _ _)
   have O:zA ws≠[]:=λhc=>aa (ms.1 (by rw[<-hl,hc];rfl));obtain⟨ab,off,sp⟩:=ad;have ak:sp=none:=hs O;subst ak;rw[Of]at I;rcases I with I | ⟨cc,t,fz,J,Y⟩
   ·exact absurd I O
   have al:ab<w0.heap.size:=(oW.1 J).1;refine(Any.strings_Join YD YE ab off c ws by_ w0 (λj x hj=>?_) al aA (by rw[<-hl];exact hc) ae).mono λe w ⟨h3,h4⟩=>?_
   ·have hd:(zA ws)[j]?=some (.t x):=by simp[zA,hj]
    rw[sx J];exact Y j _ hd
   ·rw[he]at h3;subst h3;exact PI hN hQ h4⟩
theorem OO ws by_(I:by_.size<=1)(h:tot ws<=140737488355328) a c:xX 132 [.sv a 0 (zA ws) c,.str by_] (ua by_ ws):=λN Q J=>PS N a _ c by_ Q λ_ N1 O=>Ij ws by_ I h a c N1 _ λN2 U _ N3 Y=>J _ aA
end YtlaniepnglheoaaGreatDoor
end Go.Proofs
set_option maxRecDepth 100000
namespace Go.Proofs.YtlaniepnglheoaaGreatDoor
open Go Go.Proofs Go.Proofs.Tryz Go.IntWalk
theorem F8 {t}(hw:Wf t):t.cnt<=1000000->∀ {d:D},t.Is d->xX 50 [.dg 2 d] (EU t):=by
 induction hw with
 | int=>intro hc d hd N Q J;obtain⟨b,fs,k,rfl,_,h2⟩:=Ty.is_mk.1 hd;exact tH N _ Q λ_=>⟨1,rfl,Br.beq (λ_ N1 I=>J _ I) λh=>absurd rfl h⟩
 | bool=>intro hc d hd N Q J;obtain⟨b,fs,k,rfl,_,h2⟩:=Ty.is_mk.1 hd;exact tH N _ Q λ_=>⟨2,rfl,Br.beq (λh=>absurd h aD) λ_=>Br.beq (λ_ N1 I=>J _ I) λh=>absurd rfl h⟩
 | @fn u v U hv O Y=>
   intro hc d hd N Q J;have aa:(wP u v).cnt=1+(u.cnt+(v.cnt+0)):=rfl;have s1:=yj U;have s2:=yj hv;obtain⟨b,fs,k,rfl,ab,d1,_,rfl,h3,d2,_,rfl,h4,rfl⟩:=Ty.is_mk.1 hd;refine tH N _ Q λ_=>⟨3,rfl,Br.beq (λh=>absurd h aD) λ_=>Br.beq (λh=>absurd h aD) λ_=>Br.beq (λ_=>⟨_,_,_,rfl,⟨aB,aB⟩,_,_,_,rfl,⟨aB,aB⟩,λN1 I=>?_⟩) λh=>absurd rfl h⟩
   refine O aA h3 N1 _ λN2 ac _=>⟨aA,by rw[oE,b1];omega,λN3 ae=>?_⟩
   exact Y aA h4 N3 _ λN4 ah _=>⟨by simp only[oE,b1];omega,by simp only[oE,b1];omega,λN5 ai=>Qst (J _ aA) (Hr u v)⟩
 | @code u U O=>
   intro hc d hd N Q J;have aa:(xW u).cnt=1+(u.cnt+0):=rfl;have s1:=yj U;obtain⟨b,fs,k,rfl,ab,d1,_,rfl,h3,rfl⟩:=Ty.is_mk.1 hd;refine tH N _ Q λ_=>⟨4,rfl,Br.beq (λh=>absurd h aD) λ_=>Br.beq (λh=>absurd h aD) λ_=>Br.beq (λh=>absurd h aD) λ_=>⟨_,_,_,rfl,⟨aB,aB⟩,λN1 I=>?_⟩⟩
   exact O aA h3 N1 _ λN2 ac _=>⟨aA,by rw[oE,b1];omega,λN3 ae=>Qst (J _ aA) (AJ u)⟩
theorem Kb (l:List Int):∀ b:aG,(l.foldl (λr n=>r.push (UInt8.ofNat n.toNat)) b).data.toList=b.data.toList++l.map λn=>UInt8.ofNat n.toNat:=by
 induction l with
 | nil=>intro b;simp
 | cons x l I=>intro b;simp only[List.foldl_cons,I,ByteArray.data_push,Array.toList_push,o9,oP,lS]
theorem MQ s:bytesOf (s.data.toList.map λb=>((b.toNat:Nat):Int))=s:=yA (by
 unfold bytesOf;rw[Kb,mO];show []++_=_;rw[oa]
 conv=>rhs;rw[<-lV s.data.toList]
 refine nF λb _=>?_;simp)
theorem SL s:xH s=(s.data.toList.map λb=>((b.toNat:Nat):Int)).map (λn=>D.lit (.int .u8 n)):=by simp[xH,mO,Function.comp_def]
theorem Ds s u:xH (s++u)=xH s++xH u:=by simp[xH]
theorem XW s:s++bytes []=s:=yA (by rw[zV];exact o8 _)
theorem YL s:bytes []++s=s:=yA (by rw[zV];rfl)
theorem Be ws by_(ab:by_.size<=1)(h:tot ws<=140737488355328) a c:xX 162 [.sv a 0 (zA ws) c,.str by_] (ua by_ ws):=λN Q hQ=>by
 have ac:=zG ws;have U:=Hq ws;refine PW N a _ c by_ Q λ_=>?_;refine up (xg ws) aA (λi xs=>∀(I:aG) (r:aM) (q N':Nat),N<=N'->r=xH I->I.size+tot xs<=tot ws->(i=0->I=bytes []/\xs=ws)->(0<i->I++pO by_ xs=ua by_ ws)->vM Q N a (zA ws) c by_ r.length q i r q N') ?_ ?_ (bytes []) [] 0 N (oC _) rfl (by rw[zA1];omega) (λ_=>⟨rfl,rfl⟩) (λh=>aA)
 ·intro k U hk I r q N' O Y hn h0 h1;subst Y;refine Co ?_;rw[U];refine⟨oC _,_,(o3 (oC _)).trans (SL I),λN1 ae=>Qst (hQ _ aA) ?_⟩;rw[MQ];by_cases aa:k=0
  ·obtain⟨rfl,rfl⟩:=h0 aa;rfl
  ·rw[<-h1 aA];exact XW I
 ·intro k x xs J _ ih I r q N' O Y hn h0 h1;have hb:=J.b;simp only[tot]at hn;have ah:r.length=I.size:=by rw[Y,rE]
  refine Co ?_;rw[J.w,oI];refine Br.of (λ_=>?_) λh=>by rw[J.lt]at h;cases h
  refine Br.dec (λhk=>?_) λhk=>?_
  ·refine⟨⟨rfl,rfl⟩,by unfold zB;rw[oG,rE];omega,λc1=>⟨hb,x,J.r,⟨by trivial,by trivial⟩,by unfold zB;simp only[oG,rE];omega,λc2=>ih (I++by_++x) _ c2 N' O (by rw[Y,Ds,Ds]) (by simp only[oE];omega) (λh=>aA) λ_=>?_⟩⟩;rw[<-h1 aA,pO,lP,lP,lP]
  ·refine⟨hb,x,J.r,⟨rfl,rfl⟩,by unfold zB;rw[oG,rE];omega,λc2=>ih (I++x) _ c2 N' O (by rw[Y,Ds]) (by simp only[oE];omega) (λh=>aA) λ_=>?_⟩;obtain⟨e1,e2⟩:=h0 aA;rw[e1,YL,<-e2];rfl
theorem MC {ws i}(h:i<ws.length):List.getD (zA ws) i default=D.t (ws.getD i (bytes [])):=by
 have I:ws[i]?=some (ws.getD i (bytes [])):=by rw[oA,oH h];rfl
 unfold zA;rw[oA,oF,I];rfl
theorem SE {n}(h:n=0\/n=1):ByteArray.extract (bytes [102,116]) n.toNat (IntKind.i64.wrap (n+1)).toNat=bytes [if n=0 then 102 else 116]:=by rcases h with rfl | rfl<;>decide +kernel
theorem U7 {k n nm ot ty re l}(nd:NodeS k nm ot n ty re l){t0 t1 r0 r1 x}(hh:Tm.Hd nm ot ty re t0 t1 r0 r1){ws}(ae:tot ws<=2000000000)(hl:ws.length=l.length)(hk:k≠1/\k≠2/\k≠3/\k≠4/\k≠10/\k≠11) a c :
  xX 102 [.dg 9 (.ag [.j k,.t nm,.t ot,.j n,t0,t1,r0,r1,x]),.sv a 0 (zA ws) c] (u6 k nm ot n ty re ws):=λN Q U=>by
 have ah:=zG ws;have n4:=nd.n4;have o4:=nd.o4;have g0:=pM ws 0;have gj:=Ab (bytes [32]) aD ws;have one:0<ws.length->((0:Int)<=(0:Int)/\0<((zA ws).length:Int)):=λh=>⟨aA,aA⟩
 have ne:k=6\/k=9\/k=10\/k=11\/k=12\/k=13->0<ws.length:=λh=>by have:=nd.one h;omega
 refine Lx N _ a _ c Q λ_ _=>⟨k,rfl,Br.beq (λh5 N1 I=>?_) λh5=>Br.beq (λh6=>?_) λh6=>Br.beq (λh7 N1 I=>?_) λh7=>Br.beq (λh8=>⟨nm,rfl,aA,by simp only[oE,b5];omega,λN1 I=>?_⟩) λh8=>Br.beq (λh9=>?_) λh9=>Br.beq (λY=>?_) λY=>?_⟩
 ·subst h5;exact Be ws _ aD aA a c N1 _ λN2 J _=>⟨aA,by simp only[oE,b4];omega,λN3 O=>Qst (U _ aA) (YP ..)⟩
 ·subst h6;have hv:=yP (nd.vt (.inl rfl));have ab:=yj hv.1;refine⟨nm,rfl,aA,by simp only[oE,b2];omega,one (ne aA),_,MC (ne aA),λN1 I=>?_⟩;exact F8 hv.1 aA hh.ty N1 _ λN2 J _=>⟨by simp only[oE,b2,b1];omega,by simp only[oE,b2,b1];omega,by simp only[oE,b2,b1];omega,by simp only[oE,b2,b1];omega,λN3 O=>Qst (U _ aA) (YQ ..)⟩
 ·subst h7;exact Be ws _ aD aA a c N1 _ λN2 J _=>⟨aA,by simp only[oE,b1];omega,λN3 O=>Qst (U _ aA) (YR ..)⟩
 ·subst h8;exact Be ws _ aD aA a c N1 _ λN2 J _=>⟨by simp only[oE,b5,b1];omega,by simp only[oE,b5,b1];omega,λN3 O=>Qst (U _ aA) (YS ..)⟩
 ·subst h9;have hv:=yP (nd.vt (.inr rfl));have aa:=yP (nd.vr rfl);have ab:=yj hv.1;have ac:=yj aa.1;refine⟨nm,rfl,aA,by simp only[oE,b5];omega,ot,rfl,by simp only[oE,b5,b1];omega,by simp only[oE,b5,b1];omega,one (ne aA),_,MC (ne aA),λN1 I=>?_⟩;refine F8 hv.1 aA hh.ty N1 _ λN2 J _=>⟨by simp only[oE,b5,b1];omega,by simp only[oE,b5,b1];omega,λN3 O=>?_⟩
  exact F8 aa.1 aA hh.re N3 _ λN4 ai _=>⟨by simp only[oE,b5,b1];omega,by simp only[oE,b5,b1];omega,by simp only[oE,b5,b1];omega,by simp only[oE,b5,b1];omega,λN5 aj=>Qst (U _ aA) (YT ..)⟩
 ·subst Y;exact⟨one (ne aA),_,MC (ne aA),aA,by simp only[oE,b5];omega,λN1 I=>Qst (U _ aA) (Ow ..)⟩
 ·have hc:=nd.kind;obtain rfl:k=13:=aA
  exact⟨one (ne aA),_,MC (ne aA),aA,by simp only[oE,b6];omega,λN1 I=>Qst (U _ aA) (Ox ..)⟩
theorem Pi:∀ t:Tm,t.ok=true->t.sz<=4000000->∀ d,t.Is d->xX 52 [.dg 9 d] t.tx:=by
 refine Tm.ind λk nm ot n ty re l ih ai aj d hd N Q O=>?_;obtain⟨t0,t1,r0,r1,a,es,c,rfl,hh,ab,ac⟩:=Tm.is_mk.1 hd;have nd:=Oo ai;have aw:=ac.len;have n4:=nd.n4;have o4:=nd.o4;have hs:(Tm.mk k nm ot n ty re l).sz=1+zQ l:=by simp only[Tm.sz]
 have au:=NZ nd.sub;have U:=PL l;rw[hs]at aj;simp only[Tm.tx]at O;have g0:=pM (txs l) 0;have g1:=LP (txs l);refine Ly N _ Q λ_=>?_;refine up ac ab (λi xs=>∀(ws:List aG) (q N':Nat),N<=N'->ws.length=i->ws++txs xs=txs l->vZ Q N (zA ws).length q i _ (zA ws) q N') ?_ ?_ [] 0 N (oC _) rfl rfl
 ·intro i ak hi ws q N' al ae he;simp only[txs,o8]at he;subst he;have ax:=zG (txs l);have ps:0<(txs l).length->((0:Int)<=(0:Int)/\0<((zA (txs l)).length:Int)/\0<(zA (txs l)).length):=λh=>⟨aA,aA,aA⟩
  refine pq ⟨a,es,c,rfl,Br.of (λh=>by rw[ak]at h;cases h) λ_=>⟨k,rfl,Br.beq (λh1=>⟨nm,rfl,λN1 I=>?_⟩) λh1=>Br.beq (λh2=>⟨n,rfl,λN1 I=>?_⟩) λh2=>Br.beq (λh3=>⟨n,rfl,n,rfl,?_⟩) λh3=>Br.beq (λh4=>?_) λh4=>Br.beq (λY=>?_) λY=>Br.beq (λaa=>?_) λaa=>⟨⟨rfl,rfl⟩,λa2 _ _ N1 I _=>?_⟩⟩⟩
  ·subst h1;exact Qst (O _ aA) (YM ..)
  ·subst h2;have hn:=nd.num rfl;obtain⟨u,rfl⟩:=Int.eq_ofNat_of_zero_le hn.1;exact xe u aA N1 _ λN2 ah _ N3 ao=>Qst (O _ aA) (by rw[YN,oI])
  ·subst h3;have hn:=nd.bit rfl;rw[SE hn,i64_in (n+1) aA];exact⟨⟨aA,aA,aA⟩,by rw[b1];decide,λN1 I=>Qst (O _ aA) (YO ..)⟩
  ·subst h4;have ay:=nd.op rfl;refine Br.beq (λhw=>?_) λhw=>?_
   ·exact⟨ps aA,aA,_,MC aA,aA,by simp only[oE,b2];omega,λN1 I=>Qst (O _ aA) (by rw[Vs,if_pos aA])⟩
   ·exact⟨ps aA,aA,_,MC aA,aA,nm,rfl,by simp only[oE,b1];omega,⟨aA,aA,aA⟩,aA,_,MC aA,by simp only[oE,b1];omega,by simp only[oE,b1];omega,λN1 I=>Qst (O _ aA) (by rw[Vs,if_neg aA])⟩
  ·subst Y
   have:=nd.one aA
   exact⟨ps aA,aA,_,MC aA,aA,by simp only[oE,b1];omega,λN1 I=>Qst (O _ aA) (Ou ..)⟩
  ·subst aa
   have:=nd.one aA
   exact⟨ps aA,aA,_,MC aA,aA,λN1 I=>Qst (O _ aA) (Ov ..)⟩
  ·exact U7 nd hh aA U ⟨h1,h2,h3,h4,Y,aa⟩ a2 q N1 _ λN2 ah _ N3 ao=>O _ aA
 ·intro i x xs J _ aq ws q N' al ae he;have hb:=J.b;have hx:x.sz<=zQ l:=Hp J.m;have az:=Hq (txs l);refine pq ⟨a,es,c,rfl,Br.of (λ_=>⟨a,es,c,rfl,hb,λN1 I=>?_⟩) λh=>by rw[J.lt]at h;cases h⟩;rw[oI];refine ih x J.m (nd.sub x J.m) aA _ J.r N1 _ λN2 ah _=>⟨⟨rfl,rfl⟩,by unfold zB;rw[oG,zG];simp only[oJ,oN];omega,λc2=>?_⟩
  have e:zA ws++[D.t x.tx]=zA (ws++[x.tx]):=by simp[zA]
  rw[e,J.w];exact aq (ws++[x.tx]) c2 N2 aA (by simp[ae]) (by rw[<-he];simp[txs])
theorem Gs {t d}(hd:t.Is d)(hc:t.cnt<=4000000):xX 21 [.dg 9 d] (WR t):=λN Q J=>ID N d Q λ_ N1 O=>CX t d hd aA N1 _ λN2 U _=>Br.not (λI N3 Y=>Qst (J _ aA) (by rw[WR,if_neg (by rw[I];decide)])) λI N4 aa=>Pi t I (by have:=Tm.sz_cnt t;omega) d hd N4 _ λN5 ab _ N6 ac=>Qst (J _ aA) (by rw[WR,if_pos I])
end Go.Proofs.YtlaniepnglheoaaGreatDoor
set_option maxRecDepth 100000
namespace Go.Proofs.YtlaniepnglheoaaGreatDoor
open Go Go.Proofs Go.Proofs.Tryz Go.IntWalk
theorem Q9 {t}(hw:Wf t):t.cnt<=1000000->∀ {d:D},t.Is d->xX 63 [.dg 2 d] (EU t):=by
 induction hw with
 | int=>intro hc d hd N Q J;obtain⟨b,fs,k,rfl,_,h2⟩:=Ty.is_mk.1 hd;exact wq N _ Q λ_=>⟨1,rfl,Br.beq (λ_ N1 I=>J _ I) λh=>absurd rfl h⟩
 | bool=>intro hc d hd N Q J;obtain⟨b,fs,k,rfl,_,h2⟩:=Ty.is_mk.1 hd;exact wq N _ Q λ_=>⟨2,rfl,Br.beq (λh=>absurd h aD) λ_=>Br.beq (λ_ N1 I=>J _ I) λh=>absurd rfl h⟩
 | @fn u v U hv O Y=>
   intro hc d hd N Q J;have aa:(wP u v).cnt=1+(u.cnt+(v.cnt+0)):=rfl;have s1:=yj U;have s2:=yj hv;obtain⟨b,fs,k,rfl,ab,d1,_,rfl,h3,d2,_,rfl,h4,rfl⟩:=Ty.is_mk.1 hd;refine wq N _ Q λ_=>⟨3,rfl,Br.beq (λh=>absurd h aD) λ_=>Br.beq (λh=>absurd h aD) λ_=>Br.beq (λ_=>⟨_,_,_,rfl,⟨aB,aB⟩,_,_,_,rfl,⟨aB,aB⟩,λN1 I=>?_⟩) λh=>absurd rfl h⟩
   refine O aA h3 N1 _ λN2 ac _=>⟨aA,by rw[oE,b1];omega,λN3 ae=>?_⟩
   exact Y aA h4 N3 _ λN4 ah _=>⟨by simp only[oE,b1];omega,by simp only[oE,b1];omega,λN5 ai=>Qst (J _ aA) (Hr u v)⟩
 | @code u U O=>
   intro hc d hd N Q J;have aa:(xW u).cnt=1+(u.cnt+0):=rfl;have s1:=yj U;obtain⟨b,fs,k,rfl,ab,d1,_,rfl,h3,rfl⟩:=Ty.is_mk.1 hd;refine wq N _ Q λ_=>⟨4,rfl,Br.beq (λh=>absurd h aD) λ_=>Br.beq (λh=>absurd h aD) λ_=>Br.beq (λh=>absurd h aD) λ_=>⟨_,_,_,rfl,⟨aB,aB⟩,λN1 I=>?_⟩⟩
   exact O aA h3 N1 _ λN2 ac _=>⟨aA,by rw[oE,b1];omega,λN3 ae=>Qst (J _ aA) (AJ u)⟩
theorem uY {t}(I:t.valid=true){d}(hd:t.Is d):xX 27 [.dg 2 d] (EU t):=λN Q O=>by have h:=yP I;have J:=xA t d hd aA;rw[I]at J;exact EX N d Q λ_ N1 U=>J N1 _ λN2 Y _=>Br.not (λh=>by cases h) λ_ N3 aa=>Q9 h.1 aA hd N3 _ λN4 ab _ N5 ac=>O _ aA
theorem Wi:∀ t:Tm,t.ok=true->t.sz<=4000000->∀ d,t.Is d->xX 65 [.dg 9 d] t.tx:=by
 refine Tm.ind λk nm ot n ty re l ih ak al d hd N Q J=>?_;obtain⟨t0,t1,r0,r1,a,es,c,rfl,hh,ab,ac⟩:=Tm.is_mk.1 hd;have nd:=Oo ak;have a8:=ac.len;have n4:=nd.n4;have o4:=nd.o4;have hs:(Tm.mk k nm ot n ty re l).sz=1+zQ l:=by simp only[Tm.sz]
 have az:=NZ nd.sub;have ao:=PL l;rw[hs]at al;simp only[Tm.tx]at J;have g0:=pM (txs l) 0;have g1:=LP (txs l);have gj:=Ab (bytes [32]) aD (txs l);refine Ff N _ Q λ_=>⟨a,es,c,rfl,?_⟩
 refine up ac ab (λi xs=>∀(ws:List aG) (q N':Nat),N<=N'->ws.length=i->ws++txs xs=txs l->xl Q N (zA ws).length q a es c (es.length:Int) i _ (zA ws) q N') ?_ ?_ [] 0 N (oC _) rfl rfl
 ·intro i aq hi ws q N' au ae he;simp only[txs,o8]at he;subst he;have ba:=zG (txs l);have ps:0<(txs l).length->((0:Int)<=(0:Int)/\0<((zA (txs l)).length:Int)/\0<(zA (txs l)).length):=λh=>⟨aA,aA,aA⟩
  have hj:=λa c=>OO (txs l) (bytes [32]) aD aA a c;refine sS (Br.of (λh=>by rw[aq]at h;cases h) λ_=>⟨k,rfl,Br.beq (λh1=>⟨nm,rfl,λN1 I=>?_⟩) λh1=>Br.beq (λh2=>⟨n,rfl,λN1 I=>?_⟩) λh2=>Br.beq (λh3=>⟨n,rfl,n,rfl,?_⟩) λh3=>Br.beq (λh4=>?_) λh4=>Br.beq (λh5=>⟨⟨rfl,rfl⟩,λa2 _ N1 I _=>?_⟩) λh5=>Br.beq (λh6=>?_) λh6=>Br.beq (λh7=>⟨⟨rfl,rfl⟩,λa2 _ N1 I _=>?_⟩) λh7=>Br.beq (λh8=>⟨nm,rfl,aA,by simp only[oE,b5];omega,⟨rfl,rfl⟩,λa2 _ N1 I _=>?_⟩) λh8=>Br.beq (λh9=>?_) λh9=>Br.beq (λah=>?_) λah=>Br.beq (λai=>?_) λai=>Br.beq (λaj=>?_) λaj=>?_⟩)
  ·subst h1;exact Qst (J _ aA) (YM ..)
  ·subst h2;have hn:=nd.num rfl;obtain⟨u,rfl⟩:=Int.eq_ofNat_of_zero_le hn.1;exact um u aA N1 _ λN2 U _ N3 Y=>Qst (J _ aA) (by rw[YN,oI])
  ·subst h3;have hn:=nd.bit rfl;rw[SE hn,i64_in (n+1) aA];exact⟨⟨aA,aA,aA⟩,by rw[b1];decide,λN1 I=>Qst (J _ aA) (YO ..)⟩
  ·subst h4;have bb:=nd.op rfl;refine Br.beq (λhw=>?_) λhw=>?_
   ·exact⟨ps aA,aA,_,MC aA,aA,by simp only[oE,b2];omega,λN1 I=>Qst (J _ aA) (by rw[Vs,if_pos aA])⟩
   ·exact⟨ps aA,aA,_,MC aA,aA,nm,rfl,by simp only[oE,b1];omega,⟨aA,aA,aA⟩,aA,_,MC aA,by simp only[oE,b1];omega,by simp only[oE,b1];omega,λN1 I=>Qst (J _ aA) (by rw[Vs,if_neg aA])⟩
  ·subst h5;exact hj _ _ N1 _ λN2 U _=>⟨aA,by simp only[oE,b4];omega,λN3 Y=>Qst (J _ aA) (YP ..)⟩
  ·subst h6;have hv:=nd.vt (.inl rfl);have aw:=yj (yP hv).1;have ax:=(yP hv).2
   have:=nd.one aA
   refine⟨nm,rfl,aA,by simp only[oE,b2];omega,ps aA,aA,_,MC aA,λN1 I=>?_⟩;exact uY hv hh.ty N1 _ λN2 U _=>⟨by simp only[oE,b2,b1];omega,by simp only[oE,b2,b1];omega,by simp only[oE,b2,b1];omega,by simp only[oE,b2,b1];omega,λN3 Y=>Qst (J _ aA) (YQ ..)⟩
  ·subst h7;exact hj _ _ N1 _ λN2 U _=>⟨aA,by simp only[oE,b1];omega,λN3 Y=>Qst (J _ aA) (YR ..)⟩
  ·subst h8;exact hj _ _ N1 _ λN2 U _=>⟨by simp only[oE,b5,b1];omega,by simp only[oE,b5,b1];omega,λN3 Y=>Qst (J _ aA) (YS ..)⟩
  ·subst h9;have hv:=nd.vt (.inr rfl);have aa:=nd.vr rfl;have aw:=yj (yP hv).1;have a6:=yj (yP aa).1;have ax:=(yP hv).2;have a7:=(yP aa).2
   have:=nd.one aA
   refine⟨nm,rfl,aA,by simp only[oE,b5];omega,ot,rfl,by simp only[oE,b5,b1];omega,by simp only[oE,b5,b1];omega,ps aA,aA,_,MC aA,λN1 I=>?_⟩;refine uY hv hh.ty N1 _ λN2 U _=>⟨by simp only[oE,b5,b1];omega,by simp only[oE,b5,b1];omega,λN3 Y=>?_⟩
   exact uY aa hh.re N3 _ λN4 bc _=>⟨by simp only[oE,b5,b1];omega,by simp only[oE,b5,b1];omega,by simp only[oE,b5,b1];omega,by simp only[oE,b5,b1];omega,λN5 bg=>Qst (J _ aA) (YT ..)⟩
  ·subst ah
   have:=nd.one aA
   exact⟨ps aA,aA,_,MC aA,aA,by simp only[oE,b1];omega,λN1 I=>Qst (J _ aA) (Ou ..)⟩
  ·subst ai
   have:=nd.one aA
   exact⟨ps aA,aA,_,MC aA,aA,λN1 I=>Qst (J _ aA) (Ov ..)⟩
  ·subst aj
   have:=nd.one aA
   exact⟨ps aA,aA,_,MC aA,aA,by simp only[oE,b5];omega,λN1 I=>Qst (J _ aA) (Ow ..)⟩
  ·have hc:=nd.kind;obtain rfl:k=13:=aA
   have:=nd.one aA
   exact⟨ps aA,aA,_,MC aA,aA,by simp only[oE,b6];omega,λN1 I=>Qst (J _ aA) (Ox ..)⟩
 ·intro i x xs O _ ay ws q N' au ae he;have hb:=O.b;have hx:x.sz<=zQ l:=Hp O.m;have bh:=Hq (txs l);refine sS (Br.of (λ_=>⟨hb,λN1 I=>?_⟩) λh=>by rw[O.lt]at h;cases h);rw[oI];refine ih x O.m (nd.sub x O.m) aA _ O.r N1 _ λN2 U _=>⟨⟨rfl,rfl⟩,by unfold zB;rw[oG,zG];simp only[oJ,oN];omega,λc2=>?_⟩
  have e:zA ws++[D.t x.tx]=zA (ws++[x.tx]):=by simp[zA]
  rw[e,O.w];exact ay (ws++[x.tx]) c2 N2 aA (by simp[ae]) (by rw[<-he];simp[txs])
theorem Gm {t d}(hd:t.Is d)(hc:t.cnt<=4000000):xX 29 [.dg 9 d] (WR t):=λN Q J=>H4 N d Q λ_ N1 O=>CU t d hd aA N1 _ λN2 U _=>Br.not (λI N3 Y=>Qst (J _ aA) (by rw[WR,if_neg (by rw[I];decide)])) λI N4 aa=>Wi t I (by have:=Tm.sz_cnt t;omega) d hd N4 _ λN5 ab _ N6 ac=>Qst (J _ aA) (by rw[WR,if_pos I])
end Go.Proofs.YtlaniepnglheoaaGreatDoor
set_option maxRecDepth 100000
namespace Go.Proofs.YtlaniepnglheoaaGreatDoor
open Go Go.Proofs Go.Proofs.Tryz Go.IntWalk
abbrev Bl:=List UInt8
def pre:Bl->Bl->Option Bl
 | [],l=>some l
 | _::_,[]=>none
 | c::p,d::l=>if c=d then pre p l else none
theorem uu p l:pre p (p++l)=some l:=by
 induction p with
 | nil=>rfl
 | cons c p I=>simp[pre,I]
theorem yI:∀ {p l r:Bl},pre p l=some r->l=p++r
 | [],l,r,h=>by simp only[pre,od]at h;simp[h]
 | c::p,[],r,h=>by simp[pre]at h
 | c::p,d::l,r,h=>by
   simp only[pre]at h;split at h
   ·rename_i e;rw[yI h,e];rfl
   ·cases h
theorem AA {c d}(h:c≠d) p l:pre (c::p) (d::l)=none:=by simp[pre,h]
theorem zAD c p l:pre (c::p) (c::l)=pre p l:=by simp[pre]
def idC (b:UInt8):Bool:=decide (48<=b.toNat/\b.toNat<=57\/97<=b.toNat/\b.toNat<=122)
def Dd (b:UInt8):Bool:=decide (48<=b.toNat/\b.toNat<=57)
def word:Bl->Bl × Bl
 | []=>([],[])
 | b::l=>if idC b then(b::(word l).1,(word l).2)else([],b::l)
def Stop l:=∀ b r,l=b::r->idC b=false
theorem GL w r(I:∀ b∈w,idC b=true)(J:Stop r):word (w++r)=(w,r):=by
 induction w with
 | nil=>
   cases r with
   | nil=>rfl
   | cons b r=>simp[word,J b r rfl]
 | cons b w O=>simp[word,I b aB,O λc hc=>I c (by simp[hc])]
theorem Qo:∀ l:Bl,(word l).1++(word l).2=l
 | []=>rfl
 | b::l=>by
   unfold word;split
   ·simp[Qo l]
   ·rfl
open Classical in
noncomputable def wD (w:Bl):Option Nat:=if h:∃ n,n<=999999/\Lib.decDigits n=w then some h.choose else none
theorem HQ {n}(h:n<=999999):wD (Lib.decDigits n)=some n:=by
 have I:∃ m,m<=999999/\Lib.decDigits m=Lib.decDigits n:=⟨n,h,rfl⟩
 unfold wD;rw[dif_pos I];exact oY some (Sq _ _ I.choose_spec.2)
theorem EK {w n}(h:wD w=some n):n<=999999/\Lib.decDigits n=w:=by
 unfold wD at h;split at h
 ·rename_i I;cases h;exact I.choose_spec
 ·cases h
theorem Ah {w}(h:∀ n,n<=999999->Lib.decDigits n≠w):wD w=none:=by
 unfold wD;rw[dif_neg]
 rintro⟨n,I,J⟩;exact h n I J
theorem rx:∀(n:Nat),∀ b∈Lib.decDigits n,Dd b=true:=by
 intro n
 induction n using Nat.strongRecOn with
 | _ n I=>
   intro b hb;have hd:∀ k,k<10->Dd (UInt8.ofNat (48+k))=true:=by
    intro k J;have:k=0\/k=1\/k=2\/k=3\/k=4\/k=5\/k=6\/k=7\/k=8\/k=9:=aA
    rcases this with rfl | rfl | rfl | rfl | rfl | rfl | rfl | rfl | rfl | rfl<;>decide
   rw[Lib.decDigits]at hb;split at hb
   ·rename_i h;rw[oi]at hb;subst hb;exact hd n h
   ·rcases oM.1 hb with hb | hb
    ·exact I _ aA b hb
    ·rw[oi]at hb;subst hb;exact hd _ aA
theorem Me n:∃ b l,Lib.decDigits n=b::l:=by
 cases h:Lib.decDigits n with
 | nil=>exfalso;rw[Lib.decDigits]at h;split at h<;>simp at h
 | cons b l=>exact⟨b,l,rfl⟩
theorem Mf {b}(h:Dd b=true):idC b=true:=by simp only[Dd,idC,oh]at h ⊢;exact .inl h
def tM : Nat->Bl->Option (Ty × Bl)
 | 0,_=>none
 | n + 1,l=>match pre [73] l with
   | some r=>some (tInt,r)
   | none=>match pre [66] l with
     | some r=>some (tBool,r)
     | none=>match pre [60] l with
       | some r=>(tM n r).bind λx=>(pre [62] x.2).map λr=>(xW x.1,r)
       | none=>(pre [40] l).bind λr=>(tM n r).bind λx=>(pre [62] x.2).bind λr=>(tM n r).bind λy=>(pre [41] y.2).map λr=>(wP x.1 y.1,r)
def tyL (t:Ty):Bl:=(EU t).data.toList
theorem Yu:tyL tInt=[73]:=rfl
theorem WS:tyL tBool=[66]:=rfl
theorem zAc a b:tyL (wP a b)=[40]++(tyL a++([62]++(tyL b++[41]))):=by unfold tyL;rw[Hr];simp only[zV,oP];rfl
theorem WT a:tyL (xW a)=[60]++(tyL a++[62]):=by unfold tyL;rw[AJ];simp only[zV,oP];rfl
theorem Wm a b:(wP a b).dep=max a.dep b.dep+1:=by simp[wP,Ty.dep,sj]
theorem Pj a:(xW a).dep=a.dep+1:=by simp[xW,Ty.dep,sj]
theorem W6 n l:tM (n+1) ([73]++l)=some (tInt,l):=by simp[tM,pre]
theorem W3 n l:tM (n+1) ([66]++l)=some (tBool,l):=by simp[tM,pre]
theorem W4 n l:tM (n+1) ([60]++l)=(tM n l).bind λx=>(pre [62] x.2).map λr=>(xW x.1,r):=by simp[tM,pre]
theorem W5 n l:tM (n+1) ([40]++l)=(tM n l).bind λx=>(pre [62] x.2).bind λr=>(tM n r).bind λy=>(pre [41] y.2).map λr=>(wP x.1 y.1,r):=by simp[tM,pre]
theorem O4 {t}(O:Wf t):∀(n:Nat)(r:Bl),t.dep<=n->tM n (tyL t++r)=some (t,r):=by
 induction O with
 | int=>intro n r h;cases n with
   | zero=>exact absurd h aD
   | succ n=>rw[Yu,W6]
 | bool=>intro n r h;cases n with
   | zero=>exact absurd h aD
   | succ n=>rw[WS,W3]
 | @fn u v U Y I J=>intro n r h;cases n with
   | zero=>rw[Wm]at h;omega
   | succ n=>rw[Wm]at h;rw[zAc];simp only[oP];rw[W5];simp only[I n _ aA,J n _ aA,oO,uu,oX]
 | @code u U I=>intro n r h;cases n with
   | zero=>rw[Pj]at h;omega
   | succ n=>rw[Pj]at h;rw[WT];simp only[oP];rw[W4];simp only[I n _ aA,oO,uu,oX]
def WN (n:Nat):Tm:=.mk 2 (bytes []) (bytes []) n tZero tZero []
def tBl (n:Int):Tm:=.mk 3 (bytes []) (bytes []) n tZero tZero []
def tVr (w:Bl):Tm:=.mk 1 ⟨w.toArray⟩ (bytes []) 0 tZero tZero []
noncomputable def OA (sp:Bool)(l:Bl):Option (Tm × Bl):=match l with
 | []=>none
 | b :: _=>match sp with
   | true=>if Dd b then(wD (word l).1).map λn=>(WN n,(word l).2)else some (tVr (word l).1,(word l).2)
   | false=>match wD (word l).1 with
     | some n=>some (WN n,(word l).2)
     | none=>if(word l).1=[]then none else some (tVr (word l).1,(word l).2)
def vB (T:Bl->Option (Tm × Bl))(by_ e:Bl):Nat->Bool->Bl->Option (aP × Bl)
 | 0,_,l=>(pre e l).map λr=>([],r)
 | k+1,f,l=>(if f then some l else pre by_ l).bind λl=>(T l).bind λx=>(vB T by_ e k false x.2).map λy=>(x.1::y.1,y.2)
def mkF (k:Int)(nm ot:Bl)(ty re:Ty)(x:Option (aP × Bl)):Option (Tm × Bl):=x.map λy=>(.mk k ⟨nm.toArray⟩ ⟨ot.toArray⟩ 0 ty re y.1,y.2)
def QM (sp:Bool)(T:Bl->Option (Tm × Bl))(t:Tm):Bl->Option (Tm × Bl)
 | []=>none
 | c::r=>if c=32 then(T r).bind λy=>(pre [41] y.2).map λr=>(.mk 7 (bytes []) (bytes []) 0 tZero tZero [t,y.1],r)
   else if sp=true/\rj ⟨#[c]⟩≠2 then none else(T r).bind λy=>(pre [41] y.2).map λr=>(.mk 4 ⟨#[c]⟩ (bytes []) 0 tZero tZero [t,y.1],r)
def Tt (sp:Bool)(T:Bl->Option (Tm × Bl))(l:Bl):Option (Tm × Bl):=(T l).bind λx=>QM sp T x.1 x.2
def LF (T:Bl->Option (Tm × Bl))(l:Bl):Option (Tm × Bl):=(pre [61] (word l).2).bind λr=>mkF 8 (word l).1 [] tZero tZero (vB T [32] [41] 2 true r)
def O3 (T:Bl->Option (Tm × Bl))(l:Bl):Option (Tm × Bl):=(pre [58] (word l).2).bind λr=>(tM 8 r).bind λt=>(pre [46] t.2).bind λr=>mkF 6 (word l).1 [] t.1 tZero (vB T [] [41] 1 true r)
def LG (T:Bl->Option (Tm × Bl))(l:Bl):Option (Tm × Bl):=(pre [32] (word l).2).bind λm=>(pre [58] (word m).2).bind λr=>(tM 8 r).bind λt=>(pre [62] t.2).bind λr=>(tM 8 r).bind λu=>(pre [46] u.2).bind λr=>mkF 9 (word l).1 (word m).1 t.1 u.1 (vB T [] [41] 1 true r)
def qv (sp : Bool) (T:Bl->Option (Tm × Bl)) (l:Bl):Option (Tm × Bl):=
 match pre [33] l with
 | some r=>mkF 4 [33] [] tZero tZero (vB T [] [41] 1 true r)
 | none => match pre [105,102,32] l with
   | some r=>mkF 5 [] [] tZero tZero (vB T [32] [41] 3 true r)
   | none => match pre [114,117,110,32] l with
     | some r=>mkF 12 [] [] tZero tZero (vB T [] [41] 1 true r)
     | none=>match pre [108,105,102,116,32] l with
       | some r=>mkF 13 [] [] tZero tZero (vB T [] [41] 1 true r)
       | none=>match pre [108,101,116,32] l with
         | some r=>LF T r
         | none=>match pre [92] l with
           | some r=>O3 T r
           | none=>match pre [114,101,99,32] l with
             | some r=>LG T r
             | none=>Tt sp T l
noncomputable def uj (sp:Bool):Nat->Bl->Option (Tm × Bl)
 | 0,_=>none
 | n + 1,l=>match pre [35,116] l with
   | some r=>some (tBl 1,r)
   | none=>match pre [35,102] l with
     | some r=>some (tBl 0,r)
     | none=>match pre [60] l with
       | some r=>mkF 10 [] [] tZero tZero (vB (uj sp n) [] [62] 1 true r)
       | none=>match pre [126] l with
         | some r=>mkF 11 [] [] tZero tZero (vB (uj sp n) [] [] 1 true r)
         | none=>match pre [40] l with
           | some r=>qv sp (uj sp n) r
           | none=>OA sp l
end Go.Proofs.YtlaniepnglheoaaGreatDoor
set_option maxRecDepth 100000
namespace Go.Proofs.YtlaniepnglheoaaGreatDoor
open Go Go.Proofs Go.Proofs.Tryz Go.IntWalk
variable {e r w:Bl} {nm:aG}
def tmL (t:Tm):Bl:=t.tx.data.toList
theorem vv {c}(h:idC c=false) r:Stop (c::r):=λb I e=>by cases e;exact h
structure NmL (w:Bl):Prop where
 id:∀ b∈w,idC b=true
 hd:∃ b l,w=b::l/\Dd b=false
 kw:w≠[105,102]/\w≠[108,101,116]/\w≠[114,101,99]/\w≠[114,117,110]/\w≠[108,105,102,116]
theorem nmL {s}(h:yN s=true):NmL s.data.toList:=by
 simp only[yN,FB,oL,nM,nw]at h;obtain⟨U,h2,k1,k2,k3,k4,k5⟩:=h;have ab:=yE.1 h2;have ne:∀ l:aI,s≠bytes l->s.data.toList≠l.map UInt8.ofNat:=λl hs e=>hs (yA e);have J:∀ i,i<s.size->Cf s i=true:=λi hi=>by unfold tE at U;rw[ob]at U;exact U i (List.mem_range'.2 ⟨i,aA,aA⟩)
 have O:∀(i:Nat) (hi:i<s.data.toList.length),BL s i=((s.data.toList[i]).toNat:Int):=λi hi=>by
  have Y:i<s.data.size:=by simpa using hi
  unfold BL;rw[nC,o6 Y];simp
 have aa:s.data.toList.length=s.size:=aB
 refine⟨λb hb=>?_,?_,ne _ k1,ne _ k2,ne _ k3,ne _ k4,ne _ k5⟩
 ·obtain⟨i,hi,rfl⟩:=List.mem_iff_getElem.1 hb;have I:=J i aA;unfold Cf at I;rw[O i hi]at I;simp only[idC,oh];simp only[mB,oL,oh,nM,nw]at I;omega
 ·have h0:0<s.data.toList.length:=aA
  have I:=J 0 aA;unfold Cf at I;rw[O 0 h0]at I;simp only[mB,oL,oh,nM,nw]at I;cases hl:s.data.toList with
  | nil=>rw[hl]at h0;simp at h0
  | cons b l=>refine⟨b,l,rfl,?_⟩;simp only[hl,List.getElem_cons_zero]at I;simp only[Dd,nw];omega
theorem NmL.num (h:NmL w):wD w=none:=Ah λn _ e=>by
 obtain⟨b,l,rfl,hb⟩:=h.hd
 have:=rx n b (by rw[e];simp)
 rw[hb]at this;cases this
theorem NmL.word (h:NmL w)(I:Stop r):word (w++r)=(w,r):=GL _ _ h.id I
theorem EL:∀ {k w r:Bl},(∀ b∈k,idC b=true)->(∀ b∈w,idC b=true)->Stop r->w≠k->pre (k++[32]) (w++r)=none
 | [],w,r,I,J,O,U=>by
   cases w with
   | nil=>exact absurd rfl U
   | cons b w=>exact AA (λe=>by have:=J b aB;rw[<-e]at this;revert this;decide) _ _
 | c::k,[],r,I,J,O,U=>by
   cases r with
   | nil=>rfl
   | cons b r=>exact AA (λe=>by have:=I c aB;rw[e,O b r rfl]at this;cases this) _ _
 | c::k,b::w,r,I,J,O,U=>by
   simp only[oq,pre];split
   ·rename_i e;exact EL (λx Y=>I x (by simp[Y])) (λx Y=>J x (by simp[Y])) O λh=>U (by rw[e,h])
   ·rfl
structure Fst (l:Bl):Prop where
 a:pre [33] l=none
 b:pre [105,102,32] l=none
 c:pre [114,117,110,32] l=none
 d:pre [108,105,102,116,32] l=none
 e:pre [108,101,116,32] l=none
 f:pre [92] l=none
 g:pre [114,101,99,32] l=none
theorem pL {b}(h:b≠33/\b≠105/\b≠114/\b≠108/\b≠92) l:Fst (b::l):=
 ⟨AA h.1.symm _ _,AA h.2.1.symm _ _,AA h.2.2.1.symm _ _,AA h.2.2.2.1.symm _ _,AA h.2.2.2.1.symm _ _,AA h.2.2.2.2.symm _ _,AA h.2.2.1.symm _ _⟩
theorem Pp (I:∀ b∈w,idC b=true)(O:∃ b l,w=b::l)(J:Stop r)(h:w≠[105,102]/\w≠[108,101,116]/\w≠[114,101,99]/\w≠[114,117,110]/\w≠[108,105,102,116]):Fst (w++r):=by
 have hc:∀ c:UInt8,idC c=false->pre [c] (w++r)=none:=λc hc=>by obtain⟨b,l,rfl⟩:=O;exact AA (λe=>by have:=I b aB;rw[<-e,hc]at this;cases this) _ _
 exact⟨hc _ aD,EL (k:=[105,102]) aD I J h.1,EL (k:=[114,117,110]) aD I J h.2.2.2.1,EL (k:=[108,105,102,116]) aD I J h.2.2.2.2,EL (k:=[108,101,116]) aD I J h.2.1,hc _ aD,EL (k:=[114,101,99]) aD I J h.2.2.1⟩
theorem Tv sp n{b}(hb:idC b=true) l:uj sp (n+1) (b::l)=OA sp (b::l):=by have h:∀ c:UInt8,idC c=false->∀ p,pre (c::p) (b::l)=none:=λc hc p=>AA (λe=>by rw[<-e,hc]at hb;cases hb) _ _;simp only[uj,h 35 aD,h 60 aD,h 126 aD,h 40 aD]
theorem zAI sp n{m}(I:m<=999999)(J:Stop r):uj sp (n+1) (Lib.decDigits m++r)=some (WN m,r):=by
 obtain⟨b,l,e⟩:=Me m;have hd:Dd b=true:=rx m b (by rw[e];simp);have O:word (b::l++r)=(b::l,r):=GL _ _ (λc hc=>Mf (rx m c (by rw[e];exact hc))) J;have U:wD (b::l)=some m:=by rw[<-e];exact HQ I
 rw[e,oq,Tv sp n (Mf hd),<-oq];cases sp<;>simp only[OA,oq]<;>simp only[<-oq,O,U,hd,mI,oX]
theorem Yb sp n(h:NmL w)(I:Stop r):uj sp (n+1) (w++r)=some (tVr w,r):=by have J:=h.word I;have O:=h.num;obtain⟨b,l,rfl,hd⟩:=h.hd;rw[oq,Tv sp n (h.id b aB),<-oq];cases sp<;>simp only[OA,oq]<;>simp only[<-oq,J,O,hd,mF,ni,reduceCtorEq]
def RdT (T:Bl->Option (Tm × Bl)) t:=∀ r,Stop r->T (tmL t++r)=some (t,r)
theorem M9 {T:Bl->Option (Tm × Bl)}{b}(hb:∀ l,Stop (b.data.toList++l))(I:Stop (e++r)):∀(l:aP),(∀ t∈l,RdT T t)->vB T b.data.toList e l.length false ((pO b (txs l)).data.toList++(e++r))=some (l,r)/\Stop ((pO b (txs l)).data.toList++(e++r))
 | [],h=>by refine⟨?_,I⟩;show(pre e ([]++(e++r))).map _=_;rw[oa,uu];rfl
 | x::l,h=>by
   obtain⟨J,hs⟩:=M9 hb I l λt O=>h t (by simp[O]);have e1:(pO b (txs (x::l))).data.toList++(e++r)=b.data.toList++(tmL x++((pO b (txs l)).data.toList++(e++r))):=by simp only[txs,pO,zV,oP];rfl
   rw[e1];refine⟨?_,hb _⟩;simp only[oJ,vB,mF,ni,uu,oO,h x aB _ hs,J,oX]
theorem Tq {T:Bl->Option (Tm × Bl)}{b}(hb:∀ l,Stop (b.data.toList++l))(I:Stop (e++r)) l(h:∀ t∈l,RdT T t){k}(J:k=l.length):vB T b.data.toList e k true ((ua b (txs l)).data.toList++(e++r))=some (l,r):=by
 subst J;cases l with
 | nil=>show(pre e ([]++(e++r))).map _=_;rw[oa,uu];rfl
 | cons x l=>
   obtain⟨O,hs⟩:=M9 hb I l λt U=>h t (by simp[U]);have e1:(ua b (txs (x::l))).data.toList++(e++r)=tmL x++((pO b (txs l)).data.toList++(e++r)):=by simp only[txs,ua,zV,oP];rfl
   rw[e1];simp only[oJ,vB,mI,oO,h x aB _ hs,O,oX]
theorem qC {T:Bl->Option (Tm × Bl)}(I:Stop (e++r)){t}(h:RdT T t) b:vB T b e 1 true (tmL t++(e++r))=some ([t],r):=by simp only[vB,mI,oO,h _ I,uu,oX]
theorem zAe {t}(h:t.zero=true):t=tZero:=by
 cases t with
 | mk k l=>
 simp only[Ty.zero,Ty.k,Ty.as,oL,mG]at h;obtain⟨rfl,h⟩:=h;have:l=[]:=oV aA;subst this;rfl
structure NodeZ (k:Int) (nm ot:aG) (n:Int) (ty re:Ty):Prop where
 ty:k≠6->k≠9->ty=tZero
 re:k≠9->re=tZero
 n:k≠2->k≠3->n=0
 nm:zx k nm ot=true
theorem Vq {k ot n ty re l}(nd:NodeS k nm ot n ty re l):NodeZ k nm ot n ty re:=by
 have f:=nd.f;simp only[zH,oL,mB]at f;obtain⟨q1,O,q3,U,Y,q6⟩:=f;refine⟨λI J=>zAe (O.resolve_left (by simp[qh,I,J])),λh=>zAe (U.resolve_left (by simp[h])),λI J=>?_,q6⟩
 have:=yE.1 Y
 rw[if_neg I,if_neg J]at this;omega
theorem K7 s:(⟨s.data.toList.toArray⟩:aG)=s:=yA rfl
theorem Tb (h:rj nm=2):∃ c:UInt8,nm=⟨#[c]⟩/\idC c=false/\c≠32:=by
 unfold rj at h
 (repeat' split at h)<;>first | (exfalso;revert h;decide) | (rename_i e;exact⟨_,e,aD,aD⟩)
theorem zAB (h:rj nm=1):nm=bytes [33]:=by
 unfold rj at h
 (repeat' split at h)<;>first | (exfalso;revert h;decide) | (rename_i e;exact e)
theorem NQ {t}(J:t.ok=true)(O:Stop r):Fst (tmL t++r):=by
 cases t with
 | mk k nm ot n ty re l=>
 have nd:=Oo J;have U:=Vq nd;unfold tmL;simp only[Tm.tx];rcases nd.kind with rfl | rfl | rfl | rfl | rfl | rfl | rfl | rfl | rfl | rfl | rfl | rfl | rfl
 ·rw[YM];have Y:yN nm=true:=by have:=U.nm;simp[zx]at this;exact this.1
  have h:=nmL Y;obtain⟨b,w,e,_⟩:=h.hd;exact Pp h.id ⟨b,w,e⟩ O h.kw
 ·rw[YN];show Fst (Lib.decDigits n.toNat++r);obtain⟨b,w,e⟩:=Me n.toNat;have hd:∀ c∈Lib.decDigits n.toNat,Dd c=true:=rx _;have I:∀(c:UInt8) (k:Bl),Dd c=false->Lib.decDigits n.toNat≠c::k:=λc k hc e=>by have:=hd c (by rw[e];simp);rw[hc]at this;cases this
  exact Pp (λc hc=>Mf (hd c hc)) ⟨b,w,e⟩ O ⟨I _ _ aD,I _ _ aD,I _ _ aD,I _ _ aD,I _ _ aD⟩
 ·rw[YO];simp only[zV,oP];exact pL (b:=35) aD _
 ·rw[Vs];split<;>(simp only[zV,oP];exact pL (b:=40) aD _)
 ·rw[YP];simp only[zV,oP];exact pL (b:=40) aD _
 ·rw[YQ];simp only[zV,oP];exact pL (b:=40) aD _
 ·rw[YR];simp only[zV,oP];exact pL (b:=40) aD _
 ·rw[YS];simp only[zV,oP];exact pL (b:=40) aD _
 ·rw[YT];simp only[zV,oP];exact pL (b:=40) aD _
 ·rw[Ou];simp only[zV,oP];exact pL (b:=60) aD _
 ·rw[Ov];simp only[zV,oP];exact pL (b:=126) aD _
 ·rw[Ow];simp only[zV,oP];exact pL (b:=40) aD _
 ·rw[Ox];simp only[zV,oP];exact pL (b:=40) aD _
end Go.Proofs.YtlaniepnglheoaaGreatDoor
set_option maxRecDepth 100000
namespace Go.Proofs.YtlaniepnglheoaaGreatDoor
open Go Go.Proofs Go.Proofs.Tryz Go.IntWalk
section
variable (sp:Bool) (T:Bl->Option (Tm × Bl)) (l:Bl)
theorem QJ:qv sp T ([33]++l)=mkF 4 [33] [] tZero tZero (vB T [] [41] 1 true l):=by simp[qv,pre]
theorem Tr:qv sp T ([105,102,32]++l)=mkF 5 [] [] tZero tZero (vB T [32] [41] 3 true l):=by simp[qv,pre]
theorem QL:qv sp T ([114,117,110,32]++l)=mkF 12 [] [] tZero tZero (vB T [] [41] 1 true l):=by simp[qv,pre]
theorem NA:qv sp T ([108,105,102,116,32]++l)=mkF 13 [] [] tZero tZero (vB T [] [41] 1 true l):=by simp[qv,pre]
theorem LD:qv sp T ([108,101,116,32]++l)=LF T l:=by simp[qv,pre]
theorem QI:qv sp T ([92]++l)=O3 T l:=by simp[qv,pre]
theorem QK:qv sp T ([114,101,99,32]++l)=LG T l:=by simp[qv,pre]
theorem LE (h:Fst l):qv sp T l=Tt sp T l:=by simp only[qv,h.a,h.b,h.c,h.d,h.e,h.f,h.g]
theorem BX n:uj sp (n+1) ([40]++l)=qv sp (uj sp n) l:=by simp[uj,pre]
theorem W8 n:uj sp (n+1) ([60]++l)=mkF 10 [] [] tZero tZero (vB (uj sp n) [] [62] 1 true l):=by simp[uj,pre]
theorem W9 n:uj sp (n+1) ([126]++l)=mkF 11 [] [] tZero tZero (vB (uj sp n) [] [] 1 true l):=by simp[uj,pre]
theorem zBv n:uj sp (n+1) ([35,116]++l)=some (tBl 1,l):=by simp[uj,pre]
theorem zBu n:uj sp (n+1) ([35,102]++l)=some (tBl 0,l):=by simp[uj,pre]
end
theorem C8 {c}(h:idC c=false) r:Stop ([c]++r):=vv h r
theorem px {l:aP}(h:l.length=1):∃ a,l=[a]:=by
 match l,h with
 | [a],_=>exact⟨a,rfl⟩
theorem TK {l:aP}(h:l.length=2):∃ a b,l=[a,b]:=by
 match l,h with
 | [a,b],_=>exact⟨a,b,rfl⟩
theorem Tu sp{T:Bl->Option (Tm × Bl)}{a b}(I:RdT T a)(hb:RdT T b) c(hc:idC c=false) r :
  Tt sp T (tmL a++(c::(tmL b++([41]++r))))=if c=32 then some (.mk 7 (bytes []) (bytes []) 0 tZero tZero [a,b],r)else if sp=true/\rj ⟨#[c]⟩≠2 then none else some (.mk 4 ⟨#[c]⟩ (bytes []) 0 tZero tZero [a,b],r):=by
 have J:∀ r,Stop ([41]++r:Bl):=λr=>vv aD r;simp only[Tt,QM,I _ (vv hc _),oO,hb _ (J r),uu,oX]
theorem zBV sp:∀ t:Tm,t.ok=true->∀ n,t.dp<=n->RdT (uj sp n) t:=by
 refine Tm.ind λk nm ot n ty re l ih ac m hm r hr=>?_;simp only[Tm.dp]at hm;cases m with
 | zero=>omega
 | succ m=>
 have nd:=Oo ac;have I:=Vq nd;have J:=nd.ar;have sub:∀ t∈l,RdT (uj sp m) t:=λt ht=>ih t ht (nd.sub t ht) m (by have:=uM ht;omega);have Y:∀ r:Bl,Stop ([41]++r):=λr=>vv aD r;have ab:∀ r:Bl,Stop ((bytes [32]).data.toList++r):=λr=>vv aD r;have zz:k≠6->k≠9->ty=tZero:=I.ty;show uj sp (m+1) (tmL (.mk k nm ot n ty re l)++r)=_;unfold tmL;simp only[Tm.tx];have U:k≠1->k≠4->k≠6->k≠8->k≠9->nm=bytes []/\ot=bytes []:=λh1 h4 h6 h8 h9=>by
  have:=I.nm
  simp only[zx]at this;rw[if_neg h4,if_neg aA,if_neg h9]at this;simpa using this
 have aa:k=1\/k=6\/k=8->yN nm=true/\ot=bytes []:=λh=>by
  have:=I.nm
  simp only[zx]at this;rw[if_neg aA,if_pos h]at this;simpa using this
 have t0:∀ l:aP,(txs l).getD 0 (bytes [])=(match l with | []=>bytes [] | x::_=>x.tx):=λl=>by cases l<;>rfl
 rcases nd.kind with rfl | rfl | rfl | rfl | rfl | rfl | rfl | rfl | rfl | rfl | rfl | rfl | rfl
 ·obtain⟨h1,rfl⟩:=aa (.inl rfl);obtain rfl:=I.ty aD aD;obtain rfl:=I.re aD;obtain rfl:=I.n aD aD;obtain rfl:l=[]:=oV (by have:(l.length:Int)=0:=J;omega);rw[YM,Yb sp m (nmL h1) hr];unfold tVr;rw[K7]
 ·obtain⟨rfl,rfl⟩:=U aD aD aD aD aD;obtain rfl:=I.ty aD aD;obtain rfl:=I.re aD;obtain rfl:l=[]:=oV (by have:(l.length:Int)=0:=J;omega);have hn:=nd.num rfl;rw[YN];show uj sp (m+1) (Lib.decDigits n.toNat++r)=_;rw[zAI sp m aA hr];unfold WN;rw[Int.toNat_of_nonneg hn.1]
 ·obtain⟨rfl,rfl⟩:=U aD aD aD aD aD;obtain rfl:=I.ty aD aD;obtain rfl:=I.re aD;obtain rfl:l=[]:=oV (by have:(l.length:Int)=0:=J;omega);rw[YO];rcases nd.bit rfl with rfl | rfl
  ·exact zBu sp r m
  ·exact zBv sp r m
 ·obtain rfl:=I.ty aD aD;obtain rfl:=I.re aD;obtain rfl:=I.n aD aD;have O:=I.nm;simp only[zx]at O;rw[if_pos trivial]at O;simp only[oL,oh]at O;obtain⟨h1,rfl⟩:=O;have J:(l.length:Int)=rj nm:=J;rw[Vs];rcases nd.op rfl with h | h
  ·obtain⟨a,rfl⟩:=px h;obtain rfl:=zAB (show rj nm=1 by rw[<-J,h];rfl);rw[if_pos (by rfl)];have e:(bytes [40,33]++(txs [a]).getD 0 (bytes [])++bytes [41]).data.toList++r=[40]++([33]++(tmL a++([41]++r))):=by simp only[zV,oP];rfl
   rw[e,BX,QJ,qC (Y r) (sub a aB)];rfl
  ·obtain⟨a,b,rfl⟩:=TK h;obtain⟨c,rfl,hc,ae⟩:=Tb (show rj nm=2 by rw[<-J,h];rfl);rw[if_neg (by simp[txs])];have e:(bytes [40]++(txs [a,b]).getD 0 (bytes [])++⟨#[c]⟩++(txs [a,b]).getD 1 (bytes [])++bytes [41]).data.toList++r=[40]++(tmL a++(c::(tmL b++([41]++r)))):=by simp only[zV,oP];rfl
   rw[e,BX,LE _ _ _ (NQ (nd.sub a aB) (vv hc _)),Tu sp (sub a aB) (sub b aB) c hc,if_neg ae,if_neg (by rw[<-J];simp)]
 ·obtain⟨rfl,rfl⟩:=U aD aD aD aD aD;obtain rfl:=I.ty aD aD;obtain rfl:=I.re aD;obtain rfl:=I.n aD aD;have hl:3=l.length:=by have:(l.length:Int)=3:=J;omega
  rw[YP];have e:(bytes [40,105,102,32]++ua (bytes [32]) (txs l)++bytes [41]).data.toList++r=[40]++([105,102,32]++((ua (bytes [32]) (txs l)).data.toList++([41]++r))):=by simp only[zV,oP];rfl
  rw[e,BX,Tr]
  have:=Tq ab (Y r) l sub hl
  rw[show(bytes [32]).data.toList=[32]from rfl]at this;rw[this];rfl
 ·obtain⟨h1,rfl⟩:=aa (.inr (.inl rfl));obtain rfl:=I.re aD;obtain rfl:=I.n aD aD;obtain⟨a,rfl⟩:=px (nd.one aD);have hv:=yP (nd.vt (.inl rfl));have hd:ty.dep<=8:=by have:=nd.vt (.inl rfl);simp only[Ty.valid,oL,oh]at this;omega
  rw[YQ];have e:(bytes [40,92]++nm++bytes [58]++EU ty++bytes [46]++(txs [a]).getD 0 (bytes [])++bytes [41]).data.toList++r=[40]++([92]++(nm.data.toList++([58]++(tyL ty++([46]++(tmL a++([41]++r))))))):=by simp only[zV,oP];rfl
  rw[e,BX,QI,O3,(nmL h1).word (C8 aD _)];simp only[uu,oO,O4 hv.1 8 _ hd,qC (Y r) (sub a aB),mkF,oX,K7];rfl
 ·obtain⟨rfl,rfl⟩:=U aD aD aD aD aD;obtain rfl:=I.ty aD aD;obtain rfl:=I.re aD;obtain rfl:=I.n aD aD;obtain⟨a,b,rfl⟩:=TK (l:=l) (by have:(l.length:Int)=2:=J;omega);rw[YR];have e:(bytes [40]++ua (bytes [32]) (txs [a,b])++bytes [41]).data.toList++r=[40]++(tmL a++(32::(tmL b++([41]++r)))):=by simp only[txs,ua,pO,zV,oP];rfl
  rw[e,BX,LE _ _ _ (NQ (nd.sub a aB) (vv aD _)),Tu sp (sub a aB) (sub b aB) 32 aD,if_pos rfl]
 ·obtain⟨h1,rfl⟩:=aa (.inr (.inr rfl));obtain rfl:=I.ty aD aD;obtain rfl:=I.re aD;obtain rfl:=I.n aD aD;have hl:2=l.length:=by have:(l.length:Int)=2:=J;omega
  rw[YS];have e:(bytes [40,108,101,116,32]++nm++bytes [61]++ua (bytes [32]) (txs l)++bytes [41]).data.toList++r=[40]++([108,101,116,32]++(nm.data.toList++([61]++((ua (bytes [32]) (txs l)).data.toList++([41]++r))))):=by simp only[zV,oP];rfl
  rw[e,BX,LD,LF,(nmL h1).word (C8 aD _)]
  have:=Tq ab (Y r) l sub hl
  rw[show(bytes [32]).data.toList=[32]from rfl]at this;simp only[uu,oO,this,mkF,oX,K7];rfl
 ·obtain rfl:=I.n aD aD;have O:=I.nm;simp only[zx]at O;rw[if_neg aD,if_neg aD,if_pos trivial]at O;simp only[oL]at O;obtain⟨h1,h2, -⟩:=O;obtain⟨a,rfl⟩:=px (nd.one aD);have hv:=yP (nd.vt (.inr rfl));have ah:=yP (nd.vr rfl);have hd:ty.dep<=8:=by have:=nd.vt (.inr rfl);simp only[Ty.valid,oL,oh]at this;omega
  have ai:re.dep<=8:=by have:=nd.vr rfl;simp only[Ty.valid,oL,oh]at this;omega
  rw[YT];have e:(bytes [40,114,101,99,32]++nm++bytes [32]++ot++bytes [58]++EU ty++bytes [62]++EU re++bytes [46]++(txs [a]).getD 0 (bytes [])++bytes [41]).data.toList++r=[40]++([114,101,99,32]++(nm.data.toList++([32]++(ot.data.toList++([58]++(tyL ty++([62]++(tyL re++([46]++(tmL a++([41]++r))))))))))):=by simp only[zV,oP];rfl
  rw[e,BX,QK,LG,(nmL h1).word (C8 aD _)];simp only[uu,oO];rw[(nmL h2).word (C8 aD _)];simp only[uu,oO,O4 hv.1 8 _ hd,O4 ah.1 8 _ ai,qC (Y r) (sub a aB),mkF,oX,K7]
 ·obtain⟨rfl,rfl⟩:=U aD aD aD aD aD;obtain rfl:=I.ty aD aD;obtain rfl:=I.re aD;obtain rfl:=I.n aD aD;obtain⟨a,rfl⟩:=px (nd.one aD);rw[Ou];have e:(bytes [60]++(txs [a]).getD 0 (bytes [])++bytes [62]).data.toList++r=[60]++(tmL a++([62]++r)):=by simp only[zV,oP];rfl
  rw[e,W8,qC (C8 aD _) (sub a aB)];rfl
 ·obtain⟨rfl,rfl⟩:=U aD aD aD aD aD;obtain rfl:=I.ty aD aD;obtain rfl:=I.re aD;obtain rfl:=I.n aD aD;obtain⟨a,rfl⟩:=px (nd.one aD);rw[Ov];have e:(bytes [126]++(txs [a]).getD 0 (bytes [])).data.toList++r=[126]++(tmL a++([]++r)):=by simp only[zV,oP,oa];rfl
  rw[e,W9,qC (e:=[]) hr (sub a aB)];rfl
 ·obtain⟨rfl,rfl⟩:=U aD aD aD aD aD;obtain rfl:=I.ty aD aD;obtain rfl:=I.re aD;obtain rfl:=I.n aD aD;obtain⟨a,rfl⟩:=px (nd.one aD);rw[Ow];have e:(bytes [40,114,117,110,32]++(txs [a]).getD 0 (bytes [])++bytes [41]).data.toList++r=[40]++([114,117,110,32]++(tmL a++([41]++r))):=by simp only[zV,oP];rfl
  rw[e,BX,QL,qC (Y r) (sub a aB)];rfl
 ·obtain⟨rfl,rfl⟩:=U aD aD aD aD aD;obtain rfl:=I.ty aD aD;obtain rfl:=I.re aD;obtain rfl:=I.n aD aD;obtain⟨a,rfl⟩:=px (nd.one aD);rw[Ox];have e:(bytes [40,108,105,102,116,32]++(txs [a]).getD 0 (bytes [])++bytes [41]).data.toList++r=[40]++([108,105,102,116,32]++(tmL a++([41]++r))):=by simp only[zV,oP];rfl
  rw[e,BX,NA,qC (Y r) (sub a aB)];rfl
theorem Av l:(word l).1.length+(word l).2.length=l.length/\(word l).2 <:+ l:=by have h:=Qo l;exact⟨by rw[<-oG,h],⟨_,h⟩⟩
theorem yW {p l r}(h:pre p l=some r):r.length+p.length=l.length/\r <:+ l:=by have e:=yI h;exact⟨by rw[e,oG];omega,⟨_,e.symm⟩⟩
theorem Ak:∀ {n:Nat}{l:Bl}{t:Ty}{r:Bl},tM n l=some (t,r)->r.length+t.cnt<=l.length/\r <:+ l
 | 0,l,t,r,h=>by simp[tM]at h
 | n+1,l,t,r,h=>by
   simp only[tM]at h;split at h
   ·rename_i r0 I;simp only[od,lH]at h;obtain⟨rfl,rfl⟩:=h;obtain⟨a,b⟩:=yW I;exact⟨by rw[<-a];exact oC _,b⟩
   split at h
   ·rename_i r0 I;simp only[od,lH]at h;obtain⟨rfl,rfl⟩:=h;obtain⟨a,b⟩:=yW I;exact⟨by rw[<-a];exact oC _,b⟩
   split at h
   ·rename_i r0 I;obtain⟨⟨x,r1⟩,J,h⟩:=oe.1 h;obtain⟨U,O,h⟩:=nN.1 h;cases h;obtain⟨a0,b0⟩:=yW I;obtain⟨a1,b1⟩:=Ak J;obtain⟨a2,b2⟩:=yW O;have:(xW x).cnt=1+(x.cnt+0):=rfl;simp only[oJ,oN]at a0 a2;exact⟨by show _+(xW x).cnt<=_;omega,b2.trans (b1.trans b0)⟩
   ·obtain⟨r0,I,h⟩:=oe.1 h;obtain⟨⟨x,r1⟩,J,h⟩:=oe.1 h;obtain⟨U,O,h⟩:=oe.1 h;obtain⟨⟨y,r3⟩,Y,h⟩:=oe.1 h;obtain⟨r4,h4,h⟩:=nN.1 h;cases h;obtain⟨a0,b0⟩:=yW I;obtain⟨a1,b1⟩:=Ak J;obtain⟨a2,b2⟩:=yW O;obtain⟨a3,b3⟩:=Ak Y;obtain⟨a4,b4⟩:=yW h4;have:(wP x y).cnt=1+(x.cnt+(y.cnt+0)):=rfl;simp only[oJ,oN]at a0 a2 a4;exact⟨by show _+(wP x y).cnt<=_;omega,b4.trans (b3.trans (b2.trans (b1.trans b0)))⟩
def SfT (T:Bl->Option (Tm × Bl)):Prop:=∀ {l:Bl} {t:Tm} {r:Bl},T l=some (t,r)->t.cnt+3*r.length<=3*l.length+3/\r <:+ l
theorem Aj {T:Bl->Option (Tm × Bl)}(J:SfT T){b e}:∀ {k:Nat}{f:Bool}{l:Bl}{ts:aP}{r:Bl},vB T b e k f l=some (ts,r)->xC ts+3*r.length+3*e.length<=3*l.length+3*k/\r <:+ l
 | 0,f,l,ts,r,h=>by simp only[vB]at h;obtain⟨r0,I,h⟩:=nN.1 h;cases h;obtain⟨a0,b0⟩:=yW I;exact⟨by simp only[xC];omega,b0⟩
 | k+1,f,l,ts,r,h=>by
   simp only[vB]at h;obtain⟨r0,I,h⟩:=oe.1 h;obtain⟨⟨x,r1⟩,O,h⟩:=oe.1 h;obtain⟨⟨y,Y⟩,U,h⟩:=nN.1 h;cases h;obtain⟨a1,b1⟩:=J O;obtain⟨a2,b2⟩:=Aj J U;have a0:r0.length<=l.length/\r0 <:+ l:=by
    cases f
    ·obtain⟨a,b⟩:=yW I;exact⟨aA,b⟩
    ·simp at I;subst I;exact⟨oC _,List.suffix_refl _⟩
   simp only[xC];simp only at a2;exact⟨aA,b2.trans (b1.trans a0.2)⟩
theorem Cx {k nm ot ty re}{x:Option (aP × Bl)}{t r}(h:mkF k nm ot ty re x=some (t,r)):∃ ts,x=some (ts,r)/\t.cnt=1+ty.cnt+re.cnt+xC ts:=by obtain⟨⟨y,r1⟩,I,h⟩:=nN.1 h;cases h;exact⟨y,I,rfl⟩
theorem zc:tZero.cnt=1:=rfl
theorem V6 {sp}{T:Bl->Option (Tm × Bl)}(Y:SfT T){l t r}(h:qv sp T l=some (t,r)):t.cnt+3*r.length<=3*l.length+6/\r <:+ l:=by
 have form:∀ {k:Int} {p b nm ot l0:Bl} {m:Nat} {l:Bl},1<=p.length->m<=p.length->pre p l=some l0->mkF k nm ot tZero tZero (vB T b [41] m true l0)=some (t,r)->t.cnt+3*r.length<=3*l.length+6/\r <:+ l:=λhp hm I h=>by obtain⟨a0,b0⟩:=yW I;obtain⟨ts,O,J⟩:=Cx h;obtain⟨a1,b1⟩:=Aj Y O;rw[zc]at J;simp only[oJ,oN]at a1;exact⟨aA,b1.trans b0⟩
 simp only[qv]at h;split at h
 ·rename_i I;exact form aD aD I h
 split at h
 ·rename_i I;exact form aD aD I h
 split at h
 ·rename_i I;exact form aD aD I h
 split at h
 ·rename_i I;exact form aD aD I h
 split at h
 ·rename_i r0 I;simp only[LF]at h;obtain⟨r1,O,h⟩:=oe.1 h;obtain⟨a0,b0⟩:=yW I;obtain⟨aw,bw⟩:=Av r0
  have:=form aD (m:=2) (p:=[61,61]) (l:=61::61::r1) aD rfl h
  obtain⟨a1,b1⟩:=yW O;obtain⟨ts,J,U⟩:=Cx h;obtain⟨a2,b2⟩:=Aj Y J;rw[zc]at U;simp only[oJ,oN]at a0 a1 a2;exact⟨aA,b2.trans (b1.trans (bw.trans b0))⟩
 split at h
 ·rename_i r0 I;simp only[O3]at h;obtain⟨r1,O,h⟩:=oe.1 h;obtain⟨⟨ty,r2⟩,J,h⟩:=oe.1 h;obtain⟨r3,U,h⟩:=oe.1 h;obtain⟨a0,b0⟩:=yW I;obtain⟨aw,bw⟩:=Av r0;obtain⟨a1,b1⟩:=yW O;obtain⟨a2,b2⟩:=Ak J;obtain⟨a3,b3⟩:=yW U;obtain⟨ts,h4,h5⟩:=Cx h;obtain⟨a4,b4⟩:=Aj Y h4;rw[zc]at h5;simp only[oJ,oN]at a0 a1 a3 a4;simp only at h5;exact⟨aA,b4.trans (b3.trans (b2.trans (b1.trans (bw.trans b0))))⟩
 split at h
 ·rename_i r0 I;simp only[LG]at h;obtain⟨m,hm,h⟩:=oe.1 h;obtain⟨r1,O,h⟩:=oe.1 h;obtain⟨⟨ty,r2⟩,J,h⟩:=oe.1 h;obtain⟨r3,U,h⟩:=oe.1 h;obtain⟨⟨re,r4⟩,h4,h⟩:=oe.1 h;obtain⟨r5,h5,h⟩:=oe.1 h;obtain⟨a0,b0⟩:=yW I;obtain⟨aw,bw⟩:=Av r0;obtain⟨am,bm⟩:=yW hm;obtain⟨av,bv⟩:=Av m;obtain⟨a1,b1⟩:=yW O;obtain⟨a2,b2⟩:=Ak J;obtain⟨a3,b3⟩:=yW U;obtain⟨a4,b4⟩:=Ak h4;obtain⟨a5,b5⟩:=yW h5;obtain⟨ts,h6,h7⟩:=Cx h;obtain⟨a6,b6⟩:=Aj Y h6;simp only[oJ,oN]at a0 am a1 a3 a5 a6;simp only at h7;exact⟨aA,b6.trans (b5.trans (b4.trans (b3.trans (b2.trans (b1.trans (bv.trans (bm.trans (bw.trans b0))))))))⟩
 ·simp only[Tt]at h;obtain⟨⟨x,r0⟩,I,h⟩:=oe.1 h;obtain⟨a0,b0⟩:=Y I;simp only at h;cases r0 with
  | nil=>simp[QM]at h
  | cons c r1=>
  simp only[QM]at h;have aa:∀ {k:Int} {nm ot:aG},((T r1).bind λy=>(pre [41] y.2).map λr=>(Tm.mk k nm ot 0 tZero tZero [x,y.1],r))=some (t,r)->t.cnt+3*r.length<=3*l.length+6/\r <:+ l:=λh=>by obtain⟨⟨y,r2⟩,J,h⟩:=oe.1 h;obtain⟨r3,U,h⟩:=nN.1 h;cases h;obtain⟨a2,b2⟩:=Y J;obtain⟨a3,b3⟩:=yW U;simp only[oJ,oN]at a0 a3;simp only[Tm.cnt,xC,zc];exact⟨aA,b3.trans (b2.trans ((List.suffix_cons _ _).trans b0))⟩
  split at h
  ·exact aa h
  split at h
  ·cases h
  ·exact aa h
theorem Uz {sp l t r}(h:OA sp l=some (t,r)):t.cnt+3*r.length<=3*l.length+3/\r <:+ l:=by
 obtain⟨J,I⟩:=Av l;have c1:∀ n,(WN n).cnt=3:=λ_=>rfl;have c2:∀ w,(tVr w).cnt=3:=λ_=>rfl;have n1:∀ n,some (WN n,(word l).2)=some (t,r)->t.cnt+3*r.length<=3*l.length+3/\r <:+ l:=λn h=>by cases h;rw[c1];exact⟨aA,I⟩
 have n2:∀ w,some (tVr w,(word l).2)=some (t,r)->t.cnt+3*r.length<=3*l.length+3/\r <:+ l:=λn h=>by cases h;rw[c2];exact⟨aA,I⟩
 unfold OA at h;split at h
 ·cases h
 cases sp
 ·simp only at h;split at h
  ·exact n1 _ h
  split at h
  ·cases h
  ·exact n2 _ h
 ·simp only at h;split at h
  ·obtain⟨n,_,h⟩:=nN.1 h;exact n1 n (oY some h)
  ·exact n2 _ h
theorem XA sp:∀ n:Nat,SfT (uj sp n)
 | 0,l,t,r,h=>by simp[uj]at h
 | n+1,l,t,r,h=>by
   have J:SfT (uj sp n):=XA sp n;simp only[uj]at h;have bl:∀ {p r0:Bl} {b:Int},p.length=2->pre p l=some r0->some (tBl b,r0)=some (t,r)->t.cnt+3*r.length<=3*l.length+3/\r <:+ l:=λY I h=>by cases h;obtain⟨a0,b0⟩:=yW I;exact⟨by show 3+_<=_;omega,b0⟩
   split at h
   ·rename_i I;exact bl rfl I h
   split at h
   ·rename_i I;exact bl rfl I h
   have un:∀ {c:UInt8} {k:Int} {e r0:Bl},pre [c] l=some r0->mkF k [] [] tZero tZero (vB (uj sp n) [] e 1 true r0)=some (t,r)->t.cnt+3*r.length<=3*l.length+3/\r <:+ l:=λI h=>by obtain⟨a0,b0⟩:=yW I;obtain⟨ts,O,U⟩:=Cx h;obtain⟨a1,b1⟩:=Aj J O;rw[zc]at U;simp only[oJ,oN]at a0;exact⟨aA,b1.trans b0⟩
   split at h
   ·rename_i I;exact un I h
   split at h
   ·rename_i I;exact un I h
   split at h
   ·rename_i r0 I;obtain⟨a0,b0⟩:=yW I;obtain⟨a1,b1⟩:=V6 J h;simp only[oJ,oN]at a0;exact⟨aA,b1.trans b0⟩
   ·exact Uz h
end Go.Proofs.YtlaniepnglheoaaGreatDoor
set_option maxRecDepth 100000
namespace Go.Proofs.YtlaniepnglheoaaGreatDoor
open Go Go.Proofs Go.Proofs.Tryz Go.IntWalk
variable {l p:Bl} {n:Int} {s:aG}
structure Atl (s:aG) (n:Int) (l:Bl):Prop where
 sz:s.size<=1073741824
 lo:0<=n
 hi:n<=s.size
 eq:s.data.toList.drop n.toNat=l
theorem Atl.len (h:Atl s n l):(l.length:Int)=s.size - n:=by
 have I:=h.lo;have J:=h.hi;have:s.data.toList.length=s.size:=aB
 rw[<-h.eq,ma];omega
theorem Atl.app {r}(h:Atl s n l)(e:l=p++r){m}(I:m=n+p.length):Atl s m r:=by subst e;have hl:=h.len;have J:=h.lo;rw[oG]at hl;refine⟨h.sz,aA,aA,?_⟩;rw[I,show(n+(p.length:Int)).toNat=n.toNat+p.length by omega,<-List.drop_drop,h.eq,List.drop_left]
theorem Atl.get {c}(h:Atl s n (c::l)):s.data.getD n.toNat (OfNat.ofNat 0)=c:=by
 have I:s.data.toList[n.toNat]?=some c:=by
  have:=oY List.head? h.eq
  rw[List.head?_drop]at this;simpa using this
 rw[nC,<-nR,I];rfl
theorem Atl.nil (h:Atl s n l):l=[]↔n=s.size:=by
 have:=h.len
 constructor
 ·intro e;rw[e]at this;simp at this;omega
 ·intro e;exact oV aA
theorem AW (s:aG) a b:(s.extract a b).data.toList=(s.data.toList.drop a).take (b - a):=by rw[ByteArray.data_extract,Array.toList_extract,List.extract_eq_take_drop]
theorem Atl.ext (h:Atl s n l)(k:Nat){m}(I:m=n+k):(s.extract n.toNat m.toNat).data.toList=l.take k:=by have J:=h.lo;rw[AW,h.eq,I,show(n+(k:Int)).toNat - n.toNat=k by omega]
theorem GJ:l.take p.length=p↔∃ r,pre p l=some r:=by
 constructor
 ·intro e;refine⟨l.drop p.length,?_⟩
  conv=>lhs;rw[<-np p.length l,e]
  exact uu _ _
 ·rintro⟨r,e⟩
  rw[yI e,List.take_left]
theorem Ti (h:l.length<p.length):pre p l=none:=by
 cases e:pre p l with
 | none=>rfl
 | some r=>have:=yI e;rw[this,oG]at h;omega
abbrev bl (t:aG):Bl:=t.data.toList
theorem ve t:(bl t).length=t.size:=aB
inductive Rd {α:Type} (is:α->D->Prop) (s:aG) (b:Bool) (m:Option (α × Bl)):D->Int->Bool->Prop
 | ok {t:α} {r:Bl} {d:D} {n:Int}:b=false->m=some (t,r)->is t d->Atl s n r->Rd is s b m d n false
 | no {l:Bl} {d:D} {n:Int}:b=true\/m=none->Atl s n l->Rd is s b m d n true
theorem ud (J:Atl s n l) t(ht:t.size<=100) b N(Q:QT [.bool,.str,.i,.bool])(Y:∀ r n' N',N<=N'->b=false->pre (bl t) l=some r->Atl s n' r->Q true s n' b N')(U:∀ N',N<=N'->(b=true\/pre (bl t) l=none)->Q false s n b N'):
  BCalls prog 79 [.bool,.str,.i,.bool] [.pb 0 0 0 0,.str t] [.var [.str s,.j n,.bool b]] N Q:=by
 have g1:=J.lo;have g2:=J.hi;have g3:=J.sz;have hl:=J.len;have e:IntKind.i64.wrap (n+(t.size:Int))=n+t.size:=i64_in _ aA;refine Fw N t s n b Q λE=>Br.of (λhb=>⟨zN,λN1 I=>U _ I (.inl hb)⟩) λhb=>?_;rw[e];refine Br.dec (λhg=>⟨zN,λN1 I=>U _ I (.inr (Ti (by rw[ve];omega)))⟩) λhg=>⟨⟨g1,aA,aA⟩,Br.nstr (λhn=>⟨zN,λN1 I=>U _ I (.inr ?_)⟩) λhe=>⟨zN,λN1 I=>?_⟩⟩
 ·cases O:pre (bl t) l with
  | none=>rfl
  | some r=>exact absurd (yA ((J.ext (bl t).length (by rw[ve])).trans (GJ.2 ⟨r,O⟩))) hn
 ·obtain⟨r,O⟩:=GJ.1 ((J.ext (bl t).length (by rw[ve])).symm.trans (oY bl he));exact Y r _ _ I hb O (J.app (yI O) (by rw[ve]))
theorem sd (hr:Atl s n l) t(ht:t.size<=100) b N(Q:QT [.str,.i,.bool])(h1:∀ r n' N',N<=N'->b=false->pre (bl t) l=some r->Atl s n' r->Q s n' false N')(h0:∀ N',N<=N'->(b=true\/pre (bl t) l=none)->Q s n true N'):
  BCalls prog 81 [.str,.i,.bool] [.pb 0 0 0 0,.str t] [.var [.str s,.j n,.bool b]] N Q:=
 Fv N t s n b Q λE=>Br.of (λhb=>by subst hb;exact⟨zN,λN1 I=>h0 _ I (.inl rfl)⟩) λ_ N1 I=>ud hr t ht b N1 _ (λr n' N2 J hb O U _=>⟨zN,λN3 Y=>h1 r _ _ aA hb O U⟩) λN2 J O _=>⟨zN,λN3 Y=>h0 _ aA O⟩
theorem Jv (U:Atl s n l) b N(Q:QT [.str,.str,.i,.bool])(hQ:∀ n' N',N<=N'->Atl s n' (word l).2->Q ⟨(word l).1.toArray⟩ s n' b N'):BCalls prog 84 [.str,.str,.i,.bool] [.pb 0 0 0 0] [.var [.str s,.j n,.bool b]] N Q:=by
 have g1:=U.lo;have g2:=U.hi;have g3:=U.sz;refine Fx N s n b Q λE=>?_;have key:∀(l1 p:Bl) (k:Int),Atl s k l1->l=p++l1->k=n+p.length->(∀ c∈p,idC c=true)->yf E Q N n s k b N:=by
  intro l1;have out:∀(l1 p:Bl) (k:Int),Atl s k l1->l=p++l1->k=n+p.length->(∀ c∈p,idC c=true)->Stop l1->(0<=n/\n<=k/\k<=(s.size:Int))/\yg E [.var [.str (bytes []),.j 0,.bool false]]/\∀ N1,N<=N1->Q (ByteArray.extract s n.toNat k.toNat) s k b N1:=λl1 p k I J Y O hs=>by
   have k2:=I.hi;refine⟨⟨g1,aA,k2⟩,zN,λN1 ab=>?_⟩;have hw:word l=(p,l1):=by rw[J];exact GL p l1 O hs
   have hx:ByteArray.extract s n.toNat k.toNat=⟨p.toArray⟩:=yA (by rw[U.ext p.length Y,J,List.take_left]);rw[hx]
   have:=hQ k N1 ab
   rw[hw]at this;exact this I
  induction l1 with
  | nil=>
    intro p k I J Y O
    have:=(I.nil).1 rfl
    exact pc _ _ _ _ _ _ _ _ (Br.dec (λh=>aA) λ_=>out _ p k I J Y O λc r e=>by cases e)
  | cons c l1 ih=>
    intro p k I J Y O;have hg:=I.get;have aa:=I.len;have k1:=I.lo;simp only[oJ]at aa;have bd:0<=k/\k<(s.size:Int):=⟨k1,aA⟩
    have nx:idC c=true->yf E Q N n s (IntKind.i64.wrap (k+1)) b N:=λhc=>by
     rw[i64_in (k+1) aA];refine ih (p++[c]) (k+1) (I.app (p:=[c]) rfl rfl) (by rw[J,oP];rfl) (by rw[oG];simp only[oJ,oN];omega) λx hx=>?_;rcases oM.1 hx with hx | hx
     ·exact O x hx
     ·rw[oi.1 hx];exact hc
    have ot:idC c=false->_:=λhc=>out _ p k I J Y O (vv hc l1);have ci:∀ P:Prop,(idC c=true->P)->(48<=c.toNat/\c.toNat<=57\/97<=c.toNat/\c.toNat<=122)->P:=λP h g=>h (by unfold idC;exact nh g);have cn:∀ P:Prop,(idC c=false->P)->¬(48<=c.toNat/\c.toNat<=57\/97<=c.toNat/\c.toNat<=122)->P:=λP h g=>h (by unfold idC;exact nX g);refine pc _ _ _ _ _ _ _ _ (Br.dec (λ_=>?_) λh=>aA);rw[hg];exact⟨bd,Br.dec (λa1=>⟨bd,Br.dec (λa2=>ci _ nx aA) λa2=>⟨bd,Br.dec (λa3=>⟨bd,Br.dec (λa4=>ci _ nx aA) λa4=>cn _ ot aA⟩) λa3=>cn _ ot aA⟩⟩) λa1=>⟨bd,Br.dec (λa3=>⟨bd,Br.dec (λa4=>ci _ nx aA) λa4=>cn _ ot aA⟩) λa3=>cn _ ot aA⟩⟩
 exact key l [] n U rfl aB aB
theorem zAH:∀(j:Nat),j<=8->∀(n1:Int),n1+j=9->∀ {s:aG} {n:Int} {l:Bl} (_:Atl s n l) (b:Bool) (N:Nat) (Q:QT [.ag 2,.str,.i,.bool])
  (_:∀ d n' b' N',N<=N'->Rd Ty.Is s b (tM j l) d n' b'->Q d s n' b' N'),BCalls prog 144 [.ag 2,.str,.i,.bool] [.pb 0 0 0 0,.j n1] [.var [.str s,.j n,.bool b]] N Q:=by
 intro j
 induction j with
 | zero=>intro _ n1 bv s n l hr b N Q J;exact ql N n1 s n b Q λE=>Br.of (λhb=>by subst hb;exact⟨zN,λN1 ab=>J _ _ _ _ ab (.no (.inl rfl) hr)⟩) λ_=>Br.dec (λh=>⟨zN,λN1 ab=>J _ _ _ _ ab (by rw[nh h];exact .no (.inr rfl) hr)⟩) λh=>aA
 | succ j ih=>
   intro hj n1 bv s n l hr b N Q J;have e1:IntKind.i64.wrap (n1+1)=n1+1:=i64_in _ aA;refine ql N n1 s n b Q λE=>Br.of (λhb=>by subst hb;exact⟨zN,λN1 ab=>J _ _ _ _ ab (.no (.inl rfl) hr)⟩) λhb=>Br.dec (λ_=>aA) λh8 N1 ab=>?_;subst hb;rw[nX h8];refine ud hr _ aD _ N1 _ (λr n2 N2 bw _ hp bz _=>?_) λN2 bw hp _=>?_
   ·exact Br.of (λ_ N3 b3=>xy N3 _ λy N4 a8 hy _ _ _=>⟨zN,λN5 ba=>J _ _ _ _ aA (.ok rfl (by simp only[tM];rw[show pre [73] l=_ from hp]) hy bz)⟩) λh=>by cases h
   have hp:=hp.resolve_left aB;refine Br.of (λh=>by cases h) λ_ N3 b3=>ud hr _ aD _ N3 _ (λr n4 N4 a8 _ hq b7 _=>?_) λN4 a8 hq _=>?_
   ·exact Br.of (λ_ N5 ba=>wH N5 _ λy N6 bb hy _ _ _=>⟨zN,λN7 bc=>J _ _ _ _ aA (.ok rfl (by simp only[tM];rw[show pre [73] l=_ from hp,show pre [66] l=_ from hq]) hy b7)⟩) λh=>by cases h
   have hq:=hq.resolve_left aB;refine Br.of (λh=>by cases h) λ_ N5 ba=>ud hr _ aD _ N5 _ (λr n6 N6 bb _ hu b9 _=>Br.of (λ_ N7 bc=>?_) λh=>by cases h) λN6 bb hu _=>Br.of (λh=>by cases h) λ_ N7 bc=>?_
   ·have em:tM (j+1) l=(tM j r).bind λx=>(pre [62] x.2).map λr=>(xW x.1,r):=by simp only[tM];rw[show pre [73] l=_ from hp,show pre [66] l=_ from hq,show pre [60] l=_ from hu]
    rw[em]at J;rw[e1];refine ih aA (n1+1) aA b9 _ N7 _ λd n8 b8 N8 bg hd _ _ N9 bh=>?_;cases hd with
    | @ok t r8 _ _ _ hm hd Y=>rw[hm]at J;refine sd Y _ aD _ N9 _ (λah bi al aa _ hv I _=>⟨⟨rfl,rfl⟩,⟨rfl,rfl⟩,⟨rfl,rfl⟩,⟨rfl,rfl⟩,⟨rfl,rfl⟩,λa ai aj _=>⟨zN,λac O=>J _ _ _ _ aA (.ok rfl (by rw[oO];show(pre [62] r8).map _=_;rw[show pre [62] r8=_ from hv];rfl) (show(xW t).Is _ from Ty.is_mk.2 ⟨_,_,_,rfl,aB,d,[],rfl,hd,rfl⟩) I)⟩⟩) λal aa hv _=>⟨⟨rfl,rfl⟩,⟨rfl,rfl⟩,⟨rfl,rfl⟩,⟨rfl,rfl⟩,⟨rfl,rfl⟩,λa ai aj _=>⟨zN,λac O=>J _ _ _ _ aA (.no (.inr (by rw[oO];show(pre [62] r8).map _=_;rw[show pre [62] r8=_ from hv.resolve_left aB];rfl)) Y)⟩⟩
    | no hm Y=>have hm:=hm.resolve_left aB;rw[hm]at J;exact sd Y _ aD _ N9 _ (λah bi al aa h=>by cases h) λal aa hv _=>⟨⟨rfl,rfl⟩,⟨rfl,rfl⟩,⟨rfl,rfl⟩,⟨rfl,rfl⟩,⟨rfl,rfl⟩,λa ai aj _=>⟨zN,λac O=>J _ _ _ _ aA (.no (.inr rfl) Y)⟩⟩
   ·have hu:=hu.resolve_left aB;have em:tM (j+1) l=(pre [40] l).bind λr=>(tM j r).bind λx=>(pre [62] x.2).bind λr=>(tM j r).bind λy=>(pre [41] y.2).map λr=>(wP x.1 y.1,r):=by simp only[tM];rw[show pre [73] l=_ from hp,show pre [66] l=_ from hq,show pre [60] l=_ from hu]
    rw[em]at J;refine sd hr _ aD _ N7 _ (λr8 n8 N8 bg _ hv Y _=>Br.of (λh=>by cases h) λ_ N9 bh=>?_) λN8 bg hv _=>Br.of (λ_=>⟨zN,λN9 bh=>J _ _ _ _ aA (.no (.inr (by rw[show pre [40] l=_ from hv.resolve_left aB];rfl)) hr)⟩) λh=>by cases h
    rw[show pre [40] l=_ from hv,oO]at J;rw[e1];refine ih aA (n1+1) aA Y _ N9 _ λd bi ch al aa hd _ _ ai aj=>?_;cases hd with
    | @ok t ah _ _ _ hm hd I=>
      rw[hm,oO]at J;refine sd I _ aD _ ai _ (λca cc ac O _ ao bj _=>Br.of (λh=>by cases h) λ_ az aw=>?_) λac O ao _=>Br.of (λ_=>⟨zN,λaz aw=>J _ _ _ _ aA (.no (.inr (by show(pre [62] ah).bind _=_;rw[show pre [62] ah=_ from ao.resolve_left aB];rfl)) I)⟩) λh=>by cases h
      have ae:=J;simp only[show pre [62] ah=_ from ao,oO]at ae;refine ih aA (n1+1) aA bj _ az _ λe cj ck cm cf he _ _ bm cg=>?_;cases he with
      | @ok u aq _ _ _ a6 he U=>rw[a6,oO]at ae;refine sd U _ aD _ bm _ (λcd ce a7 ak _ au bp _=>⟨⟨rfl,rfl⟩,⟨rfl,rfl⟩,⟨rfl,rfl⟩,λa bq ax _=>⟨zN,λbt ay=>ae _ _ _ _ aA (.ok rfl (by show(pre [41] aq).map _=_;rw[show pre [41] aq=_ from au];rfl) (show(wP t u).Is _ from Ty.is_mk.2 ⟨_,_,_,rfl,aB,d,[e],rfl,hd,e,[],rfl,he,rfl⟩) bp)⟩⟩) λa7 ak au _=>⟨⟨rfl,rfl⟩,⟨rfl,rfl⟩,⟨rfl,rfl⟩,λa bq ax _=>⟨zN,λbt ay=>ae _ _ _ _ aA (.no (.inr (by show(pre [41] aq).map _=_;rw[show pre [41] aq=_ from au.resolve_left aB];rfl)) U)⟩⟩
      | no a6 U=>rw[a6.resolve_left aB]at ae;exact sd U _ aD _ bm _ (λcd ce a7 ak h=>by cases h) λa7 ak au _=>⟨⟨rfl,rfl⟩,⟨rfl,rfl⟩,⟨rfl,rfl⟩,λa bq ax _=>⟨zN,λbt ay=>ae _ _ _ _ aA (.no (.inr rfl) U)⟩⟩
    | no hm I=>rw[hm.resolve_left aB]at J;exact sd I _ aD _ ai _ (λca cc ac O h=>by cases h) λac O ao _=>Br.of (λ_=>⟨zN,λaz aw=>J _ _ _ _ aA (.no (.inr rfl) I)⟩) λh=>by cases h
end Go.Proofs.YtlaniepnglheoaaGreatDoor
set_option maxRecDepth 100000
namespace Go.Proofs.YtlaniepnglheoaaGreatDoor
open Go Go.Proofs Go.Proofs.Tryz Go.IntWalk
variable {dep n:Int} {l:Bl} {s:aG}
theorem hdz {nm ot}(I:nm.size<=4611686018427387904)(J:ot.size<=4611686018427387904):Tm.Hd nm ot tZero tZero (.j 0) (.sl none 2 [] 0) (.j 0) (.sl none 2 [] 0):=⟨I,J,wB 0,wB 0⟩
theorem rz k n(hs:s.size<=4611686018427387904):(Tm.mk k s (bytes []) n tZero tZero []).Is (.ag [.j k,.t s,.t (bytes []),.j n,.j 0,.sl none 2 [] 0,.j 0,.sl none 2 [] 0,.sl none 9 [] 0]):=
 Tm.is_mk.2 ⟨_,_,_,_,_,_,_,rfl,hdz hs aD,aB,rfl⟩
theorem sD (h:Atl s n l):(⟨(word l).1.toArray⟩:aG).size<=1073741824:=by have I:=h.len;have J:=h.lo;have O:=h.sz;have U:=(Av l).1;show(word l).1.toArray.size<=_;rw[ny];omega
theorem ZV (T:Bl->Option (Tm × Bl)) b e l:vB T b e 1 true l=(T l).bind λx=>(pre e x.2).map λr=>([x.1],r):=by
 simp only[vB,mI,oO];cases T l with
 | none=>rfl
 | some x=>simp only[oO];cases pre e x.2<;>rfl
def MM dep(T:Bl->Option (Tm × Bl)):=∀(s:aG) (n:Int) (l:Bl) (b:Bool) (N:Nat) (Q:QT [.ag 9,.str,.i,.bool]),Atl s n l->(∀ d n' b' N',N<=N'->Rd Tm.Is s b (T l) d n' b'->Q d s n' b' N')->BCalls prog 38 [.ag 9,.str,.i,.bool] [.pb 0 0 0 0,.j dep] [.var [.str s,.j n,.bool b]] N Q
structure Ar (T:Bl->Option (Tm × Bl)) (s:aG) (b:Bool) (m:Nat) (l:Bl) (j:Nat) (n1:Int) (b1:Bool) (l0 ts:aP) (es:aM):Prop where
 at_:∃ l1,Atl s n1 l1/\(b1=false->b=false/\vB T [32] [41] m true l=(vB T [32] [41] j false l1).map fun y=>(ts++y.1,y.2))
 bad:b1=true->b=true\/vB T [32] [41] m true l=none
 es:b1=false->All2 Tm.Is (l0++ts) es
theorem Ar.next {T:Bl->Option (Tm × Bl)}{b m l2 j l0 ts es}(hb:b=false)(h:vB T [32] [41] m true l=((T l2).bind λx=>(vB T [32] [41] j false x.2).map λy=>(x.1::y.1,y.2)).map λy=>(ts++y.1,y.2))(J:All2 Tm.Is (l0++ts) es){x n3 b3}(O:Rd Tm.Is s false (T l2) x n3 b3):∃ U,Ar T s b m l j n3 b3 l0 U (es++[x]):=by
 cases O with
 | @ok t r _ _ _ Y O I=>refine⟨ts++[t],⟨r,I,λ_=>⟨hb,?_⟩⟩,aB,λ_=>by rw[<-oP];exact J.snoc O⟩;rw[h,Y,oO,Option.map_map];congr 1;funext y;simp
 | no Y I=>refine⟨[],⟨_,I,aB⟩,λ_=>.inr ?_,aB⟩;rw[h,Y.resolve_left aB];rfl
theorem Tl {T:Bl->Option (Tm × Bl)}(hT:MM dep T){k m nm ot ty re t0 t1 r0 r1}(hh:Tm.Hd nm ot ty re t0 t1 r0 r1){l0 es0}(h0:All2 Tm.Is l0 es0)(az:es0.length<=1){a0 c0}(al:∀ x,Wb a0 es0 c0 [x]) n2(a6:1<=n2/\n2<=3)(hr:Atl s n l) b N(Q:QT [.ag 9,.str,.i,.bool])(hQ:∀ d n' b' N',N<=N'->Rd (λts d=>(Tm.mk k nm ot m ty re (l0++ts)).Is d) s b (vB T [32] [41] n2 true l) d n' b'->Q d s n' b' N'):BCalls prog 145 [.ag 9,.str,.i,.bool] [.pb 0 0 0 0,.dg 9 (.ag [.j k,.t nm,.t ot,.j m,t0,t1,r0,r1,.sl a0 9 es0 c0]),.j (n2:Int),.j dep] [.var [.str s,.j n,.bool b]] N Q:=by
 refine qm N _ n2 dep s n b Q λE _=>?_;have O:∀ {j:Nat} {ts:aP} {es:aM} {n1:Int} {b1:Bool},Ar T s b n2 l j n1 b1 l0 ts es->b1=true\/j=0->es.length<=10->∀(N1:Nat) (Q1:QT [.str,.i,.bool]),(∀ n' b' N2,N1<=N2->(∀ a c,Rd (λts d=>(Tm.mk k nm ot m ty re (l0++ts)).Is d) s b (vB T [32] [41] n2 true l) (.ag [.j k,.t nm,.t ot,.j m,t0,t1,r0,r1,.sl a 9 es c]) n' b')->Q1 s n' b' N2)->BCalls prog 81 [.str,.i,.bool] [.pb 0 0 0 0,.str (bytes [41])] [.var [.str s,.j n1,.bool b1]] N1 Q1:=λ{j ts es n1 b1} U hj aj N1 Q1 ak=>by
  obtain⟨l1,Y,ab⟩:=U.at_;refine sd Y _ aD _ N1 _ (λr n' N2 I hb hp ao=>ak _ _ _ I λa c=>?_) λN2 I hp=>ak _ _ _ I λa c=>.no ?_ Y
  ·obtain⟨h1,h2⟩:=ab hb;obtain rfl:=hj.resolve_left (by simp[hb]);refine .ok h1 (t:=ts) (r:=r) ?_ (Tm.is_mk.2 ⟨_,_,_,_,_,_,_,rfl,hh,aA,U.es hb⟩) ao;rw[h2];simp only[vB];rw[show pre [41] l1=_ from hp];simp
  ·cases b1 with
   | true=>exact U.bad rfl
   | false=>obtain⟨h1,h2⟩:=ab rfl;obtain rfl:=hj.resolve_left aB;refine .inr ?_;rw[h2];simp only[vB];rw[show pre [41] l1=_ from hp.resolve_left aB];rfl
 have ai:∀(es:aM) (x:D),es.length<=10->zB es [x] 136:=λes x h=>by unfold zB;rw[oG];simp only[oJ,oN];omega
 have key:∀(j:Nat) (k9:Int) (n1:Int) (b1:Bool) (ts:aP) (es:aM) (q N':Nat),k9+j=n2->1<=k9->Ar T s b n2 l j n1 b1 l0 ts es->(es.length:Int)<=1+k9->N<=N' ->
   zl E Q N n2 dep k9 s n1 b1 (.j k) (.t nm) (.t ot) (.j m) t0 t1 r0 r1 es.length q 0 (bytes []) (bytes []) 0 0 none [] 0 0 none [] 0 none [] 0 es q N':=by
  intro j
  induction j with
  | zero=>intro k9 n1 b1 ts es q N' hk aq U aj au;refine vm _ _ _ _ _ _ _ _ _ _ _ _ _ _ _ _ _ _ _ _ _ _ _ _ _ _ _ _ _ _ _ _ _ _ _ _ _ (Br.dec (λh=>aA) λ_ N1 ac=>O U (.inr rfl) aA N1 _ λn' b' N2 I hR _=>⟨⟨rfl,rfl⟩,⟨rfl,rfl⟩,⟨rfl,rfl⟩,λa N3 ae _=>⟨zN,λN4 ah=>hQ _ _ _ _ aA (hR a q)⟩⟩)
  | succ j ih=>
    intro k9 n1 b1 ts es q N' hk aq U aj au;have e1:IntKind.i64.wrap (k9+1)=k9+1:=i64_in _ aA;cases b1 with
    | true=>refine vm _ _ _ _ _ _ _ _ _ _ _ _ _ _ _ _ _ _ _ _ _ _ _ _ _ _ _ _ _ _ _ _ _ _ _ _ _ (Br.dec (λ_=>Br.of (λh=>by simp at h) λ_ N1 ac=>O U (.inl rfl) aA N1 _ λn' b' N2 I hR _=>⟨⟨rfl,rfl⟩,⟨rfl,rfl⟩,⟨rfl,rfl⟩,λa N3 ae _=>⟨zN,λN4 ah=>hQ _ _ _ _ aA (hR a q)⟩⟩) λh=>aA)
    | false=>
      obtain⟨l1,Y,ab⟩:=U.at_;obtain⟨hb,hM⟩:=ab rfl;have aw:=U.es rfl;have nx:∀(J:aP) (x:D) (n3:Int) (b3:Bool) (N3 c1:Nat),N<=N3->Ar T s b n2 l j n3 b3 l0 J (es++[x])->zl E Q N n2 dep (IntKind.i64.wrap (k9+1)) s n3 b3 (.j k) (.t nm) (.t ot) (.j m) t0 t1 r0 r1 (es++[x]).length c1 0 (bytes []) (bytes []) 0 0 none [] 0 0 none [] 0 none [] 0 (es++[x]) c1 N3:=λJ x n3 b3 N3 c1 h aa=>by rw[e1];exact ih (k9+1) n3 b3 J (es++[x]) c1 N3 aA aA aa (by rw[oG];simp only[oJ,oN];omega) h
      simp only[vB,mF,ni]at hM;refine vm _ _ _ _ _ _ _ _ _ _ _ _ _ _ _ _ _ _ _ _ _ _ _ _ _ _ _ _ _ _ _ _ _ _ _ _ _ (Br.dec (λ_=>Br.of (λ_=>Br.dec (λ_ N1 ac=>?_) λh=>aA) λh=>by simp at h) λh=>aA);refine sd Y _ aD _ N1 _ (λr n2 N2 I _ hp ax _ N3 ae=>hT s n2 r false N3 _ ax λx n4 b4 N4 ah hx _ _=>⟨⟨rfl,rfl⟩,ai es x aA,λc1=>?_⟩) λN2 I hp _ N3 ae=>hT s n1 l1 true N3 _ Y λx n4 b4 N4 ah hx _ _=>⟨⟨rfl,rfl⟩,ai es x aA,λc1=>?_⟩
      ·rw[show pre [32] l1=_ from hp,oO]at hM;obtain⟨J,aa⟩:=Ar.next hb hM aw hx;exact nx J x n4 b4 N4 c1 aA aa
      ·rw[show pre [32] l1=_ from hp.resolve_left aB]at hM;cases hx with
       | no _ ay=>exact nx [] x n4 true N4 c1 aA ⟨⟨_,ay,aB⟩,λ_=>.inr (by rw[hM];rfl),aB⟩
       | ok h=>cases h
 refine pp _ _ _ _ _ _ _ _ _ _ _ _ _ _ _ _ _ _ _ _ _ _ _ _ _ _ ?_;cases b with
 | true=>
   have U:Ar T s true n2 l n2 n true l0 [] es0:=⟨⟨l,hr,aB⟩,λ_=>.inl rfl,aB⟩
   exact Br.dec (λ_=>Br.of (λh=>by simp at h) λ_ N1 ac=>O U (.inl rfl) aA N1 _ λn' b' N2 I hR _=>⟨zN,λN3 ae=>hQ _ _ _ _ aA (hR a0 c0)⟩) λh=>aA
 | false=>
   obtain⟨j,rfl⟩:∃ j,n2=j+1:=⟨n2 - 1,aA⟩
   refine Br.dec (λ_=>Br.of (λ_=>Br.dec (λh=>aA) λ_=>⟨_,_,_,rfl,λN1 ac=>?_⟩) λh=>by simp at h) λh=>aA
   refine hT s n l false N1 _ hr λx n4 b4 N4 ah hx _ _=>⟨al x,ai es0 x aA,λc1=>?_⟩
   obtain⟨J,aa⟩:=Ar.next (b:=false) (m:=j+1) (l:=l) (l2:=l) (j:=j) (ts:=[]) rfl (by simp only[vB,mI,oO,oa];simp) (by simpa using h0) hx;exact key j 1 n4 b4 J (es0++[x]) c1 N4 aA aA aa (by rw[oG];simp only[oJ,oN];omega) aA
theorem Rd.form {k nm ot ty re b b'}{m:Option (aP × Bl)}{d}(h:Rd (λts d=>(Tm.mk k ⟨nm.toArray⟩ ⟨ot.toArray⟩ 0 ty re ([]++ts)).Is d) s b m d n b'):Rd Tm.Is s b (mkF k nm ot ty re m) d n b':=by
 cases h with
 | ok hb J hd I=>exact .ok hb (by rw[mkF,J];rfl) hd I
 | no h I=>exact .no (h.imp id λh=>by rw[mkF,h];rfl) I
theorem W1 {T:Bl->Option (Tm × Bl)}(J:MM dep T) k{nm}(O:(⟨nm.toArray⟩:aG).size<=4611686018427387904) n2(I:1<=n2/\n2<=3)(U:Atl s n l) b N(Q:QT [.ag 9,.str,.i,.bool])(Y:∀ d n' b' N',N<=N'->Rd Tm.Is s b (mkF k nm [] tZero tZero (vB T [32] [41] n2 true l)) d n' b'->Q d s n' b' N'):BCalls prog 145 [.ag 9,.str,.i,.bool] [.pb 0 0 0 0,.dg 9 (.ag [.j k,.t (⟨nm.toArray⟩),.t (bytes []),.j 0,.j 0,.sl none 2 [] 0,.j 0,.sl none 2 [] 0,.sl none 9 [] 0]),.j (n2:Int),.j dep] [.var [.str s,.j n,.bool b]] N Q:=
 Tl J (hdz O aD) (l0:=[]) rfl aB (a0:=none) (c0:=0) (λ_=>trivial) n2 I U b N Q λd n' b' N' h hd=>Y d n' b' N' h hd.form
theorem W2 {T:Bl->Option (Tm × Bl)}(hT:MM dep T){t x}(I:Atl s n l) b(ht:b=false->t.Is x) N(Q:QT [.ag 9,.str,.i,.bool])(hQ:∀ d n' b' N',N<=N'->Rd Tm.Is s b (QM true T t l) d n' b'->Q d s n' b' N'):BCalls prog 147 [.ag 9,.str,.i,.bool] [.pb 0 0 0 0,.dg 9 x,.j dep] [.var [.str s,.j n,.bool b]] N Q:=by
 have g1:=I.lo;have g2:=I.hi;have g3:=I.sz;have aa:=I.len;have args:∀(k:Int) (nm:aG) (ac:nm.size<=1000) (a:aH) (n1:Int) (l1:Bl) (J:Atl s n1 l1) (_:b=false) (N1:Nat) (_:N<=N1) (Q1:QT [.ag 9,.str,.i,.bool]) (_:∀ d n' b' N',N1<=N'->Rd Tm.Is s b ((T l1).bind λy=>(pre [41] y.2).map λr=>(Tm.mk k nm (bytes []) 0 tZero tZero [t,y.1],r)) d n' b'->Q1 d s n' b' N'),BCalls prog 145 [.ag 9,.str,.i,.bool] [.pb 0 0 0 0,.dg 9 (.ag [.j k,.t nm,.t (bytes []),.j 0,.j 0,.sl none 2 [] 0,.j 0,.sl none 2 [] 0,.sl a 9 [x] 1]),.j 1,.j dep] [.var [.str s,.j n1,.bool b]] N1 Q1:=λk nm ac a n1 l1 J hb N1 ae Q1 ah=>
  Tl hT (hdz aA aD) (l0:=[t]) (CP (ht hb)) aB (λy=>by cases a<;>exact⟨rfl,aB⟩) 1 ⟨aA,aA⟩ J b N1 Q1 λd n' b2 N' h hd=>ah d n' b2 N' h (by
   rw[ZV]at hd;cases hd with
   | @ok ts r _ _ hb hm hd I=>obtain⟨⟨y,l2⟩,h1,hm⟩:=oe.1 hm;obtain⟨r',h2,hm⟩:=nN.1 hm;cases hm;exact .ok hb (t:=.mk k nm (bytes []) 0 tZero tZero [t,y]) (r:=r) (by rw[h1,oO];show(pre [41] l2).map _=_;rw[show pre [41] l2=_ from h2];rfl) hd I
   | no h I=>
     refine .no (h.imp id λh=>?_) I;cases h1:T l1 with
     | none=>rfl
     | some y=>rw[h1,oO,Option.map_eq_none_iff]at h;rw[oO,h];rfl)
 have bad:∀(d:D) (l1:Bl) (n1:Int) (N1:Nat),N<=N1->Atl s n1 l1->(b=true\/QM true T t l=none)->Q d s n1 true N1:=λd l1 n1 N1 h J hn=>hQ _ _ _ _ h (.no hn J);refine F2 N x dep s n b Q λE _ N1 ae=>ud I _ aD _ N1 _ (λr n2 N2 ai hb hp aj _=>Br.of (λ_=>⟨⟨rfl,rfl⟩,⟨rfl,rfl⟩,⟨rfl,rfl⟩,⟨rfl,rfl⟩,λa N3 O _ N4 U=>?_⟩) λh=>by cases h) λN2 ai hp _=>Br.of (λh=>by cases h) λ_=>?_
 ·have e:=yI hp;have el:l=32::r:=e;exact args 7 _ aD a n2 r aj hb N4 aA _ λd n' b' N' h hd _ _=>⟨zN,λN5 ab=>hQ _ _ _ _ aA (by rw[el];simp only[QM,mI];exact hd)⟩
 ·cases b with
  | true=>exact Br.of (λ_=>⟨⟨rfl,rfl⟩,⟨rfl,rfl⟩,⟨rfl,rfl⟩,⟨rfl,rfl⟩,⟨rfl,rfl⟩,λa N3 O _=>⟨zN,λN4 U=>bad _ _ _ _ aA I (.inl rfl)⟩⟩) λh=>by cases h
  | false=>
    have hp:=hp.resolve_left aB;refine Br.of (λh=>by cases h) λ_=>?_;cases l with
    | nil=>
      have:=I.nil.1 rfl
      exact Br.dec (λ_=>⟨⟨rfl,rfl⟩,⟨rfl,rfl⟩,⟨rfl,rfl⟩,⟨rfl,rfl⟩,⟨rfl,rfl⟩,λa N3 O _=>⟨zN,λN4 U=>bad _ _ _ _ aA I (.inr rfl)⟩⟩) λh=>aA
    | cons c r=>
      simp only[oJ]at aa;have hc:c≠32:=λe=>by rw[e]at hp;have:=zAD 32 [] r;rw[show pre [32] (32::r)=_ from hp]at this;cases this
      have e1:IntKind.i64.wrap (n+1)=n+1:=i64_in _ aA;have ex:ByteArray.extract s n.toNat (n+1).toNat=⟨#[c]⟩:=yA (I.ext 1 rfl);refine Br.dec (λh=>aA) λak=>?_;rw[e1,ex,nX ak];refine⟨⟨g1,aA,aA⟩,λN3 O=>su _ N3 _ λN4 U _=>Br.bne (λY=>⟨⟨rfl,rfl⟩,⟨rfl,rfl⟩,⟨rfl,rfl⟩,⟨rfl,rfl⟩,⟨rfl,rfl⟩,λa N5 ab _=>⟨zN,λN6 al=>bad _ _ _ _ aA I (.inr (by simp only[QM];rw[if_neg hc,if_pos ⟨trivial,Y⟩]))⟩⟩) λY=>⟨⟨g1,aA,aA⟩,⟨rfl,rfl⟩,⟨rfl,rfl⟩,⟨rfl,rfl⟩,⟨rfl,rfl⟩,λa N5 ab _ N6 al=>?_⟩⟩;refine args 4 ⟨#[c]⟩ (by show 1<=1000;omega) a (n+1) r (I.app (p:=[c]) rfl rfl) rfl N6 aA _ λd n' b' N' h hd _ _=>⟨zN,λN7 ao=>hQ _ _ _ _ aA ?_⟩
      simp only[QM];rw[if_neg hc,if_neg (λh=>h.2 Y)];exact hd
end Go.Proofs.YtlaniepnglheoaaGreatDoor
set_option maxRecDepth 100000
namespace Go.Proofs.YtlaniepnglheoaaGreatDoor
open Go Go.Proofs Go.Proofs.Tryz Go.IntWalk
def Jb (l:Bl):Nat:=l.foldl (λa c=>10*a+(c.toNat - 48)) 0
theorem Gz l c:Jb (l++[c])=10*Jb l+(c.toNat - 48):=by simp[Jb]
theorem Ss {n}(h:n<10):(UInt8.ofNat (48+n)).toNat - 48=n:=by
 have:n=0\/n=1\/n=2\/n=3\/n=4\/n=5\/n=6\/n=7\/n=8\/n=9:=aA
 rcases this with rfl | rfl | rfl | rfl | rfl | rfl | rfl | rfl | rfl | rfl<;>decide
theorem Pl:∀ n:Nat,Jb (Lib.decDigits n)=n:=by
 intro n
 induction n using Nat.strongRecOn with
 | _ n I=>
   rw[Lib.decDigits];split
   ·rename_i h;show 10*0+((UInt8.ofNat (48+n)).toNat - 48)=n;rw[Ss h];omega
   ·rw[Gz,I _ aA,Ss aA];omega
theorem Oa:∀(k:Nat)(l:Bl),l.length=k->(∀ c∈l,Dd c=true)->Jb l<10 ^ k:=by
 intro k
 induction k with
 | zero=>intro l hl _;rw[oV hl];decide
 | succ k J=>
   intro l hl hd;have I:l≠[]:=λe=>by rw[e]at hl;cases hl
   rw[<-List.dropLast_concat_getLast I,Gz];have U:=J l.dropLast (by rw[List.length_dropLast];omega) λc hc=>hd c (List.dropLast_subset l hc);have O:=hd _ (List.getLast_mem I);simp only[Dd,oh]at O;rw[mo];omega
theorem Xr:∀(k n:Nat),1<=k->n<10 ^ k->(Lib.decDigits n).length<=k:=by
 intro k
 induction k with
 | zero=>intro n h;omega
 | succ k I=>
   intro n _ J;rw[Lib.decDigits];split
   ·simp
   ·rename_i h;rw[oG];have O:1<=k:=by
     rcases md k with e | e
     ·subst e;omega
     ·exact e
    have:=I (n / 10) O (by rw[mo]at J;omega)
    simp only[oJ,oN];omega
theorem Xs n:1<=(Lib.decDigits n).length:=by obtain⟨b,l,e⟩:=Me n;rw[e];simp
theorem Mz {w}(h:w.length<1\/6<w.length):wD w=none:=Ah λn O e=>by have I:=Xr 6 n aA aA;have J:=Xs n;rw[e]at I J;omega
theorem HR {w c}(hc:c∈w)(h:Dd c=false):wD w=none:=Ah λn I e=>by
 have:=rx n c (by rw[e];exact hc)
 rw[h]at this;cases this
theorem Xa (l:List Int):∀ b:aG,(l.foldl (λr n=>r.push (UInt8.ofNat n.toNat)) b).size=b.size+l.length:=by
 induction l with
 | nil=>intro b;simp
 | cons x l I=>intro b;simp only[List.foldl_cons,I,ByteArray.size_push,oJ];omega
theorem SI l:(bytesOf l).size=l.length:=by unfold bytesOf;rw[Xa];simp
theorem zBQ n(h:n.natAbs<10000000000) N(Q:QT [.str])(J:∀ s N',N<=N'->Q s N'):ACalls prog 22 [.str] [.j n] N Q:=by
 refine qj N n Q (Br.beq (λ_ N1 I=>J _ _ I) λ_=>?_);have key:∀(m:Nat) (x:Int) (s:aG),x.natAbs<10 ^ m->m+s.size<=10->∀ b,zk Q N x b s N:=by
  intro m
  induction m with
  | zero=>intro x s O hs b;exact vk (Br.bne (λh=>aA) λ_=>Br.of (λ_=>⟨aA,λN1 I=>J _ _ I⟩) λ_ N1 I=>J _ _ I)
  | succ m Y=>
    intro x s O hs b;have hb:x.natAbs<10000000000:=o7 O (by rw[show(10000000000:Nat)=10 ^ 10 from rfl];exact mH aA aA);have hq:(Int.tdiv x 10).natAbs=x.natAbs / 10:=Int.natAbs_tdiv x 10;have hd:IntKind.i64.wrap (Int.tdiv x 10)=Int.tdiv x 10:=i64_in _ aA;have U:∀ es:List Int,es.length=1->zk Q N (IntKind.i64.wrap (Int.tdiv x 10)) b (bytesOf es++s) N:=λes he=>by
     rw[hd];refine Y _ _ ?_ ?_ b
     ·rw[hq];rw[mo]at O;omega
     ·rw[oE,SI];omega
    have sz:∀ es:List Int,es.length=1->(bytesOf es).size+s.size<=9223372036854775807:=λes he=>by rw[SI];omega
    exact vk (Br.bne (λ_=>⟨aD,Br.of (λ_=>⟨aB,[_],rfl,sz _ rfl,aD,U _ rfl⟩) λ_=>⟨aB,[_],rfl,sz _ rfl,aD,U _ rfl⟩⟩) λ_=>Br.of (λ_=>⟨aA,λN1 I=>J _ _ I⟩) λ_ N1 I=>J _ _ I)
 exact key 10 n _ (by simpa using h) aD  _
theorem zBS w(hw:w.size<=1073741824) N(Q:QT [.i,.bool])(h1:∀(m:Nat) N',N<=N'->wD (bl w)=some m->Q (m:Int) true N')(h0:∀ N',N<=N'->wD (bl w)=none->Q 0 false N'):ACalls prog 148 [.i,.bool] [.str w] N Q:=by
 refine DT N w Q λN1 au=>?_;have ak:(bl w).length=w.size:=ve w;have Y:wD (bl w)=none->∀(n:Int) N2,N1<=N2->Br (!false) (∀ N3,N2<=N3->Q 0 false N3) (Br (decide (n<0)) (∀ I,N2<=I->Q 0 false I) (∀ J,N2<=J->Q n true J)):=λhn n N2 ac=>Br.of (λ_ N3 U=>h0 _ aA hn) λh=>by cases h
 have ai:∀(n:Int) N2,N1<=N2->(n<0/\wD (bl w)=none\/∃ m:Nat,n=m/\wD (bl w)=some m)->Br (!true) (∀ N3,N2<=N3->Q 0 false N3) (Br (decide (n<0)) (∀ I,N2<=I->Q 0 false I) (∀ J,N2<=J->Q n true J)):=λn N2 ac h=>Br.of (λh=>by cases h) λ_=>Br.dec (λhn I ae=>h0 _ aA (h.elim And.right λ⟨m,e,_⟩=>aA)) λhn J aa=>by
  rcases h with⟨h,_⟩ | ⟨m,rfl,h⟩
  ·omega
  ·exact h1 m _ aA h
 have key:∀(b6:Bool) (t:aG),t.size<=6->(b6=true->∃ r,bl w=45::r)->(b6=false->t=w)->∀(rest p:Bl),bl t=p++rest->(∀ c∈p,Dd c=true)->ye (λn b N2=>N1<=N2->Br (!b) (∀ N3,N2<=N3->Q 0 false N3) (Br (decide (n<0)) (∀ I,N2<=I->Q 0 false I) (∀ J,N2<=J->Q n true J))) N1 w b6 t (Jb p:Int) (p.length:Int) N1:=λb6 t ht hb hf=>by
  have aj:(bl t).length=t.size:=ve t;have neg:b6=true->wD (bl w)=none:=λh=>by obtain⟨r,e⟩:=hb h;exact HR (c:=45) (by rw[e];simp) aD
  intro rest
  induction rest with
  | nil=>
    intro p hp hd;rw[o8]at hp;have al:p.length=t.size:=by rw[<-aj,hp]
    have hv:=Oa 6 (List.replicate (6 - p.length) 48++p) aF (λc hc=>by
     rcases oM.1 hc with hc | hc
     ·rw[nZ hc];decide
     ·exact hd c hc)
    have ao:Jb p<10 ^ 6:=o7 (Oa p.length p rfl hd) (mH aA aA);have e0:IntKind.i64.wrap (0 - (Jb p:Int))=0 - (Jb p:Int):=i64_in _ aA;refine pX (Br.dec (λh=>aA) λ_=>Br.of (λO N3 U=>?_) λO N3 U=>?_)
    ·rw[e0];rcases md (Jb p)with hz | hz
     ·rw[hz];exact xe 0 aA N3 _ λI ae _=>Br.nstr (λ_ J aa _=>Y (neg O) _ _ aA) λhe=>by exfalso;obtain⟨r,e⟩:=hb O;have:bl (Rx 0)=45::r:=(oY bl he).trans e;have h2:=rx 0 45 (by show 45∈bl (Rx 0);rw[this];simp);revert h2;decide
     ·exact zBQ _ aA N3 _ λz I ae _=>Br.of (λ_ J aa _=>Y (neg O) _ _ aA) λ_ J aa _=>ai _ _ aA (.inl ⟨aA,neg O⟩)
    ·obtain rfl:=hf O;refine xe (Jb p) aA N3 _ λI ae _=>Br.nstr (λaq J aa _=>Y (Ah λn hn e=>aq ?_) _ _ aA) λhe J aa _=>ai _ _ aA (.inr ⟨Jb p,rfl,?_⟩)
     ·have:Jb p=n:=by rw[<-hp];exact(oY Jb e.symm).trans (Pl n)
      rw[this];exact yA e
     ·have:Lib.decDigits (Jb p)=bl t:=oY bl he;rw[<-this];exact HQ aA
  | cons c rest ih=>
    intro p hp hd;have al:p.length+(rest.length+1)=t.size:=by rw[<-aj,hp,oG,oJ]
    have ah:Atl t p.length (c::rest):=Atl.app (n:=0) ⟨aA,aA,aA,rfl⟩ (p:=p) (by show bl t=_;rw[hp]) aA;have hg:=ah.get;have bd:0<=(p.length:Int)/\(p.length:Int)<(t.size:Int):=⟨aA,aA⟩
    have no:Dd c=false->∀(N3:Nat),N1<=N3->Br (!false) (∀ I,N3<=I->Q 0 false I) (Br (decide ((0:Int)<0)) (∀ I,N3<=I->Q 0 false I) (∀ J,N3<=J->Q 0 true J)):=λhc N3 U=>Y (by
     cases O:b6 with
     | true=>exact neg O
     | false=>obtain rfl:=hf O;exact HR (c:=c) (by rw[hp];simp) hc) _ _ U
    refine pX (Br.dec (λ_=>?_) λh=>aA);rw[hg];refine⟨bd,Br.dec (λh N3 U _=>no (by simp only[Dd,nw];omega) _ U) λg1=>⟨bd,Br.dec (λh N3 U _=>no (by simp only[Dd,nw];omega) _ U) λg2=>⟨bd,?_⟩⟩⟩;have ao:Jb p<10 ^ 6:=o7 (Oa p.length p rfl hd) (mH aA aA);have e3:IntKind.u8.wrap ((c.toNat:Int) - 48)=(c.toNat:Int) - 48:=u8_in _ aA;rw[e3,i64_in (10*(Jb p:Int)) aA,i64_in ((c.toNat:Int) - 48) aA,i64_in (10*(Jb p:Int)+((c.toNat:Int) - 48)) aA,i64_in ((p.length:Int)+1) aA]
    have:=ih (p++[c]) (by rw[hp,oP];rfl) λx hx=>by
     rcases oM.1 hx with hx | hx
     ·exact hd x hx
     ·rw[oi.1 hx];simp only[Dd,oh];omega
    rw[Gz,oG]at this;have e4:((10*Jb p+(c.toNat - 48):Nat):Int)=10*(Jb p:Int)+((c.toNat:Int) - 48):=aA
    rw[e4]at this;exact this
 have cut:∀ b6:Bool,∀ t:aG,(b6=true->∃ r,bl w=45::r)->(b6=false->t=w)->Br (decide ((t.size:Int)<1)) (∀ N2,N1<=N2->N1<=N2->Br (!false) (∀ N3,N2<=N3->Q 0 false N3) (Br (decide ((0:Int)<0)) (∀ I,N2<=I->Q 0 false I) (∀ J,N2<=J->Q 0 true J))) (Br (decide ((t.size:Int)>6)) (∀ N2,N1<=N2->N1<=N2->Br (!false) (∀ N3,N2<=N3->Q 0 false N3) (Br (decide ((0:Int)<0)) (∀ I,N2<=I->Q 0 false I) (∀ J,N2<=J->Q 0 true J))) (ye (λn b N2=>N1<=N2->Br (!b) (∀ N3,N2<=N3->Q 0 false N3) (Br (decide (n<0)) (∀ I,N2<=I->Q 0 false I) (∀ J,N2<=J->Q n true J))) N1 w b6 t 0 0 N1)):=λb6 t hb hf=>by
  have sh:t.size<1\/6<t.size->wD (bl w)=none:=λh=>by
   cases O:b6 with
   | true=>obtain⟨r,e⟩:=hb O;exact HR (c:=45) (by rw[e];simp) aD
   | false=>obtain rfl:=hf O;exact Mz (by rw[ve];exact h)
  exact Br.dec (λh N2 ac _=>Y (sh aA) 0 _ aA) λh1=>Br.dec (λh N2 ac _=>Y (sh aA) 0 _ aA) λh=>key b6 t aA hb hf (bl t) [] rfl aB
 refine Lp N1 w 6 _ (Br.dec (λh=>⟨⟨aA,aA⟩,Br.beq (λab=>⟨⟨aA,aA,aA⟩,?_⟩) λab=>?_⟩) λh=>cut _ _ aB aB)
 ·rw[show(((w.data.getD 0 (OfNat.ofNat 0)).toNat:Int)==45)=true from by simpa using ab];refine cut _ _ (λ_=>?_) aB;cases e:bl w with
  | nil=>rw[<-ak,e]at h;simp at h
  | cons c r=>
    have ah:Atl w 0 (c::r):=⟨hw,aA,aA,e⟩
    have hg:=ah.get;rw[show(0:Int).toNat=0 from rfl]at hg;rw[hg]at ab;refine⟨r,?_⟩;have:c=45:=UInt8.toNat_inj.1 (by show c.toNat=45;omega);rw[this]
 ·rw[show(((w.data.getD 0 (OfNat.ofNat 0)).toNat:Int)==45)=false from by simpa using ab];exact cut _ _ aB aB
end Go.Proofs.YtlaniepnglheoaaGreatDoor
set_option maxRecDepth 100000
namespace Go.Proofs.YtlaniepnglheoaaGreatDoor
open Go Go.Proofs Go.Proofs.Tryz Go.IntWalk
variable {dep n:Int} {l:Bl} {s:aG}
structure Ms (s:aG) (b:Bool) (t l:Bl) (n':Int) (b':Bool) (l':Bl):Prop where
 at_:Atl s n' l'
 ok:b'=false->b=false/\pre t l=some l'
 no:b'=true->b=true\/pre t l=none
theorem ZD (O:Atl s n l) t(Y:t.size<=100) b N(Q:QT [.str,.i,.bool])(U:∀ l' n' b' N',N<=N'->Ms s b (bl t) l n' b' l'->Q s n' b' N'):BCalls prog 81 [.str,.i,.bool] [.pb 0 0 0 0,.str t] [.var [.str s,.j n,.bool b]] N Q:=
 sd O t Y b N Q (λr n' N' h hb I J=>U r n' false N' h ⟨J,λ_=>⟨hb,I⟩,aB⟩) λN' h I=>U l n true N' h ⟨O,aB,λ_=>I⟩
structure Ts (s:aG) (b:Bool) (l:Bl) (d:D) (n':Int) (b':Bool) (t:Ty) (l':Bl):Prop where
 at_:Atl s n' l'
 ok:b'=false->b=false/\tM 8 l=some (t,l')/\t.Is d
 no:b'=true->b=true\/tM 8 l=none
theorem zBU (U:Atl s n l) b N(Q:QT [.ag 2,.str,.i,.bool])(O:∀ t l' d n' b' N',N<=N'->Ts s b l d n' b' t l'->Q d s n' b' N'):BCalls prog 144 [.ag 2,.str,.i,.bool] [.pb 0 0 0 0,.j 1] [.var [.str s,.j n,.bool b]] N Q:=
 zAH 8 aA 1 aA U b N Q λd n' b' N' h hd=>by
  cases hd with
  | @ok t r _ _ hb J hd I=>exact O t r d n' false N' h ⟨I,λ_=>⟨hb,J,hd⟩,aB⟩
  | no J I=>exact O tZero _ d n' true N' h ⟨I,aB,λ_=>J⟩
theorem Tn x(n2:Nat)(J:1<=n2/\n2<=3)(O:Atl s n l) N(Q:QT [.ag 9,.str,.i,.bool])(U:∀ d N',N<=N'->Q d s n true N'):BCalls prog 145 [.ag 9,.str,.i,.bool] [.pb 0 0 0 0,.dg 9 x,.j (n2:Int),.j dep] [.var [.str s,.j n,.bool true]] N Q:=by
 refine qm N _ n2 dep s n true Q λE _=>?_;refine pp _ _ _ _ _ _ _ _ _ _ _ _ _ _ _ _ _ _ _ _ _ _ _ _ _ _ (Br.dec (λ_=>Br.of (λh=>by simp at h) λ_ N1 Y=>?_) λh=>aA);exact sd O _ aD _ N1 _ (λr n' N2 I h=>by cases h) λN2 I hp _=>⟨zN,λN3 aa=>U _ _ aA⟩
theorem To {T:Bl->Option (Tm × Bl)}(O:MM dep T){k nm ot ty re x y}(h1:(⟨nm.toArray⟩:aG).size<=1073741824)(h2:(⟨ot.toArray⟩:aG).size<=1073741824)(I:Atl s n l) b(U:b=false->ty.Is x)(Y:b=false->re.Is y) N(Q:QT [.ag 9,.str,.i,.bool])(J:∀ d n' b' N',N<=N'->Rd Tm.Is s b (mkF k nm ot ty re (vB T [] [41] 1 true l)) d n' b'->Q d s n' b' N'):BCalls prog 145 [.ag 9,.str,.i,.bool] [.pb 0 0 0 0,.dg 9 (.ag [.j k,.t (⟨nm.toArray⟩),.t (⟨ot.toArray⟩),.j 0,x.cell 0,x.cell 1,y.cell 0,y.cell 1,.sl none 9 [] 0]),.j 1,.j dep] [.var [.str s,.j n,.bool b]] N Q:=by
 cases b with
 | true=>exact Tn _ 1 ⟨aA,aA⟩ I N Q λd N' h=>J _ _ _ _ h (.no (.inl rfl) I)
 | false=>exact Tl O (k:=k) (m:=0) (nm:=⟨nm.toArray⟩) (ot:=⟨ot.toArray⟩) (ty:=ty) (re:=re) ⟨aA,aA,Ty.is_cells (U rfl),Ty.is_cells (Y rfl)⟩ (l0:=[]) rfl aB (a0:=none) (c0:=0) (λ_=>trivial) 1 ⟨aA,aA⟩ I false N Q λd n' b' N' h hd=>J d n' b' N' h hd.form
theorem zBT {T:Bl->Option (Tm × Bl)}(hT:MM dep T)(hr:Atl s n l) N(Q:QT [.ag 9,.str,.i,.bool])(hQ:∀ d n' b' N',N<=N'->Rd Tm.Is s false (LG T l) d n' b'->Q d s n' b' N'):BCalls prog 146 [.ag 9,.str,.i,.bool] [.pb 0 0 0 0,.j dep] [.var [.str s,.j n,.bool false]] N Q:=by
 refine IG N dep s n false Q λE N1 bi=>Jv hr _ N1 _ λn2 N2 bj ak _ N3 bm=>ZD ak _ aD _ N3 _ λl4 n4 b4 N4 bp m4 _ N5 bq=>Jv m4.at_ _ N5 _ λn6 N6 bt al _ N7 bv=>ZD al _ aD _ N7 _ λl8 n8 b8 N8 bw m8 _ N9 bz=>?_;refine zBU m8.at_ _ N9 _ λty l10 d b3 ai b7 az J _ _ ao a6=>ZD J.at_ _ aD _ ao _ λaq b9 ac ca a7 aa _ au a8=>?_;refine zBU aa.at_ _ au _ λre aj e cc ae cd ba O _ _ aw bb=>ZD O.at_ _ aD _ aw _ λax ce ah cf bc m16 _ ay bg=>?_;have I:ah=false->ae=false:=λh=>(m16.ok h).1;have U:ae=false->ac=false:=λh=>(O.ok h).1;have ab:ac=false->ai=false:=λh=>(aa.ok h).1;refine To hT (ty:=ty) (re:=re) (sD hr) (sD m4.at_) m16.at_ ah (λh=>(J.ok (ab (U (I h)))).2.2) (λh=>(O.ok (I h)).2.2) ay _ λx n' b' N' h hx _ _=>⟨zN,λcg bh=>hQ _ _ _ _ aA ?_⟩
 have e:LG T l=(pre [32] (word l).2).bind λm=>(pre [58] (word m).2).bind λr=>(tM 8 r).bind λt=>(pre [62] t.2).bind λr=>(tM 8 r).bind λu=>(pre [46] u.2).bind λr=>mkF 9 (word l).1 (word m).1 t.1 u.1 (vB T [] [41] 1 true r):=rfl;rw[e];cases b4 with
 | true=>
   rw[show pre [32] (word l).2=none from(m4.no rfl).resolve_left aB];cases hx with
   | ok hb=>exact absurd ((m8.ok ((J.ok (ab (U (I hb)))).1)).1) aB
   | no _ Y=>exact .no (.inr rfl) Y
 | false=>
 rw[show pre [32] (word l).2=some l4 from(m4.ok rfl).2,oO];cases b8 with
 | true=>
   rw[show pre [58] (word l4).2=none from(m8.no rfl).resolve_left aB];cases hx with
   | ok hb=>exact absurd ((J.ok (ab (U (I hb)))).1) aB
   | no _ Y=>exact .no (.inr rfl) Y
 | false=>
 rw[show pre [58] (word l4).2=some l8 from(m8.ok rfl).2,oO];cases ai with
 | true=>
   rw[(J.no rfl).resolve_left aB];cases hx with
   | ok hb=>exact absurd (ab (U (I hb))) aB
   | no _ Y=>exact .no (.inr rfl) Y
 | false=>
 rw[(J.ok rfl).2.1,oO];cases ac with
 | true=>
   rw[show pre [62] (ty,l10).2=none from(aa.no rfl).resolve_left aB];cases hx with
   | ok hb=>exact absurd (U (I hb)) aB
   | no _ Y=>exact .no (.inr rfl) Y
 | false=>
 rw[show pre [62] (ty,l10).2=some aq from(aa.ok rfl).2,oO];cases ae with
 | true=>
   rw[(O.no rfl).resolve_left aB];cases hx with
   | ok hb=>exact absurd (I hb) aB
   | no _ Y=>exact .no (.inr rfl) Y
 | false=>
 rw[(O.ok rfl).2.1,oO];cases ah with
 | true=>
   rw[show pre [46] (re,aj).2=none from(m16.no rfl).resolve_left aB];cases hx with
   | ok hb=>cases hb
   | no _ Y=>exact .no (.inr rfl) Y
 | false=>
 rw[show pre [46] (re,aj).2=some ax from(m16.ok rfl).2,oO];exact hx
theorem zBR {T:Bl->Option (Tm × Bl)}(hT:MM dep T)(hr:Atl s n l) E N(Q:QT [.ag 9,.str,.i,.bool])(hQ:∀ d n' b' N',N<=N'->Rd Tm.Is s false (O3 T l) d n' b'->Q d s n' b' N'):BCalls prog 84 [.str,.str,.i,.bool] [.pb 0 0 0 0] [.var [.str s,.j n,.bool false]] N (λae ah ai aj N4=>N<=N4->∀ U,N4<=U->BCalls prog 81 [.str,.i,.bool] [.pb 0 0 0 0,.str (bytes [58])] [.var [.str ah,.j ai,.bool aj]] U (λak al ao N6=>U<=N6->∀ Y,N6<=Y->BCalls prog 144 [.ag 2,.str,.i,.bool] [.pb 0 0 0 0,.j 1] [.var [.str ak,.j al,.bool ao]] Y (λx aq au aw N8=>Y<=N8->Bel N8 x->∀ N9,N8<=N9->BCalls prog 81 [.str,.i,.bool] [.pb 0 0 0 0,.str (bytes [46])] [.var [.str aq,.j au,.bool aw]] N9 (λax ay az aa=>N9<=aa->∀ I,aa<=I->BCalls prog 145 [.ag 9,.str,.i,.bool] [.pb 0 0 0 0,.dg 9 (.ag [.j 6,.t ae,.t (bytes []),.j 0,x.cell 0,x.cell 1,.j 0,.sl none 2 [] 0,.sl none 9 [] 0]),.j 1,.j dep] [.var [.str ax,.j ay,.bool az]] I (λab a6 a7 a8 J=>I<=J->Bel J ab->yg E [.var [.str (bytes []),.j 0,.bool false]]/\∀ ac,J<=ac->Q ab a6 a7 a8 ac))))):=by
 refine Jv hr _ N _ λn2 N2 bc ba _ N3 bg=>ZD ba _ aD _ N3 _ λl4 n4 b4 N4 bh m4 _ U bi=>zBU m4.at_ _ U _ λty l6 d n6 b6 N6 bj m6 _ _ Y bm=>ZD m6.at_ _ aD _ Y _ λl8 n8 b8 N8 bp O _ N9 bq=>?_;refine To hT (k:=6) (ot:=[]) (ty:=ty) (re:=tZero) (y:=.ag [.j 0,.sl none 2 [] 0]) (sD hr) aD O.at_ b8 (λh=>(m6.ok (O.ok h).1).2.2) (λ_=>wB 0) N9 _ λx n' b' N' h hx _ _=>⟨zN,λbt bb=>hQ _ _ _ _ aA ?_⟩
 have e:O3 T l=(pre [58] (word l).2).bind λr=>(tM 8 r).bind λt=>(pre [46] t.2).bind λr=>mkF 6 (word l).1 [] t.1 tZero (vB T [] [41] 1 true r):=rfl;rw[e];cases b4 with
 | true=>
   rw[show pre [58] (word l).2=none from(m4.no rfl).resolve_left aB];cases hx with
   | ok hb=>exact absurd ((m6.ok (O.ok hb).1).1) aB
   | no _ ha=>exact .no (.inr rfl) ha
 | false=>
 rw[show pre [58] (word l).2=some l4 from(m4.ok rfl).2,oO];cases b6 with
 | true=>
   rw[(m6.no rfl).resolve_left aB];cases hx with
   | ok hb=>exact absurd ((O.ok hb).1) aB
   | no _ ha=>exact .no (.inr rfl) ha
 | false=>
 rw[(m6.ok rfl).2.1,oO];cases b8 with
 | true=>
   rw[show pre [46] (ty,l6).2=none from(O.no rfl).resolve_left aB];cases hx with
   | ok hb=>cases hb
   | no _ ha=>exact .no (.inr rfl) ha
 | false=>
 rw[show pre [46] (ty,l6).2=some l8 from(O.ok rfl).2,oO];exact hx
theorem V5 (hr:Atl s n l) N(Q:QT [.ag 9,.str,.i,.bool])(hQ:∀ d n' b' N',N<=N'->Rd Tm.Is s false ((wD (word l).1).map λn=>(WN n,(word l).2)) d n' b'->Q d s n' b' N'):BCalls prog 83 [.ag 9,.str,.i,.bool] [.pb 0 0 0 0] [.var [.str s,.j n,.bool false]] N Q:=by
 refine DY N s n false Q λE N1 ac=>Jv hr _ N1 _ λn2 N2 ae I _ N3 ah=>zBS _ (sD hr) N3 _ (λm N4 J O _=>Br.of (λh=>by cases h) λ_ U Y=>sk U m _ λN6 aa _ _=>⟨zN,λN7 ab=>hQ _ _ _ _ aA (.ok rfl (t:=WN m) (r:=(word l).2) ?_ (rz 2 m aD) I)⟩) λN4 J O _=>Br.of (λh=>by cases h) λ_ U Y=>sk U 0 _ λN6 aa _ _=>⟨zN,λN7 ab=>hQ _ _ _ _ aA (.no (.inr ?_) I)⟩
 ·rw[show wD (word l).1=some m from O];rfl
 ·rw[show wD (word l).1=none from O];rfl
end Go.Proofs.YtlaniepnglheoaaGreatDoor
set_option maxRecDepth 100000
namespace Go.Proofs.YtlaniepnglheoaaGreatDoor
open Go Go.Proofs Go.Proofs.Tryz Go.IntWalk
theorem zAF {dep}{T:Bl->Option (Tm × Bl)}(hT:MM dep T){s n l}(hr:Atl s n l) N(Q:QT [.ag 9,.str,.i,.bool])(hQ:∀ d n' b' N',N<=N'->Rd Tm.Is s false (qv true T l) d n' b'->Q d s n' b' N'):BCalls prog 82 [.ag 9,.str,.i,.bool] [.pb 0 0 0 0,.j dep] [.var [.str s,.j n,.bool false]] N Q:=by
 refine F1 N dep s n false Q λE N1 bv=>?_;have fin:∀ {m:Option (Tm × Bl)},qv true T l=m->∀ N1,N<=N1->∀ d n' b' N',N1<=N'->Rd Tm.Is s false m d n' b'->N1<=N'->Bel N' d->yg E [.var [.str (bytes []),.j 0,.bool false]]/\∀ N3,N'<=N3->Q d s n' b' N3:=λ{m} hm N1 h1 d n' b' N' h J _ _=>⟨zN,λN3 h3=>hQ _ _ _ _ aA (by rw[hm];exact J)⟩
 have form:∀ {p r:Bl} {k:Int} {nm:Bl} {n2:Nat} {n':Int},pre p l=some r->Atl s n' r->(∀ r,qv true T (p++r)=mkF k nm [] tZero tZero (vB T [32] [41] n2 true r))->(⟨nm.toArray⟩:aG).size<=1000->1<=n2/\n2<=3->∀ N1,N<=N1->BCalls prog 145 [.ag 9,.str,.i,.bool] [.pb 0 0 0 0,.dg 9 (.ag [.j k,.t (⟨nm.toArray⟩),.t (bytes []),.j 0,.j 0,.sl none 2 [] 0,.j 0,.sl none 2 [] 0,.sl none 9 [] 0]),.j (n2:Int),.j dep] [.var [.str s,.j n',.bool false]] N1 (λd s n b N2=>N1<=N2->Bel N2 d->yg E [.var [.str (bytes []),.j 0,.bool false]]/\∀ N3,N2<=N3->Q d s n b N3):=λ{p r k nm n2 n'} I ba hi hs hn N1 h1=>W1 hT k aA n2 hn ba false N1 _ λd bb b' N' h J=>fin (by rw[yI I];exact hi r) N1 h1 d bb b' N' h J;refine ud hr _ aD _ N1 _ (λr n2 N2 bc _ I bg _=>Br.of (λ_ N3 bh=>?_) λh=>by cases h) λN2 bc h1 _=>Br.of (λh=>by cases h) λ_ N3 bh=>?_
 ·exact zBR hT bg E N3 _ λd n' b' N' h J=>hQ _ _ _ _ aA (by rw[yI I];exact(QI true T r) ▸ J)
 refine ud hr _ aD _ N3 _ (λr n4 N4 bi _ I aj _=>Br.of (λ_ N5 bj=>?_) λh=>by cases h) λN4 bi h2 _=>Br.of (λh=>by cases h) λ_ N5 bj=>?_
 ·refine Jv aj _ N5 _ λn6 N6 ak O _ N7 al=>sd O _ aD _ N7 _ (λr8 n8 N8 aa _ hq ab _ N9 ac=>?_) λN8 aa hq _ N9 ac=>?_
  ·exact W1 hT 8 (by have:=sD aj;omega) 2 ⟨aA,aA⟩ ab false N9 _ λd n' b' N' h J=>fin (by rw[yI I];exact(LD true T r).trans (by unfold LF;rw[show pre [61] (word r).2=some r8 from hq];rfl)) N9 aA d n' b' N' h J
  ·exact Tn _ 2 ⟨aA,aA⟩ O N9 _ λd N' h _ _=>⟨zN,λao bw=>hQ _ _ _ _ aA (.no (.inr (by rw[yI I];exact(LD true T r).trans (by unfold LF;rw[show pre [61] (word r).2=none from hq.resolve_left aB];rfl))) O)⟩
 refine ud hr _ aD _ N5 _ (λr n6 N6 ak _ I O _=>Br.of (λ_ N7 al=>?_) λh=>by cases h) λN6 ak h3 _=>Br.of (λh=>by cases h) λ_ N7 al=>?_
 ·exact zBT hT O N7 _ λd n' b' N' h J=>fin (by rw[yI I];exact QK true T r) N7 aA d n' b' N' h J
 refine ud hr _ aD _ N7 _ (λr n8 N8 aa _ I ab _=>Br.of (λ_ N9 ac=>?_) λh=>by cases h) λN8 aa h4 _=>Br.of (λh=>by cases h) λ_ N9 ac=>?_
 ·exact form (nm:=[]) (n2:=3) I ab (Tr true T) aD ⟨aA,aA⟩ N9 aA
 refine ud hr _ aD _ N9 _ (λr bz ao aq _ I au _=>Br.of (λ_ ae aw=>?_) λh=>by cases h) λao aq h5 _=>Br.of (λh=>by cases h) λ_ ae aw=>?_
 ·exact form (nm:=[]) (n2:=1) I au (QL true T) aD ⟨aA,aA⟩ ae aA
 refine ud hr _ aD _ ae _ (λr b3 bm ax _ I ay _=>Br.of (λ_ ah az=>?_) λh=>by cases h) λbm ax h6 _=>Br.of (λh=>by cases h) λ_ ah az=>?_
 ·exact form (nm:=[]) (n2:=1) I ay (NA true T) aD ⟨aA,aA⟩ ah aA
 refine ud hr _ aD _ ah _ (λr b7 bp a6 _ I a7 _=>Br.of (λ_ ai a8=>?_) λh=>by cases h) λbp a6 h7 _=>Br.of (λh=>by cases h) λ_ ai a8=>?_
 ·exact form (nm:=[33]) (n2:=1) I a7 (QJ true T) aD ⟨aA,aA⟩ ai aA
 have hf:Fst l:=⟨h7.resolve_left aB,h4.resolve_left aB,h5.resolve_left aB,h6.resolve_left aB,h2.resolve_left aB,h1.resolve_left aB,h3.resolve_left aB⟩
 refine hT s n l false ai _ hr λx b8 b9 ca bq J _ _ Y bt=>?_;cases J with
 | @ok t r _ _ _ hm J U=>exact W2 hT U false (λ_=>J) Y _ λd n' b' N' h hd=>fin (by rw[LE true T l hf];unfold Tt;rw[hm,oO]) Y aA d n' b' N' h hd
 | no hm U=>
   refine W2 hT (t:=tBl 0) U true aB Y _ λd n' b' N' h hd=>fin rfl Y aA d n' b' N' h ?_;have hm:=hm.resolve_left aB;cases hd with
   | ok h=>cases h
   | no _ ha=>exact .no (.inr (by rw[LE true T l hf];unfold Tt;rw[hm];rfl)) ha
theorem Qj {k t x}(h:t.Is x) a:(Tm.mk k (bytes []) (bytes []) 0 tZero tZero [t]).Is (.ag [.j k,.t (bytes []),.t (bytes []),.j 0,.j 0,.sl none 2 [] 0,.j 0,.sl none 2 [] 0,.sl a 9 [x] 1]):=
 Tm.is_mk.2 ⟨_,_,_,_,_,_,_,rfl,hdz aD aD,aB,CP h⟩
theorem zAG:∀(j:Nat),j<=20->∀ n1:Int,n1+j=21->MM n1 (uj true j):=by
 intro j
 induction j with
 | zero=>intro _ n1 bt s n l b N Q Y hQ;exact qn N n1 s n b Q λE=>Br.of (λhb=>⟨zN,λN1 aa=>hQ _ _ _ _ aa (by rw[hb];exact .no (.inl rfl) Y)⟩) λ_=>Br.dec (λh=>⟨zN,λN1 aa=>hQ _ _ _ _ aa (by first | (rw[nh h];exact .no (.inr rfl) Y) | exact .no (.inr rfl) Y)⟩) λh=>aA
 | succ j ih=>
   intro hj n1 bt s n l b N Q Y hQ;have e1:IntKind.i64.wrap (n1+1)=n1+1:=i64_in _ aA;have hT:=ih aA (n1+1) aA;have ay:=Y.len;refine qn N n1 s n b Q λE=>Br.of (λhb=>⟨zN,λN1 aa=>hQ _ _ _ _ aa (by rw[hb];exact .no (.inl rfl) Y)⟩) λhb=>Br.dec (λ_=>aA) λhd=>Br.dec (λbv=>⟨zN,λN1 aa=>hQ _ _ _ _ aa ?_⟩) λbw N1 aa=>?_
   ·have:l=[]:=oV aA;subst this
    first | (rw[nh bv];exact .no (.inr (by simp[uj,pre,OA])) Y) | exact .no (.inr (by simp[uj,pre,OA])) Y
   subst hb;rw[e1]
   try rw[nX bw]
   have one:∀(T:Bl->Option (Tm × Bl)) (e l:Bl) (k:Int),mkF k [] [] tZero tZero (vB T [] e 1 true l)=(T l).bind λx=>(pre e x.2).map λr=>(.mk k (bytes []) (bytes []) 0 tZero tZero [x.1],r):=λT e l k=>by
    rw[ZV];unfold mkF;cases T l with
    | none=>rfl
    | some x=>simp only[oO];cases pre e x.2<;>rfl
   refine ud Y _ aD _ N1 _ (λr n2 N2 bz _ hp U _=>Br.of (λ_ N3 b3=>tI N3 1 _ λN4 az _ _=>⟨zN,λN5 a6=>hQ _ _ _ _ aA ?_⟩) λh=>by cases h) λN2 bz h1 _=>Br.of (λh=>by cases h) λ_ N3 b3=>?_
   ·exact .ok rfl (t:=tBl 1) (by rw[yI hp];exact zBv true r j) (rz 3 1 aD) U
   refine ud Y _ aD _ N3 _ (λr n2 N4 az _ hp U _=>Br.of (λ_ N5 a6=>tI N5 0 _ λN6 a7 _ _=>⟨zN,λN7 a8=>hQ _ _ _ _ aA ?_⟩) λh=>by cases h) λN4 az h2 _=>Br.of (λh=>by cases h) λ_ N5 a6=>?_
   ·exact .ok rfl (t:=tBl 0) (by rw[yI hp];exact zBu true r j) (rz 3 0 aD) U
   refine ud Y _ aD _ N5 _ (λr n2 N6 a7 _ hp U _=>Br.of (λ_ N7 a8=>?_) λh=>by cases h) λN6 a7 h3 _=>Br.of (λh=>by cases h) λ_ N7 a8=>?_
   ·have em:uj true (j+1) l=(uj true j r).bind λx=>(pre [] x.2).map λr=>(.mk 11 (bytes []) (bytes []) 0 tZero tZero [x.1],r):=by rw[yI hp];exact(W9 true r j).trans (one _ _ _ _)
    refine hT s n2 r false N7 _ U λx n8 b8 N8 ba hx _ _=>⟨⟨rfl,rfl⟩,⟨rfl,rfl⟩,⟨rfl,rfl⟩,λa N9 bb _=>⟨zN,λal ai=>hQ _ _ _ _ aA ?_⟩⟩
    cases hx with
    | ok _ hm hx aq=>exact .ok rfl (by rw[em,hm];rfl) (Qj hx a) aq
    | no hm aq=>exact .no (.inr (by rw[em,hm.resolve_left aB];rfl)) aq
   refine ud Y _ aD _ N7 _ (λr n2 N8 ba _ hp U _=>Br.of (λ_ N9 bb=>?_) λh=>by cases h) λN8 ba h4 _=>Br.of (λh=>by cases h) λ_ N9 bb=>?_
   ·have em:uj true (j+1) l=(uj true j r).bind λx=>(pre [62] x.2).map λr=>(.mk 10 (bytes []) (bytes []) 0 tZero tZero [x.1],r):=by rw[yI hp];exact(W8 true r j).trans (one _ _ _ _)
    refine hT s n2 r false N9 _ U λx ca cc al ai hx _ _ I J=>?_;cases hx with
    | @ok t r' _ _ _ hm hx ab=>rw[hm,oO]at em;refine sd ab _ aD _ I _ (λbc ao ae O _ hq aj _=>⟨⟨rfl,rfl⟩,⟨rfl,rfl⟩,⟨rfl,rfl⟩,⟨rfl,rfl⟩,⟨rfl,rfl⟩,λa ah ac _=>⟨zN,λau ak=>hQ _ _ _ _ aA (.ok rfl (by rw[em,show pre [62] (t,r').2=some bc from hq];rfl) (Qj hx a) aj)⟩⟩) λae O hq _=>⟨⟨rfl,rfl⟩,⟨rfl,rfl⟩,⟨rfl,rfl⟩,⟨rfl,rfl⟩,⟨rfl,rfl⟩,λa ah ac _=>⟨zN,λau ak=>hQ _ _ _ _ aA (.no (.inr (by rw[em,show pre [62] (t,r').2=none from hq.resolve_left aB];rfl)) ab)⟩⟩
    | no hm ab=>exact sd ab _ aD _ I _ (λbc ao ae O h=>by cases h) λae O hq _=>⟨⟨rfl,rfl⟩,⟨rfl,rfl⟩,⟨rfl,rfl⟩,⟨rfl,rfl⟩,⟨rfl,rfl⟩,λa ah ac _=>⟨zN,λau ak=>hQ _ _ _ _ aA (.no (.inr (by rw[em,hm.resolve_left aB];rfl)) ab)⟩⟩
   refine ud Y _ aD _ N9 _ (λr n2 al ai _ hp U _=>Br.of (λ_ I J=>?_) λh=>by cases h) λal ai h5 _=>Br.of (λh=>by cases h) λ_=>?_
   ·exact zAF hT U I _ λx ao b7 ae O hx _ _=>⟨zN,λah ac=>hQ _ _ _ _ aA (by rw[yI hp];exact(BX true r j) ▸ hx)⟩
   cases l with
   | nil=>simp only[oN]at ay;omega
   | cons c l=>
   have em:uj true (j+1) (c::l)=OA true (c::l):=by simp only[uj,show pre [35,116] (c::l)=none from h1.resolve_left aB,show pre [35,102] (c::l)=none from h2.resolve_left aB,show pre [60] (c::l)=none from h4.resolve_left aB,show pre [126] (c::l)=none from h3.resolve_left aB,show pre [40] (c::l)=none from h5.resolve_left aB]
   rw[em]at hQ;have hg:=Y.get;have bd:0<=n/\n<(s.size:Int):=⟨Y.lo,aA⟩
   have wd:Dd c=false->∀ I,al<=I->BCalls prog 84 [.str,.str,.i,.bool] [.pb 0 0 0 0] [.var [.str s,.j n,.bool false]] I (λbg bh bi bj bm=>I<=bm->∀ aw,bm<=aw->ACalls prog 77 [.ag 9] [.str bg] aw (λbp ax=>aw<=ax->Bel ax bp->yg E [.var [.str (bytes []),.j 0,.bool false]]/\∀ bq,ax<=bq->Q bp bh bi bj bq)):=λhc I J=>Jv Y _ I _ λao ae O aj _ ah ac=>AP ah _ _ λau ak _ _=>⟨zN,λce b9=>hQ _ _ _ _ aA (.ok rfl (t:=tVr (word (c::l)).1) (by simp only[OA,hc,mF,ni]) (rz 1 0 (oR (sD Y) aA)) aj)⟩
   have cd:∀ {P:Prop},(48<=c.toNat/\c.toNat<=57)->(Dd c=true->P)->P:=λh k=>k (by unfold Dd;exact nh h);have cn:¬(48<=c.toNat/\c.toNat<=57)->Dd c=false:=λh=>by unfold Dd;exact nX h
   rw[hg];exact⟨bd,Br.dec (λg1=>⟨bd,Br.dec (λg2 I J=>V5 Y I _ λd ao b7 ae O hd _ _=>⟨zN,λah ac=>hQ _ _ _ _ aA (by have hc:Dd c=true:=(by unfold Dd;exact nh aA);simp only[OA,hc,mI];exact hd)⟩) λg2 I J=>wd (cn aA) I J⟩) λg1 I J=>wd (cn aA) I J⟩
end Go.Proofs.YtlaniepnglheoaaGreatDoor
