/- Texts of types and terms: what they are, and how long (no program in sight). -/
import Derived.Test.YtlaniepnglheoaaGreatDoorA9
import Derived.Test.YtlaniepnglheoaaGreatDoorA5
import Derived.Test.YtlaniepnglheoaaGreatDoorKa
import Derived.Shelf.Strings.OnBuilder
import Derived.Test.YtlaniepnglheoaaGreatDoorKf
set_option linter.unusedVariables false
set_option linter.unusedSimpArgs false
set_option maxRecDepth 100000
namespace Go.Proofs.YtlaniepnglheoaaGreatDoor
open Go Go.Proofs Go.Proofs.Tryz Go.IntWalk
def qQ (b:ByteArray):List ByteArray->ByteArray
 | []=>bytes []
 | s::l=>b++s++qQ b l
def vq (b:ByteArray):List ByteArray->ByteArray
 | []=>bytes []
 | s::l=>s++qQ b l
mutual
def DA:Ty->ByteArray
 | .mk k l=>if k=1 then bytes [73]else if k=2 then bytes [66]else if k=3 then bytes [40]++(TW l).getD 0 (bytes [])++bytes [62]++(TW l).getD 1 (bytes [])++bytes [41]else bytes [60]++(TW l).getD 0 (bytes [])++bytes [62]
def TW:List Ty->List ByteArray
 | []=>[]
 | t::l=>DA t::TW l
end
def uQ (k:Int)(nm ot:ByteArray)(n:Int)(ty re:Ty)(ws:List ByteArray):ByteArray:=
 if k=1 then nm else if k=2 then PH n.toNat else if k=3 then bytes [35]++bytes [if n=0 then 102 else 116]
 else if k=4 then(if ws.length=1 then bytes [40,33]++ws.getD 0 (bytes [])++bytes [41]else bytes [40]++ws.getD 0 (bytes [])++nm++ws.getD 1 (bytes [])++bytes [41])
 else if k=5 then bytes [40,105,102,32]++vq (bytes [32]) ws++bytes [41]
 else if k=6 then bytes [40,92]++nm++bytes [58]++DA ty++bytes [46]++ws.getD 0 (bytes [])++bytes [41]
 else if k=7 then bytes [40]++vq (bytes [32]) ws++bytes [41]
 else if k=8 then bytes [40,108,101,116,32]++nm++bytes [61]++vq (bytes [32]) ws++bytes [41]
 else if k=9 then bytes [40,114,101,99,32]++nm++bytes [32]++ot++bytes [58]++DA ty++bytes [62]++DA re++bytes [46]++ws.getD 0 (bytes [])++bytes [41]
 else if k=10 then bytes [60]++ws.getD 0 (bytes [])++bytes [62]
 else if k=11 then bytes [126]++ws.getD 0 (bytes [])
 else if k=12 then bytes [40,114,117,110,32]++ws.getD 0 (bytes [])++bytes [41]
 else bytes [40,108,105,102,116,32]++ws.getD 0 (bytes [])++bytes [41]
section
variable (nm ot:ByteArray) (n:Int) (ty re:Ty) (ws:List ByteArray)
theorem VB:uQ 1 nm ot n ty re ws=nm:=rfl
theorem VC:uQ 2 nm ot n ty re ws=PH n.toNat:=rfl
theorem VD:uQ 3 nm ot n ty re ws=bytes [35]++bytes [if n=0 then 102 else 116]:=rfl
theorem Sx:uQ 4 nm ot n ty re ws=if ws.length=1 then bytes [40,33]++ws.getD 0 (bytes [])++bytes [41]else bytes [40]++ws.getD 0 (bytes [])++nm++ws.getD 1 (bytes [])++bytes [41]:=rfl
theorem VE:uQ 5 nm ot n ty re ws=bytes [40,105,102,32]++vq (bytes [32]) ws++bytes [41]:=rfl
theorem VF:uQ 6 nm ot n ty re ws=bytes [40,92]++nm++bytes [58]++DA ty++bytes [46]++ws.getD 0 (bytes [])++bytes [41]:=rfl
theorem VG:uQ 7 nm ot n ty re ws=bytes [40]++vq (bytes [32]) ws++bytes [41]:=rfl
theorem VH:uQ 8 nm ot n ty re ws=bytes [40,108,101,116,32]++nm++bytes [61]++vq (bytes [32]) ws++bytes [41]:=rfl
theorem VI:uQ 9 nm ot n ty re ws=bytes [40,114,101,99,32]++nm++bytes [32]++ot++bytes [58]++DA ty++bytes [62]++DA re++bytes [46]++ws.getD 0 (bytes [])++bytes [41]:=rfl
theorem MN:uQ 10 nm ot n ty re ws=bytes [60]++ws.getD 0 (bytes [])++bytes [62]:=rfl
theorem MO:uQ 11 nm ot n ty re ws=bytes [126]++ws.getD 0 (bytes []):=rfl
theorem MP:uQ 12 nm ot n ty re ws=bytes [40,114,117,110,32]++ws.getD 0 (bytes [])++bytes [41]:=rfl
theorem MQ:uQ 13 nm ot n ty re ws=bytes [40,108,105,102,116,32]++ws.getD 0 (bytes [])++bytes [41]:=rfl
end
mutual
def Tm.tx:Tm->ByteArray
 | .mk k nm ot n ty re l=>uQ k nm ot n ty re (txs l)
def txs:List Tm->List ByteArray
 | []=>[]
 | t::l=>t.tx::txs l
end
theorem Ml:∀ l:List Tm,(txs l).length=l.length
 | []=>rfl
 | x::l=>by simp[txs,Ml l]
def tot:List ByteArray->Nat
 | []=>0
 | s::l=>s.size+1+tot l
theorem F5:∀ l:List ByteArray,l.length<=tot l
 | []=>by simp[tot]
 | x::l=>by have:=F5 l;simp only[tot,oJ];omega
theorem Hs (b:ByteArray)(I:b.size<=1):∀ l:List ByteArray,(qQ b l).size<=tot l
 | []=>by simp[qQ,tot];rfl
 | x::l=>by have:=Hs b I l;simp only[qQ,tot,oE];omega
theorem pK (b:ByteArray)(I:b.size<=1):∀ l:List ByteArray,(vq b l).size<=tot l
 | []=>by simp[vq,tot];rfl
 | x::l=>by have:=Hs b I l;simp only[vq,tot,oE];omega
theorem XY:(bytes []).size=0:=rfl
theorem b1 (a:Nat):(bytes [a]).size=1:=rfl
theorem b2 (a b:Nat):(bytes [a,b]).size=2:=rfl
theorem b4 (a b c d:Nat):(bytes [a,b,c,d]).size=4:=rfl
theorem b5 (a b c d e:Nat):(bytes [a,b,c,d,e]).size=5:=rfl
theorem b6 (a b c d e f:Nat):(bytes [a,b,c,d,e,f]).size=6:=rfl
theorem Vh:∀ t:Ty,t.form=true->Wf t:=by
 refine Ty.ind λk l ih h=>?_;simp only[Ty.form,oK]at h;obtain⟨J,O⟩:=h;have sub:∀ t∈l,Wf t:=λt ht=>ih t ht (by
  have key:∀ l:List Ty,tC l=true->∀ t∈l,t.form=true:=by
   intro l
   induction l with
   | nil=>intro _ t ht;simp at ht
   | cons x l U=>
     intro h t ht;simp only[tC,oK]at h;rcases oL.1 ht with rfl | ht
     ·exact h.1
     ·exact U h.2 t ht
  exact key l (by first | exact J | exact O) t ht)
 have I:qL k l.length=true:=by first | exact J | exact O
 unfold qL at I;split at I
 ·rename_i Y;have:l=[]:=oV (by have:=mK.1 I;omega);subst this;rcases Y with rfl | rfl
  ·exact .int
  ·exact .bool
 split at I
 ·rename_i aa;subst aa;have O:l.length=2:=by have:=mK.1 I;omega
  match l,O,sub with
  | [a,b],_,sub=>exact .fn (sub a (by simp)) (sub b (by simp))
 split at I
 ·rename_i ab;subst ab;have J:l.length=1:=by have:=mK.1 I;omega
  match l,J,sub with
  | [a],_,sub=>exact .code (sub a (by simp))
 ·cases I
theorem yM {t:Ty}(h:t.valid=true):Wf t/\t.cnt<=30:=by refine⟨Vh t ?_,Ty.valid_cnt h⟩;simp only[Ty.valid,oK]at h;exact h.2
theorem F6 (a b:Ty):DA (wa a b)=bytes [40]++DA a++bytes [62]++DA b++bytes [41]:=rfl
theorem qy (a:Ty):DA (vI a)=bytes [60]++DA a++bytes [62]:=rfl
theorem yg {t:Ty}(I:Wf t):(DA t).size<=3*t.cnt:=by
 induction I with
 | int=>decide
 | bool=>decide
 | @fn u v _ _ J O=>have:(wa u v).cnt=1+(u.cnt+(v.cnt+0)):=rfl;rw[F6];simp only[oE,b1];omega
 | @code u _ J=>have:(vI u).cnt=1+(u.cnt+0):=rfl;rw[qy];simp only[oE,b1];omega
theorem Fb {s:ByteArray}(h:yK s=true):s.size<=4:=by
 simp only[yK,Dh,oK]at h
 have:=(yI.1 h.2.1).2
 omega
theorem Qo {s:ByteArray}(h:sc s>0):s.size<=4:=by
 unfold sc at h
 (repeat' split at h)<;>first | (rename_i e;rw[e];decide) | (exfalso;revert h;decide)
theorem Or {k:Int}{nm ot:ByteArray}(h:zw k nm ot=true):nm.size<=4/\ot.size<=4:=by
 unfold zw at h
 (repeat' split at h)<;>simp only[oK,oe,nK,np]at h
 ·exact⟨Qo h.1,by rw[h.2];decide⟩
 ·exact⟨Fb h.1,by rw[h.2];decide⟩
 ·exact⟨Fb h.1,Fb h.2.1⟩
 ·rw[h.1,h.2];decide
structure NodeS (k:Int) (nm ot:ByteArray) (n:Int) (ty re:Ty) (l:List Tm):Prop extends Node k nm ot n ty re l where
 n4:nm.size<=4
 o4:ot.size<=4
 num:k=2->0<=n/\n<=10006
 bit:k=3->n=0\/n=1
 one:k=6\/k=9\/k=10\/k=11\/k=12\/k=13->l.length=1
 op:k=4->l.length=1\/l.length=2
 kind:k=1\/k=2\/k=3\/k=4\/k=5\/k=6\/k=7\/k=8\/k=9\/k=10\/k=11\/k=12\/k=13
theorem MK {k:Int}{nm ot:ByteArray}{n:Int}{ty re:Ty}{l:List Tm}(h:(Tm.mk k nm ot n ty re l).ok=true):NodeS k nm ot n ty re l:=by
 have nd:=yk h;have f:=nd.f;simp only[zI,oK]at f;obtain⟨n4,o4⟩:=Or f.2.2.2.2.2;have O:=yI.1 f.2.2.2.2.1;have I:=nd.ar;refine { toNode:=nd,n4:=n4,o4:=o4,num:=λJ=>?_,bit:=λJ=>?_,one:=λJ=>?_,op:=λJ=>?_,kind:=Ey (nm:=nm) (by omega) }
 ·rw[if_pos J]at O;exact O
 ·rw[if_neg (by omega),if_pos J]at O;omega
 ·unfold GX at I;rw[if_neg (by omega),if_neg (by omega),if_pos (by omega)]at I;omega
 ·subst J;have I:(l.length:Int)=sc nm:=I;have h:=f.2.2.2.2.2;simp only[zw]at h;rw[if_pos trivial]at h;simp only[oK,oe]at h
  have:=h.1
  have U:sc nm=1\/sc nm=2:=by
   revert this;unfold sc
   (repeat' split)<;>simp
  omega
theorem qO (ws:List ByteArray)(i:Nat):(ws.getD i (bytes [])).size<=tot ws:=by
 induction ws generalizing i with
 | nil=>simp only[List.getD_nil,XY,tot];omega
 | cons x l I=>
   cases i with
   | zero=>simp only[mI,tot];omega
   | succ i=>have:=I i;simp only[mi,tot];omega
theorem JS (ws:List ByteArray):(ws.getD 0 (bytes [])).size+(ws.getD 1 (bytes [])).size<=tot ws:=by
 cases ws with
 | nil=>simp only[List.getD_nil,XY,tot];omega
 | cons x l=>have:=qO l 0;simp only[mI,mi,tot];omega
theorem ML {k:Int}{nm ot:ByteArray}{n:Int}{ty re:Ty}{l:List Tm}(nd:NodeS k nm ot n ty re l)(ws:List ByteArray):(uQ k nm ot n ty re ws).size<=tot ws+300:=by
 have O:=nd.n4;have U:=nd.o4;have g0:=qO ws 0;have Y:=JS ws;have gj:=pK (bytes [32]) (by decide) ws;have I:k=6\/k=9->(DA ty).size<=90:=λh=>by have:=yM (nd.vt h);have:=yg this.1;omega
 have J:k=9->(DA re).size<=90:=λh=>by have:=yM (nd.vr h);have:=yg this.1;omega
 have hd:k=2->(PH n.toNat).size<=20:=λh=>by have:=nd.num h;rw[BT];exact Cy _ (by omega)
 rcases nd.kind with rfl | rfl | rfl | rfl | rfl | rfl | rfl | rfl | rfl | rfl | rfl | rfl | rfl
 ·rw[VB];omega
 ·rw[VC];have:=hd rfl;omega
 ·rw[VD];simp only[oE,b1];omega
 ·rw[Sx];split<;>simp only[oE,b1,b2]<;>omega
 ·rw[VE];simp only[oE,b1,b4];omega
 ·rw[VF];have:=I (.inl rfl);simp only[oE,b1,b2];omega
 ·rw[VG];simp only[oE,b1];omega
 ·rw[VH];simp only[oE,b1,b5];omega
 ·rw[VI];have:=I (.inr rfl);have:=J rfl;simp only[oE,b1,b5];omega
 ·rw[MN];simp only[oE,b1];omega
 ·rw[MO];simp only[oE,b1];omega
 ·rw[MP];simp only[oE,b1,b5];omega
 ·rw[MQ];simp only[oE,b1,b6];omega
theorem F4:∀ {l:List Tm}{t:Tm},t∈l->t.sz<=zO l
 | x::l,t,h=>by
   simp only[zO];rcases oL.1 h with rfl | h
   ·omega
   ·have:=F4 h;omega
theorem Rk:∀ t:Tm,t.ok=true->t.tx.size+1<=500*t.sz:=by
 refine Tm.ind λk nm ot n ty re l J O=>?_;have nd:=MK O;have key:∀ l:List Tm,(∀ t∈l,t.tx.size+1<=500*t.sz)->tot (txs l)<=500*zO l:=by
  intro l
  induction l with
  | nil=>intro _;simp[txs,tot,zO]
  | cons x l J=>intro h;have Y:=h x (by simp);have U:=J λt I=>h t (by simp[I]);simp only[txs,tot,zO];omega
 have h:=key l λt I=>J t I (nd.sub t I);have U:=ML nd (txs l);simp only[Tm.tx,Tm.sz];omega
theorem LM {l:List Tm}(h:∀ t∈l,t.ok=true):tot (txs l)<=500*zO l:=by
 induction l with
 | nil=>simp[txs,tot,zO]
 | cons x l I=>have O:=Rk x (h x (by simp));have U:=I λt J=>h t (by simp[J]);simp only[txs,tot,zO];omega
def TT (t:Tm):ByteArray:=if t.ok=true then t.tx else bytes []
end Go.Proofs.YtlaniepnglheoaaGreatDoor
namespace Go.Proofs
namespace YtlaniepnglheoaaGreatDoor
open Go Go.Proofs Go.Proofs.Tryz Go.RowKit Go.Shelf
def Wm:Go.Shelf.Ren:=⟨λx=>match x with | 156=>197 | 165=>237 | 166=>238 | 169=>239 | 240=>259 | 241=>260 | 276=>278 | 277=>279 | n=>n,λx=>match x with | 0=>0 | 3=>3 | 4=>4 | 5=>5 | 9=>9 | 20=>20 | 31=>53 | 37=>26 | 70=>188 | 72=>190 | 75=>169 | 76=>170 | 80=>73 | 127=>210 | 164=>222 | n=>n,λn=>n⟩
theorem U2:Lays.n156 Tryz.prog Wm where
 mixed:=by kernel_rfl
 f156:=Tryz.func197.trans (oY some (by kernel_rfl))
 f165:=Tryz.func237.trans (oY some (by kernel_rfl))
 f166:=Tryz.func238.trans (oY some (by kernel_rfl))
 f169:=Tryz.func239.trans (oY some (by kernel_rfl))
 f240:=Tryz.func259.trans (oY some (by kernel_rfl))
 f241:=Tryz.func260.trans (oY some (by kernel_rfl))
 f276:=Tryz.func278.trans (oY some (by kernel_rfl))
 f277:=Tryz.func279.trans (oY some (by kernel_rfl))
 t0:=Tryz.underlying0
 a0:=Tryz.isAgg0
 z0:=Tryz.sizeOf0
 v0:=Tryz.zeroValue0
 t3:=Tryz.underlying3
 a3:=Tryz.isAgg3
 z3:=Tryz.sizeOf3
 v3:=Tryz.zeroValue3
 t4:=Tryz.underlying4
 a4:=Tryz.isAgg4
 z4:=Tryz.sizeOf4
 v4:=Tryz.zeroValue4
 t9:=Tryz.underlying9
 a9:=Tryz.isAgg9
 z9:=Tryz.sizeOf9
 v9:=Tryz.zeroValue9
 t20:=Tryz.underlying20
 a20:=Tryz.isAgg20
 z20:=Tryz.sizeOf20
 v20:=Tryz.zeroValue20
 t31:=Tryz.underlying53
 a31:=Tryz.isAgg53
 z31:=Tryz.sizeOf53
 v31:=Tryz.zeroValue53
 t37:=Tryz.underlying26
 a37:=Tryz.isAgg26
 z37:=Tryz.sizeOf26
 v37:=Tryz.zeroValue26
 t70:=Tryz.underlying188
 a70:=Tryz.isAgg188
 z70:=Tryz.sizeOf188
 v70:=Tryz.zeroValue188
 t72:=Tryz.underlying190
 a72:=Tryz.isAgg190
 z72:=Tryz.sizeOf190
 v72:=Tryz.zeroValue190
 t75:=Tryz.underlying169
 a75:=Tryz.isAgg169
 z75:=Tryz.sizeOf169
 v75:=Tryz.zeroValue169
 t76:=Tryz.underlying170
 a76:=Tryz.isAgg170
 z76:=Tryz.sizeOf170
 v76:=Tryz.zeroValue170
 t127:=Tryz.underlying210
 a127:=Tryz.isAgg210
 z127:=Tryz.sizeOf210
 v127:=Tryz.zeroValue210
 t164:=Tryz.underlying222
 a164:=Tryz.isAgg222
 z164:=Tryz.sizeOf222
 v164:=Tryz.zeroValue222
theorem U3:Builder.Extra Tryz.prog Wm where
 sizeBuilder:=by kernel_rfl
 liesBuilder:=by kernel_rfl
 t5:=Tryz.underlying5
 a5:=Tryz.isAgg5
 z5:=Tryz.sizeOf5
 v5:=Tryz.zeroValue5
 infoByte:=by kernel_rfl
 cellsByte:=by kernel_rfl
 sizeByte:=by kernel_rfl
 neB5:=by decide
theorem FU (b:ByteArray):∀ l:List ByteArray,(qQ b l).data.toList=Lib.joinTail b.data.toList (l.map (·.data.toList))
 | []=>rfl
 | s::l=>by simp only[qQ,zT,FU b l,Lib.joinTail,nH,List.flatten_cons]
theorem FT (b:ByteArray)(l:List ByteArray):(vq b l).data.toList=Lib.join (l.map (·.data.toList)) b.data.toList:=by
 cases l with
 | nil=>rfl
 | cons s l=>simp only[vq,zT,FU,nH,Lib.join_cons]
theorem ME (l:List ByteArray):yV (zA l)=zA l:=by
 induction l with
 | nil=>rfl
 | cons s l I=>simp only[zA,nH,vp,D.cells]at I ⊢;rw[I];rfl
theorem Mj {u:ByteArray}{N:Nat}{Q:QT [.str]}{av:Nat->Prop}{w0 w:World}(hN:w0.heap.size=N)(O:∀ N',N<=N'->Q u N')(I:Below w0.heap.size w0 w):Fin [.str] Q av w0 (.returned (.string u)) w:=
 ⟨[.str u],[],[],{ q:=O _ (by have:=I.size;omega),v:=rfl,m:=⟨rfl,by simp,by simp,by simp,λk j b h=>by obtain⟨_,U,_⟩:=h;simp[Env.at]at U⟩,ok:=λp J=>by simp at J;subst J;trivial,fresh:=λk b h=>by simp[Env.at]at h,size:=I.size,old:=I.block,fz:=λ_ _ _ _ _ _=>trivial,ku:=⟨I.os,I.output⟩ }⟩
theorem Gw (ws:List ByteArray)(by_:ByteArray)(ac:by_.size<=1)(h:tot ws<=140737488355328)(a:Option Addr)(c:Nat):xR 197 [.sv a 0 (zA ws) c,.str by_] (vq by_ ws):=λN Q hQ=>
 ⟨by kernel_rfl,λav w0 hN ao U=>by
  have hg:=(U (.sv a 0 (zA ws) c) (by simp)).1;simp only[PV.Ok]at hg;have hH:=hg.1;have hl:=zH ws;have aq:=F5 ws;have ae:(Lib.join (ws.map (·.data.toList)) by_.data.toList).length<=140737488355328:=by rw[<-FT,nY];exact oR (pK by_ ac ws) h
  have he:(⟨(Lib.join (ws.map (·.data.toList)) by_.data.toList).toArray⟩:ByteArray)=vq by_ ws:=z8 (by rw[FT]);have hv:([PV.sv a 0 (zA ws) c,.str by_].map (PV.val [])).toArray=#[.slice a ws.length c,.string by_]:=by simp[PV.val,PV.val1,PV.cv,hl]
  rw[hv];have ah:∀ es,es=zA ws->Holds w0 (.sl a 0 es c):=λes h=>h ▸ hH;clear hH;have key:∀ es,es=zA ws->Holds w0 (.sl a 0 es c)->(a=none/\es=[]/\c=0)\/∃ ad,a=some ad/\(es≠[]->ad.spot=none)/\es.length<=c/\Row w0 ad (yV es):=λes _ h=>by
   cases h with
   | nil=>exact .inl ⟨rfl,rfl,rfl⟩
   | sl J Y _ _ h3=>exact .inr ⟨_,rfl,J,Y,h3⟩
  rcases key _ rfl (ah _ rfl)with⟨rfl,ai,rfl⟩ | ⟨ad,rfl,hs,hc,I⟩
  ·have aj:ws=[]:=ml.1 (by rw[<-hl,ai];rfl);subst aj;refine(Any.strings_Join_none U2 U3 none 0 by_ w0).mono λe w ⟨J,Y⟩=>?_;subst J;subst Y;exact Mj hN hQ (Below.refl _ _)
  ·by_cases aa:ws=[]
   ·subst aa;refine(Any.strings_Join_none U2 U3 _ c by_ w0).mono λe w ⟨J,Y⟩=>?_;subst J;subst Y;exact Mj hN hQ (Below.refl _ _)
   have O:zA ws≠[]:=λhc=>aa (ml.1 (by rw[<-hl,hc];rfl));obtain⟨ab,off,sp⟩:=ad;have ak:sp=none:=hs O;subst ak;rw[ME]at I;rcases I with I | ⟨cc,t,fz,J,Y⟩
   ·exact absurd I O
   have al:ab<w0.heap.size:=(oW.1 J).1;refine(Any.strings_Join U2 U3 ab off c ws by_ w0 (λj x hj=>?_) al (by omega) (by rw[<-hl];exact hc) ae).mono λe w ⟨h3,h4⟩=>?_
   ·have hd:(zA ws)[j]?=some (.t x):=by simp[zA,hj]
    rw[tu J];exact Y j _ hd
   ·rw[he]at h3;subst h3;exact Mj hN hQ h4⟩
theorem Ly (ws:List ByteArray)(by_:ByteArray)(I:by_.size<=1)(h:tot ws<=140737488355328)(a:Option Addr)(c:Nat):xR 132 [.sv a 0 (zA ws) c,.str by_] (vq by_ ws):=λN Q J=>Mq N a _ c by_ Q λ_ N1 O=>Gw ws by_ I h a c N1 _ λN2 U _ N3 Y=>J _ (by omega)
end YtlaniepnglheoaaGreatDoor
end Go.Proofs
set_option maxRecDepth 100000
namespace Go.Proofs.YtlaniepnglheoaaGreatDoor
open Go Go.Proofs Go.Proofs.Tryz Go.IntWalk
theorem EW {t:Ty}(hw:Wf t):t.cnt<=1000000->∀ {d:D},t.Is d->xR 50 [.dg 2 d] (DA t):=by
 induction hw with
 | int=>intro hc d hd N Q J;obtain⟨b,fs,k,rfl,_,h2⟩:=Ty.is_mk.1 hd;exact uY N _ Q λ_=>⟨1,rfl,Br.beq (λ_ N1 I=>J _ I) λh=>absurd rfl h⟩
 | bool=>intro hc d hd N Q J;obtain⟨b,fs,k,rfl,_,h2⟩:=Ty.is_mk.1 hd;exact uY N _ Q λ_=>⟨2,rfl,Br.beq (λh=>absurd h (by decide)) λ_=>Br.beq (λ_ N1 I=>J _ I) λh=>absurd rfl h⟩
 | @fn u v U hv O Y=>
   intro hc d hd N Q J;have aa:(wa u v).cnt=1+(u.cnt+(v.cnt+0)):=rfl;have s1:=yg U;have s2:=yg hv;obtain⟨b,fs,k,rfl,ab,d1,_,rfl,h3,d2,_,rfl,h4,rfl⟩:=Ty.is_mk.1 hd;refine uY N _ Q λ_=>⟨3,rfl,Br.beq (λh=>absurd h (by decide)) λ_=>Br.beq (λh=>absurd h (by decide)) λ_=>Br.beq (λ_=>⟨_,_,_,rfl,⟨by simp,by simp⟩,_,_,_,rfl,⟨by simp,by simp⟩,λN1 I=>?_⟩) λh=>absurd rfl h⟩
   refine O (by omega) h3 N1 _ λN2 ac _=>⟨by omega,by rw[oE,b1];omega,λN3 ae=>?_⟩
   exact Y (by omega) h4 N3 _ λN4 ah _=>⟨by simp only[oE,b1];omega,by simp only[oE,b1];omega,λN5 ai=>Qst (J _ (by omega)) (F6 u v)⟩
 | @code u U O=>
   intro hc d hd N Q J;have aa:(vI u).cnt=1+(u.cnt+0):=rfl;have s1:=yg U;obtain⟨b,fs,k,rfl,ab,d1,_,rfl,h3,rfl⟩:=Ty.is_mk.1 hd;refine uY N _ Q λ_=>⟨4,rfl,Br.beq (λh=>absurd h (by decide)) λ_=>Br.beq (λh=>absurd h (by decide)) λ_=>Br.beq (λh=>absurd h (by decide)) λ_=>⟨_,_,_,rfl,⟨by simp,by simp⟩,λN1 I=>?_⟩⟩
   exact O (by omega) h3 N1 _ λN2 ac _=>⟨by omega,by rw[oE,b1];omega,λN3 ae=>Qst (J _ (by omega)) (qy u)⟩
theorem Id (l:List Int):∀ b:ByteArray,(l.foldl (λr n=>r.push (UInt8.ofNat n.toNat)) b).data.toList=b.data.toList++l.map λn=>UInt8.ofNat n.toNat:=by
 induction l with
 | nil=>intro b;simp
 | cons x l I=>intro b;simp only[List.foldl_cons,I,ByteArray.data_push,Array.toList_push,nH,oP,lM]
theorem KP (s:ByteArray):yS (s.data.toList.map λb=>((b.toNat:Nat):Int))=s:=z8 (by
 unfold yS;rw[Id,mL];show []++_=_;rw[oa]
 conv=>rhs;rw[<-lQ s.data.toList]
 refine nC λb _=>?_;simp)
theorem Ph (s:ByteArray):xC s=(s.data.toList.map λb=>((b.toNat:Nat):Int)).map (λn=>D.lit (.int .u8 n)):=by simp[xC,mL,Function.comp_def]
theorem CZ (s u:ByteArray):xC (s++u)=xC s++xC u:=by simp[xC]
theorem UV (s:ByteArray):s++bytes []=s:=z8 (by rw[zT];exact o7 _)
theorem VA (s:ByteArray):bytes []++s=s:=z8 (by rw[zT];rfl)
theorem AW (ws:List ByteArray)(by_:ByteArray)(ab:by_.size<=1)(h:tot ws<=140737488355328)(a:Option Addr)(c:Nat):xR 162 [.sv a 0 (zA ws) c,.str by_] (vq by_ ws):=λN Q hQ=>by
 have ac:=zH ws;have U:=F5 ws;refine Mu N a _ c by_ Q λ_=>?_;refine up (xZ ws) (by omega) (λi xs=>∀(I:ByteArray) (r:List D) (q N':Nat),N<=N'->r=xC I->I.size+tot xs<=tot ws->(i=0->I=bytes []/\xs=ws)->(0<i->I++qQ by_ xs=vq by_ ws)->wm Q N a (zA ws) c by_ r.length q i r q N') ?_ ?_ (bytes []) [] 0 N (oC _) rfl (by rw[XY];omega) (λ_=>⟨rfl,rfl⟩) (λh=>by omega)
 ·intro k U hk I r q N' O Y hn h0 h1;subst Y;refine Bc ?_;rw[U];refine⟨oC _,_,(om (oC _)).trans (Ph I),λN1 ae=>Qst (hQ _ (by omega)) ?_⟩;rw[KP];by_cases aa:k=0
  ·obtain⟨rfl,rfl⟩:=h0 aa;rfl
  ·rw[<-h1 (by omega)];exact UV I
 ·intro k x xs J _ ih I r q N' O Y hn h0 h1;have hb:=J.b;simp only[tot]at hn;have ah:r.length=I.size:=by rw[Y,sC]
  refine Bc ?_;rw[J.w,oG];refine Br.of (λ_=>?_) λh=>by rw[J.lt]at h;cases h
  refine Br.dec (λhk=>?_) λhk=>?_
  ·refine⟨⟨rfl,rfl⟩,by unfold zB;rw[oH,sC];omega,λc1=>⟨hb,x,J.r,⟨by trivial,by trivial⟩,by unfold zB;simp only[oH,sC];omega,λc2=>ih (I++by_++x) _ c2 N' O (by rw[Y,CZ,CZ]) (by simp only[oE];omega) (λh=>by omega) λ_=>?_⟩⟩;rw[<-h1 (by omega),qQ,lI,lI,lI]
  ·refine⟨hb,x,J.r,⟨rfl,rfl⟩,by unfold zB;rw[oH,sC];omega,λc2=>ih (I++x) _ c2 N' O (by rw[Y,CZ]) (by simp only[oE];omega) (λh=>by omega) λ_=>?_⟩;obtain⟨e1,e2⟩:=h0 (by omega);rw[e1,VA,<-e2];rfl
theorem KD {ws:List ByteArray}{i:Nat}(h:i<ws.length):List.getD (zA ws) i default=D.t (ws.getD i (bytes [])):=by
 have I:ws[i]?=some (ws.getD i (bytes [])):=by rw[oA,oI h];rfl
 unfold zA;rw[oA,oF,I];rfl
theorem Pa {n:Int}(h:n=0\/n=1):ByteArray.extract (bytes [102,116]) n.toNat (IntKind.i64.wrap (n+1)).toNat=bytes [if n=0 then 102 else 116]:=by rcases h with rfl | rfl<;>decide +kernel
theorem SG {k n:Int} {nm ot:ByteArray} {ty re:Ty} {l:List Tm} (nd:NodeS k nm ot n ty re l) {t0 t1 r0 r1 x:D} (hh:Tm.Hd nm ot ty re t0 t1 r0 r1) {ws:List ByteArray} (ae:tot ws<=2000000000) (hl:ws.length=l.length) (hk:k≠1/\k≠2/\k≠3/\k≠4/\k≠10/\k≠11) (a:Option Addr) (c:Nat) :
  xR 102 [.dg 9 (.ag [.j k,.t nm,.t ot,.j n,t0,t1,r0,r1,x]),.sv a 0 (zA ws) c] (uQ k nm ot n ty re ws):=λN Q U=>by
 have ah:=zH ws;have n4:=nd.n4;have o4:=nd.o4;have g0:=qO ws 0;have gj:=pK (bytes [32]) (by decide) ws;have one:0<ws.length->((0:Int)<=(0:Int)/\0<((zA ws).length:Int)):=λh=>⟨by omega,by omega⟩
 have ne:k=6\/k=9\/k=10\/k=11\/k=12\/k=13->0<ws.length:=λh=>by have:=nd.one h;omega
 refine J0 N _ a _ c Q λ_ _=>⟨k,rfl,Br.beq (λh5 N1 I=>?_) λh5=>Br.beq (λh6=>?_) λh6=>Br.beq (λh7 N1 I=>?_) λh7=>Br.beq (λh8=>⟨nm,rfl,by omega,by simp only[oE,b5];omega,λN1 I=>?_⟩) λh8=>Br.beq (λh9=>?_) λh9=>Br.beq (λY=>?_) λY=>?_⟩
 ·subst h5;exact AW ws _ (by decide) (by omega) a c N1 _ λN2 J _=>⟨by omega,by simp only[oE,b4];omega,λN3 O=>Qst (U _ (by omega)) (VE ..)⟩
 ·subst h6;have hv:=yM (nd.vt (.inl rfl));have ab:=yg hv.1;refine⟨nm,rfl,by omega,by simp only[oE,b2];omega,one (ne (by omega)),_,KD (ne (by omega)),λN1 I=>?_⟩;exact EW hv.1 (by omega) hh.ty N1 _ λN2 J _=>⟨by simp only[oE,b2,b1];omega,by simp only[oE,b2,b1];omega,by simp only[oE,b2,b1];omega,by simp only[oE,b2,b1];omega,λN3 O=>Qst (U _ (by omega)) (VF ..)⟩
 ·subst h7;exact AW ws _ (by decide) (by omega) a c N1 _ λN2 J _=>⟨by omega,by simp only[oE,b1];omega,λN3 O=>Qst (U _ (by omega)) (VG ..)⟩
 ·subst h8;exact AW ws _ (by decide) (by omega) a c N1 _ λN2 J _=>⟨by simp only[oE,b5,b1];omega,by simp only[oE,b5,b1];omega,λN3 O=>Qst (U _ (by omega)) (VH ..)⟩
 ·subst h9;have hv:=yM (nd.vt (.inr rfl));have aa:=yM (nd.vr rfl);have ab:=yg hv.1;have ac:=yg aa.1;refine⟨nm,rfl,by omega,by simp only[oE,b5];omega,ot,rfl,by simp only[oE,b5,b1];omega,by simp only[oE,b5,b1];omega,one (ne (by omega)),_,KD (ne (by omega)),λN1 I=>?_⟩;refine EW hv.1 (by omega) hh.ty N1 _ λN2 J _=>⟨by simp only[oE,b5,b1];omega,by simp only[oE,b5,b1];omega,λN3 O=>?_⟩
  exact EW aa.1 (by omega) hh.re N3 _ λN4 ai _=>⟨by simp only[oE,b5,b1];omega,by simp only[oE,b5,b1];omega,by simp only[oE,b5,b1];omega,by simp only[oE,b5,b1];omega,λN5 aj=>Qst (U _ (by omega)) (VI ..)⟩
 ·subst Y;exact⟨one (ne (by omega)),_,KD (ne (by omega)),by omega,by simp only[oE,b5];omega,λN1 I=>Qst (U _ (by omega)) (MP ..)⟩
 ·have hc:=nd.kind;obtain rfl:k=13:=by omega
  exact⟨one (ne (by omega)),_,KD (ne (by omega)),by omega,by simp only[oE,b6];omega,λN1 I=>Qst (U _ (by omega)) (MQ ..)⟩
theorem M6:∀ t:Tm,t.ok=true->t.sz<=4000000->∀ d,t.Is d->xR 52 [.dg 9 d] t.tx:=by
 refine Tm.ind λk nm ot n ty re l ih ai aj d hd N Q O=>?_;obtain⟨t0,t1,r0,r1,a,es,c,rfl,hh,ab,ac⟩:=Tm.is_mk.1 hd;have nd:=MK ai;have aw:=ac.len;have n4:=nd.n4;have o4:=nd.o4;have hs:(Tm.mk k nm ot n ty re l).sz=1+zO l:=by simp only[Tm.sz]
 have au:=LM nd.sub;have U:=Ml l;rw[hs]at aj;simp only[Tm.tx]at O;have g0:=qO (txs l) 0;have g1:=JS (txs l);refine J1 N _ Q λ_=>?_;refine up ac ab (λi xs=>∀(ws:List ByteArray) (q N':Nat),N<=N'->ws.length=i->ws++txs xs=txs l->wv Q N (zA ws).length q i _ (zA ws) q N') ?_ ?_ [] 0 N (oC _) rfl rfl
 ·intro i ak hi ws q N' al ae he;simp only[txs,o7]at he;subst he;have ax:=zH (txs l);have ps:0<(txs l).length->((0:Int)<=(0:Int)/\0<((zA (txs l)).length:Int)/\0<(zA (txs l)).length):=λh=>⟨by omega,by omega,by omega⟩
  refine qg ⟨a,es,c,rfl,Br.of (λh=>by rw[ak]at h;cases h) λ_=>⟨k,rfl,Br.beq (λh1=>⟨nm,rfl,λN1 I=>?_⟩) λh1=>Br.beq (λh2=>⟨n,rfl,λN1 I=>?_⟩) λh2=>Br.beq (λh3=>⟨n,rfl,n,rfl,?_⟩) λh3=>Br.beq (λh4=>?_) λh4=>Br.beq (λY=>?_) λY=>Br.beq (λaa=>?_) λaa=>⟨⟨rfl,rfl⟩,λa2 _ _ N1 I _=>?_⟩⟩⟩
  ·subst h1;exact Qst (O _ (by omega)) (VB ..)
  ·subst h2;have hn:=nd.num rfl;obtain⟨u,rfl⟩:=Int.eq_ofNat_of_zero_le hn.1;exact xX u (by omega) N1 _ λN2 ah _ N3 ao=>Qst (O _ (by omega)) (by rw[VC,oG])
  ·subst h3;have hn:=nd.bit rfl;rw[Pa hn,i64_in (n+1) (by omega)];exact⟨⟨by omega,by omega,by omega⟩,by rw[b1];decide,λN1 I=>Qst (O _ (by omega)) (VD ..)⟩
  ·subst h4;have ay:=nd.op rfl;refine Br.beq (λhw=>?_) λhw=>?_
   ·exact⟨ps (by omega),by omega,_,KD (by omega),by omega,by simp only[oE,b2];omega,λN1 I=>Qst (O _ (by omega)) (by rw[Sx,if_pos (by omega)])⟩
   ·exact⟨ps (by omega),by omega,_,KD (by omega),by omega,nm,rfl,by simp only[oE,b1];omega,⟨by omega,by omega,by omega⟩,by omega,_,KD (by omega),by simp only[oE,b1];omega,by simp only[oE,b1];omega,λN1 I=>Qst (O _ (by omega)) (by rw[Sx,if_neg (by omega)])⟩
  ·subst Y
   have:=nd.one (by omega)
   exact⟨ps (by omega),by omega,_,KD (by omega),by omega,by simp only[oE,b1];omega,λN1 I=>Qst (O _ (by omega)) (MN ..)⟩
  ·subst aa
   have:=nd.one (by omega)
   exact⟨ps (by omega),by omega,_,KD (by omega),by omega,λN1 I=>Qst (O _ (by omega)) (MO ..)⟩
  ·exact SG nd hh (by omega) U ⟨h1,h2,h3,h4,Y,aa⟩ a2 q N1 _ λN2 ah _ N3 ao=>O _ (by omega)
 ·intro i x xs J _ aq ws q N' al ae he;have hb:=J.b;have hx:x.sz<=zO l:=F4 J.m;have az:=F5 (txs l);refine qg ⟨a,es,c,rfl,Br.of (λ_=>⟨a,es,c,rfl,hb,λN1 I=>?_⟩) λh=>by rw[J.lt]at h;cases h⟩;rw[oG];refine ih x J.m (nd.sub x J.m) (by omega) _ J.r N1 _ λN2 ah _=>⟨⟨rfl,rfl⟩,by unfold zB;rw[oH,zH];simp only[oJ,oN];omega,λc2=>?_⟩
  have e:zA ws++[D.t x.tx]=zA (ws++[x.tx]):=by simp[zA]
  rw[e,J.w];exact aq (ws++[x.tx]) c2 N2 (by omega) (by simp[ae]) (by rw[<-he];simp[txs])
theorem FC {t:Tm}{d:D}(hd:t.Is d)(hc:t.cnt<=4000000):xR 21 [.dg 9 d] (TT t):=λN Q J=>GS N d Q λ_ N1 O=>BK t d hd (by omega) N1 _ λN2 U _=>Br.not (λI N3 Y=>Qst (J _ (by omega)) (by rw[TT,if_neg (by rw[I];decide)])) λI N4 aa=>M6 t I (by have:=Tm.sz_cnt t;omega) d hd N4 _ λN5 ab _ N6 ac=>Qst (J _ (by omega)) (by rw[TT,if_pos I])
end Go.Proofs.YtlaniepnglheoaaGreatDoor
set_option maxRecDepth 100000
namespace Go.Proofs.YtlaniepnglheoaaGreatDoor
open Go Go.Proofs Go.Proofs.Tryz Go.IntWalk
theorem OX {t:Ty}(hw:Wf t):t.cnt<=1000000->∀ {d:D},t.Is d->xR 63 [.dg 2 d] (DA t):=by
 induction hw with
 | int=>intro hc d hd N Q J;obtain⟨b,fs,k,rfl,_,h2⟩:=Ty.is_mk.1 hd;exact wN N _ Q λ_=>⟨1,rfl,Br.beq (λ_ N1 I=>J _ I) λh=>absurd rfl h⟩
 | bool=>intro hc d hd N Q J;obtain⟨b,fs,k,rfl,_,h2⟩:=Ty.is_mk.1 hd;exact wN N _ Q λ_=>⟨2,rfl,Br.beq (λh=>absurd h (by decide)) λ_=>Br.beq (λ_ N1 I=>J _ I) λh=>absurd rfl h⟩
 | @fn u v U hv O Y=>
   intro hc d hd N Q J;have aa:(wa u v).cnt=1+(u.cnt+(v.cnt+0)):=rfl;have s1:=yg U;have s2:=yg hv;obtain⟨b,fs,k,rfl,ab,d1,_,rfl,h3,d2,_,rfl,h4,rfl⟩:=Ty.is_mk.1 hd;refine wN N _ Q λ_=>⟨3,rfl,Br.beq (λh=>absurd h (by decide)) λ_=>Br.beq (λh=>absurd h (by decide)) λ_=>Br.beq (λ_=>⟨_,_,_,rfl,⟨by simp,by simp⟩,_,_,_,rfl,⟨by simp,by simp⟩,λN1 I=>?_⟩) λh=>absurd rfl h⟩
   refine O (by omega) h3 N1 _ λN2 ac _=>⟨by omega,by rw[oE,b1];omega,λN3 ae=>?_⟩
   exact Y (by omega) h4 N3 _ λN4 ah _=>⟨by simp only[oE,b1];omega,by simp only[oE,b1];omega,λN5 ai=>Qst (J _ (by omega)) (F6 u v)⟩
 | @code u U O=>
   intro hc d hd N Q J;have aa:(vI u).cnt=1+(u.cnt+0):=rfl;have s1:=yg U;obtain⟨b,fs,k,rfl,ab,d1,_,rfl,h3,rfl⟩:=Ty.is_mk.1 hd;refine wN N _ Q λ_=>⟨4,rfl,Br.beq (λh=>absurd h (by decide)) λ_=>Br.beq (λh=>absurd h (by decide)) λ_=>Br.beq (λh=>absurd h (by decide)) λ_=>⟨_,_,_,rfl,⟨by simp,by simp⟩,λN1 I=>?_⟩⟩
   exact O (by omega) h3 N1 _ λN2 ac _=>⟨by omega,by rw[oE,b1];omega,λN3 ae=>Qst (J _ (by omega)) (qy u)⟩
theorem vo {t:Ty}(I:t.valid=true){d:D}(hd:t.Is d):xR 27 [.dg 2 d] (DA t):=λN Q O=>by have h:=yM I;have J:=yy t d hd (by omega);rw[I]at J;exact DD N d Q λ_ N1 U=>J N1 _ λN2 Y _=>Br.not (λh=>by cases h) λ_ N3 aa=>OX h.1 (by omega) hd N3 _ λN4 ab _ N5 ac=>O _ (by omega)
theorem Tj:∀ t:Tm,t.ok=true->t.sz<=4000000->∀ d,t.Is d->xR 65 [.dg 9 d] t.tx:=by
 refine Tm.ind λk nm ot n ty re l ih ak al d hd N Q J=>?_;obtain⟨t0,t1,r0,r1,a,es,c,rfl,hh,ab,ac⟩:=Tm.is_mk.1 hd;have nd:=MK ak;have a8:=ac.len;have n4:=nd.n4;have o4:=nd.o4;have hs:(Tm.mk k nm ot n ty re l).sz=1+zO l:=by simp only[Tm.sz]
 have az:=LM nd.sub;have ao:=Ml l;rw[hs]at al;simp only[Tm.tx]at J;have g0:=qO (txs l) 0;have g1:=JS (txs l);have gj:=pK (bytes [32]) (by decide) (txs l);refine ED N _ Q λ_=>⟨a,es,c,rfl,?_⟩
 refine up ac ab (λi xs=>∀(ws:List ByteArray) (q N':Nat),N<=N'->ws.length=i->ws++txs xs=txs l->xc Q N (zA ws).length q a es c (es.length:Int) i _ (zA ws) q N') ?_ ?_ [] 0 N (oC _) rfl rfl
 ·intro i aq hi ws q N' au ae he;simp only[txs,o7]at he;subst he;have ba:=zH (txs l);have ps:0<(txs l).length->((0:Int)<=(0:Int)/\0<((zA (txs l)).length:Int)/\0<(zA (txs l)).length):=λh=>⟨by omega,by omega,by omega⟩
  have hj:=λa c=>Ly (txs l) (bytes [32]) (by decide) (by omega) a c;refine tW (Br.of (λh=>by rw[aq]at h;cases h) λ_=>⟨k,rfl,Br.beq (λh1=>⟨nm,rfl,λN1 I=>?_⟩) λh1=>Br.beq (λh2=>⟨n,rfl,λN1 I=>?_⟩) λh2=>Br.beq (λh3=>⟨n,rfl,n,rfl,?_⟩) λh3=>Br.beq (λh4=>?_) λh4=>Br.beq (λh5=>⟨⟨rfl,rfl⟩,λa2 _ N1 I _=>?_⟩) λh5=>Br.beq (λh6=>?_) λh6=>Br.beq (λh7=>⟨⟨rfl,rfl⟩,λa2 _ N1 I _=>?_⟩) λh7=>Br.beq (λh8=>⟨nm,rfl,by omega,by simp only[oE,b5];omega,⟨rfl,rfl⟩,λa2 _ N1 I _=>?_⟩) λh8=>Br.beq (λh9=>?_) λh9=>Br.beq (λah=>?_) λah=>Br.beq (λai=>?_) λai=>Br.beq (λaj=>?_) λaj=>?_⟩)
  ·subst h1;exact Qst (J _ (by omega)) (VB ..)
  ·subst h2;have hn:=nd.num rfl;obtain⟨u,rfl⟩:=Int.eq_ofNat_of_zero_le hn.1;exact uB u (by omega) N1 _ λN2 U _ N3 Y=>Qst (J _ (by omega)) (by rw[VC,oG])
  ·subst h3;have hn:=nd.bit rfl;rw[Pa hn,i64_in (n+1) (by omega)];exact⟨⟨by omega,by omega,by omega⟩,by rw[b1];decide,λN1 I=>Qst (J _ (by omega)) (VD ..)⟩
  ·subst h4;have bb:=nd.op rfl;refine Br.beq (λhw=>?_) λhw=>?_
   ·exact⟨ps (by omega),by omega,_,KD (by omega),by omega,by simp only[oE,b2];omega,λN1 I=>Qst (J _ (by omega)) (by rw[Sx,if_pos (by omega)])⟩
   ·exact⟨ps (by omega),by omega,_,KD (by omega),by omega,nm,rfl,by simp only[oE,b1];omega,⟨by omega,by omega,by omega⟩,by omega,_,KD (by omega),by simp only[oE,b1];omega,by simp only[oE,b1];omega,λN1 I=>Qst (J _ (by omega)) (by rw[Sx,if_neg (by omega)])⟩
  ·subst h5;exact hj _ _ N1 _ λN2 U _=>⟨by omega,by simp only[oE,b4];omega,λN3 Y=>Qst (J _ (by omega)) (VE ..)⟩
  ·subst h6;have hv:=nd.vt (.inl rfl);have aw:=yg (yM hv).1;have ax:=(yM hv).2
   have:=nd.one (by omega)
   refine⟨nm,rfl,by omega,by simp only[oE,b2];omega,ps (by omega),by omega,_,KD (by omega),λN1 I=>?_⟩;exact vo hv hh.ty N1 _ λN2 U _=>⟨by simp only[oE,b2,b1];omega,by simp only[oE,b2,b1];omega,by simp only[oE,b2,b1];omega,by simp only[oE,b2,b1];omega,λN3 Y=>Qst (J _ (by omega)) (VF ..)⟩
  ·subst h7;exact hj _ _ N1 _ λN2 U _=>⟨by omega,by simp only[oE,b1];omega,λN3 Y=>Qst (J _ (by omega)) (VG ..)⟩
  ·subst h8;exact hj _ _ N1 _ λN2 U _=>⟨by simp only[oE,b5,b1];omega,by simp only[oE,b5,b1];omega,λN3 Y=>Qst (J _ (by omega)) (VH ..)⟩
  ·subst h9;have hv:=nd.vt (.inr rfl);have aa:=nd.vr rfl;have aw:=yg (yM hv).1;have a6:=yg (yM aa).1;have ax:=(yM hv).2;have a7:=(yM aa).2
   have:=nd.one (by omega)
   refine⟨nm,rfl,by omega,by simp only[oE,b5];omega,ot,rfl,by simp only[oE,b5,b1];omega,by simp only[oE,b5,b1];omega,ps (by omega),by omega,_,KD (by omega),λN1 I=>?_⟩;refine vo hv hh.ty N1 _ λN2 U _=>⟨by simp only[oE,b5,b1];omega,by simp only[oE,b5,b1];omega,λN3 Y=>?_⟩
   exact vo aa hh.re N3 _ λN4 bc _=>⟨by simp only[oE,b5,b1];omega,by simp only[oE,b5,b1];omega,by simp only[oE,b5,b1];omega,by simp only[oE,b5,b1];omega,λN5 bd=>Qst (J _ (by omega)) (VI ..)⟩
  ·subst ah
   have:=nd.one (by omega)
   exact⟨ps (by omega),by omega,_,KD (by omega),by omega,by simp only[oE,b1];omega,λN1 I=>Qst (J _ (by omega)) (MN ..)⟩
  ·subst ai
   have:=nd.one (by omega)
   exact⟨ps (by omega),by omega,_,KD (by omega),by omega,λN1 I=>Qst (J _ (by omega)) (MO ..)⟩
  ·subst aj
   have:=nd.one (by omega)
   exact⟨ps (by omega),by omega,_,KD (by omega),by omega,by simp only[oE,b5];omega,λN1 I=>Qst (J _ (by omega)) (MP ..)⟩
  ·have hc:=nd.kind;obtain rfl:k=13:=by omega
   have:=nd.one (by omega)
   exact⟨ps (by omega),by omega,_,KD (by omega),by omega,by simp only[oE,b6];omega,λN1 I=>Qst (J _ (by omega)) (MQ ..)⟩
 ·intro i x xs O _ ay ws q N' au ae he;have hb:=O.b;have hx:x.sz<=zO l:=F4 O.m;have bg:=F5 (txs l);refine tW (Br.of (λ_=>⟨hb,λN1 I=>?_⟩) λh=>by rw[O.lt]at h;cases h);rw[oG];refine ih x O.m (nd.sub x O.m) (by omega) _ O.r N1 _ λN2 U _=>⟨⟨rfl,rfl⟩,by unfold zB;rw[oH,zH];simp only[oJ,oN];omega,λc2=>?_⟩
  have e:zA ws++[D.t x.tx]=zA (ws++[x.tx]):=by simp[zA]
  rw[e,O.w];exact ay (ws++[x.tx]) c2 N2 (by omega) (by simp[ae]) (by rw[<-he];simp[txs])
theorem E7 {t:Tm}{d:D}(hd:t.Is d)(hc:t.cnt<=4000000):xR 29 [.dg 9 d] (TT t):=λN Q J=>GJ N d Q λ_ N1 O=>BG t d hd (by omega) N1 _ λN2 U _=>Br.not (λI N3 Y=>Qst (J _ (by omega)) (by rw[TT,if_neg (by rw[I];decide)])) λI N4 aa=>Tj t I (by have:=Tm.sz_cnt t;omega) d hd N4 _ λN5 ab _ N6 ac=>Qst (J _ (by omega)) (by rw[TT,if_pos I])
end Go.Proofs.YtlaniepnglheoaaGreatDoor
set_option maxRecDepth 100000
namespace Go.Proofs.YtlaniepnglheoaaGreatDoor
open Go Go.Proofs Go.Proofs.Tryz Go.IntWalk
abbrev Bl:=List UInt8
def pre:Bl->Bl->Option Bl
 | [],l=>some l
 | _::_,[]=>none
 | c::p,d::l=>if c=d then pre p l else none
theorem uH (p l:Bl):pre p (p++l)=some l:=by
 induction p with
 | nil=>rfl
 | cons c p I=>simp[pre,I]
theorem yG:∀ {p l r:Bl},pre p l=some r->l=p++r
 | [],l,r,h=>by simp only[pre,oh]at h;simp[h]
 | c::p,[],r,h=>by simp[pre]at h
 | c::p,d::l,r,h=>by
   simp only[pre]at h;split at h
   ·rename_i e;rw[yG h,e];rfl
   ·cases h
theorem qo {c d:UInt8}(h:c≠d)(p l:Bl):pre (c::p) (d::l)=none:=by simp[pre,h]
theorem Wt (c:UInt8)(p l:Bl):pre (c::p) (c::l)=pre p l:=by simp[pre]
def idC (b:UInt8):Bool:=decide (48<=b.toNat/\b.toNat<=57\/97<=b.toNat/\b.toNat<=122)
def CL (b:UInt8):Bool:=decide (48<=b.toNat/\b.toNat<=57)
def word:Bl->Bl × Bl
 | []=>([],[])
 | b::l=>if idC b then(b::(word l).1,(word l).2)else([],b::l)
def Stop (l:Bl):Prop:=∀ b r,l=b::r->idC b=false
theorem Eh (w r:Bl)(I:∀ b∈w,idC b=true)(J:Stop r):word (w++r)=(w,r):=by
 induction w with
 | nil=>
   cases r with
   | nil=>rfl
   | cons b r=>simp[word,J b r rfl]
 | cons b w O=>simp[word,I b (by simp),O λc hc=>I c (by simp[hc])]
theorem OG:∀ l:Bl,(word l).1++(word l).2=l
 | []=>rfl
 | b::l=>by
   unfold word;split
   ·simp[OG l]
   ·rfl
open Classical in
noncomputable def xl (w:Bl):Option Nat:=if h:∃ n,n<=999999/\Lib.decDigits n=w then some h.choose else none
theorem Ff {n:Nat}(h:n<=999999):xl (Lib.decDigits n)=some n:=by
 have I:∃ m,m<=999999/\Lib.decDigits m=Lib.decDigits n:=⟨n,h,rfl⟩
 unfold xl;rw[dif_pos I];exact oY some (P8 _ _ I.choose_spec.2)
theorem Cz {w:Bl}{n:Nat}(h:xl w=some n):n<=999999/\Lib.decDigits n=w:=by
 unfold xl at h;split at h
 ·rename_i I;cases h;exact I.choose_spec
 ·cases h
theorem pQ {w:Bl}(h:∀ n,n<=999999->Lib.decDigits n≠w):xl w=none:=by
 unfold xl;rw[dif_neg]
 rintro⟨n,I,J⟩;exact h n I J
theorem sw:∀(n:Nat),∀ b∈Lib.decDigits n,CL b=true:=by
 intro n
 induction n using Nat.strongRecOn with
 | _ n I=>
   intro b hb;have hd:∀ k,k<10->CL (UInt8.ofNat (48+k))=true:=by
    intro k J;have:k=0\/k=1\/k=2\/k=3\/k=4\/k=5\/k=6\/k=7\/k=8\/k=9:=by omega
    rcases this with rfl | rfl | rfl | rfl | rfl | rfl | rfl | rfl | rfl | rfl<;>decide
   rw[Lib.decDigits]at hb;split at hb
   ·rename_i h;rw[o5]at hb;subst hb;exact hd n h
   ·rcases oM.1 hb with hb | hb
    ·exact I _ (by omega) b hb
    ·rw[o5]at hb;subst hb;exact hd _ (by omega)
theorem Kd (n:Nat):∃ b l,Lib.decDigits n=b::l:=by
 cases h:Lib.decDigits n with
 | nil=>exfalso;rw[Lib.decDigits]at h;split at h<;>simp at h
 | cons b l=>exact⟨b,l,rfl⟩
theorem Ke {b:UInt8}(h:CL b=true):idC b=true:=by simp only[CL,idC,oe]at h ⊢;exact .inl h
def uc : Nat->Bl->Option (Ty × Bl)
 | 0,_=>none
 | n + 1,l=>match pre [73] l with
   | some r=>some (tInt,r)
   | none=>match pre [66] l with
     | some r=>some (tBool,r)
     | none=>match pre [60] l with
       | some r=>(uc n r).bind λx=>(pre [62] x.2).map λr=>(vI x.1,r)
       | none=>(pre [40] l).bind λr=>(uc n r).bind λx=>(pre [62] x.2).bind λr=>(uc n r).bind λy=>(pre [41] y.2).map λr=>(wa x.1 y.1,r)
def tyL (t:Ty):Bl:=(DA t).data.toList
theorem Vf:tyL tInt=[73]:=rfl
theorem TU:tyL tBool=[66]:=rfl
theorem XF (a b:Ty):tyL (wa a b)=[40]++(tyL a++([62]++(tyL b++[41]))):=by unfold tyL;rw[F6];simp only[zT,oP];rfl
theorem TV (a:Ty):tyL (vI a)=[60]++(tyL a++[62]):=by unfold tyL;rw[qy];simp only[zT,oP];rfl
theorem Tl (a b:Ty):(wa a b).dep=max a.dep b.dep+1:=by simp[wa,Ty.dep,tk]
theorem M7 (a:Ty):(vI a).dep=a.dep+1:=by simp[vI,Ty.dep,tk]
theorem T6 (n:Nat)(l:Bl):uc (n+1) ([73]++l)=some (tInt,l):=by simp[uc,pre]
theorem T3 (n:Nat)(l:Bl):uc (n+1) ([66]++l)=some (tBool,l):=by simp[uc,pre]
theorem T4 (n:Nat)(l:Bl):uc (n+1) ([60]++l)=(uc n l).bind λx=>(pre [62] x.2).map λr=>(vI x.1,r):=by simp[uc,pre]
theorem T5 (n:Nat)(l:Bl):uc (n+1) ([40]++l)=(uc n l).bind λx=>(pre [62] x.2).bind λr=>(uc n r).bind λy=>(pre [41] y.2).map λr=>(wa x.1 y.1,r):=by simp[uc,pre]
theorem MX {t:Ty}(O:Wf t):∀(n:Nat)(r:Bl),t.dep<=n->uc n (tyL t++r)=some (t,r):=by
 induction O with
 | int=>intro n r h;cases n with
   | zero=>exact absurd h (by decide)
   | succ n=>rw[Vf,T6]
 | bool=>intro n r h;cases n with
   | zero=>exact absurd h (by decide)
   | succ n=>rw[TU,T3]
 | @fn u v U Y I J=>intro n r h;cases n with
   | zero=>rw[Tl]at h;omega
   | succ n=>rw[Tl]at h;rw[XF];simp only[oP];rw[T5];simp only[I n _ (by omega),J n _ (by omega),oO,uH,oZ]
 | @code u U I=>intro n r h;cases n with
   | zero=>rw[M7]at h;omega
   | succ n=>rw[M7]at h;rw[TV];simp only[oP];rw[T4];simp only[I n _ (by omega),oO,uH,oZ]
def TP (n:Nat):Tm:=.mk 2 (bytes []) (bytes []) n tZero tZero []
def tBl (n:Int):Tm:=.mk 3 (bytes []) (bytes []) n tZero tZero []
def tVr (w:Bl):Tm:=.mk 1 ⟨w.toArray⟩ (bytes []) 0 tZero tZero []
noncomputable def Lj (sp:Bool)(l:Bl):Option (Tm × Bl):=match l with
 | []=>none
 | b :: _=>match sp with
   | true=>if CL b then(xl (word l).1).map λn=>(TP n,(word l).2)else some (tVr (word l).1,(word l).2)
   | false=>match xl (word l).1 with
     | some n=>some (TP n,(word l).2)
     | none=>if(word l).1=[]then none else some (tVr (word l).1,(word l).2)
def wZ (T:Bl->Option (Tm × Bl))(by_ e:Bl):Nat->Bool->Bl->Option (List Tm × Bl)
 | 0,_,l=>(pre e l).map λr=>([],r)
 | k+1,f,l=>(if f then some l else pre by_ l).bind λl=>(T l).bind λx=>(wZ T by_ e k false x.2).map λy=>(x.1::y.1,y.2)
def mkF (k:Int)(nm ot:Bl)(ty re:Ty)(x:Option (List Tm × Bl)):Option (Tm × Bl):=x.map λy=>(.mk k ⟨nm.toArray⟩ ⟨ot.toArray⟩ 0 ty re y.1,y.2)
def Nk (sp:Bool)(T:Bl->Option (Tm × Bl))(t:Tm):Bl->Option (Tm × Bl)
 | []=>none
 | c::r=>if c=32 then(T r).bind λy=>(pre [41] y.2).map λr=>(.mk 7 (bytes []) (bytes []) 0 tZero tZero [t,y.1],r)
   else if sp=true/\sc ⟨#[c]⟩≠2 then none else(T r).bind λy=>(pre [41] y.2).map λr=>(.mk 4 ⟨#[c]⟩ (bytes []) 0 tZero tZero [t,y.1],r)
def Q6 (sp:Bool)(T:Bl->Option (Tm × Bl))(l:Bl):Option (Tm × Bl):=(T l).bind λx=>Nk sp T x.1 x.2
def JI (T:Bl->Option (Tm × Bl))(l:Bl):Option (Tm × Bl):=(pre [61] (word l).2).bind λr=>mkF 8 (word l).1 [] tZero tZero (wZ T [32] [41] 2 true r)
def MW (T:Bl->Option (Tm × Bl))(l:Bl):Option (Tm × Bl):=(pre [58] (word l).2).bind λr=>(uc 8 r).bind λt=>(pre [46] t.2).bind λr=>mkF 6 (word l).1 [] t.1 tZero (wZ T [] [41] 1 true r)
def JJ (T:Bl->Option (Tm × Bl))(l:Bl):Option (Tm × Bl):=(pre [32] (word l).2).bind λm=>(pre [58] (word m).2).bind λr=>(uc 8 r).bind λt=>(pre [62] t.2).bind λr=>(uc 8 r).bind λu=>(pre [46] u.2).bind λr=>mkF 9 (word l).1 (word m).1 t.1 u.1 (wZ T [] [41] 1 true r)
def rx (sp : Bool) (T:Bl->Option (Tm × Bl)) (l:Bl):Option (Tm × Bl):=
 match pre [33] l with
 | some r=>mkF 4 [33] [] tZero tZero (wZ T [] [41] 1 true r)
 | none => match pre [105,102,32] l with
   | some r=>mkF 5 [] [] tZero tZero (wZ T [32] [41] 3 true r)
   | none => match pre [114,117,110,32] l with
     | some r=>mkF 12 [] [] tZero tZero (wZ T [] [41] 1 true r)
     | none=>match pre [108,105,102,116,32] l with
       | some r=>mkF 13 [] [] tZero tZero (wZ T [] [41] 1 true r)
       | none=>match pre [108,101,116,32] l with
         | some r=>JI T r
         | none=>match pre [92] l with
           | some r=>MW T r
           | none=>match pre [114,101,99,32] l with
             | some r=>JJ T r
             | none=>Q6 sp T l
noncomputable def v8 (sp:Bool):Nat->Bl->Option (Tm × Bl)
 | 0,_=>none
 | n + 1,l=>match pre [35,116] l with
   | some r=>some (tBl 1,r)
   | none=>match pre [35,102] l with
     | some r=>some (tBl 0,r)
     | none=>match pre [60] l with
       | some r=>mkF 10 [] [] tZero tZero (wZ (v8 sp n) [] [62] 1 true r)
       | none=>match pre [126] l with
         | some r=>mkF 11 [] [] tZero tZero (wZ (v8 sp n) [] [] 1 true r)
         | none=>match pre [40] l with
           | some r=>rx sp (v8 sp n) r
           | none=>Lj sp l
end Go.Proofs.YtlaniepnglheoaaGreatDoor
set_option maxRecDepth 100000
namespace Go.Proofs.YtlaniepnglheoaaGreatDoor
open Go Go.Proofs Go.Proofs.Tryz Go.IntWalk
def tmL (t:Tm):Bl:=t.tx.data.toList
theorem vH {c:UInt8}(h:idC c=false)(r:Bl):Stop (c::r):=λb I e=>by cases e;exact h
structure NmL (w:Bl):Prop where
 id:∀ b∈w,idC b=true
 hd:∃ b l,w=b::l/\CL b=false
 kw:w≠[105,102]/\w≠[108,101,116]/\w≠[114,101,99]/\w≠[114,117,110]/\w≠[108,105,102,116]
theorem nmL {s:ByteArray}(h:yK s=true):NmL s.data.toList:=by
 simp only[yK,Dh,oK,nK,np]at h;obtain⟨U,h2,k1,k2,k3,k4,k5⟩:=h;have ab:=yI.1 h2;have ne:∀ l:List Nat,s≠bytes l->s.data.toList≠l.map UInt8.ofNat:=λl hs e=>hs (z8 e);have J:∀ i,i<s.size->BS s i=true:=λi hi=>by unfold uV at U;rw[oc]at U;exact U i (List.mem_range'.2 ⟨i,by omega,by omega⟩)
 have O:∀(i:Nat) (hi:i<s.data.toList.length),AH s i=((s.data.toList[i]).toNat:Int):=λi hi=>by
  have Y:i<s.data.size:=by simpa using hi
  unfold AH;rw[o9,ou Y];simp
 have aa:s.data.toList.length=s.size:=by simp
 refine⟨λb hb=>?_,?_,ne _ k1,ne _ k2,ne _ k3,ne _ k4,ne _ k5⟩
 ·obtain⟨i,hi,rfl⟩:=List.mem_iff_getElem.1 hb;have I:=J i (by omega);unfold BS at I;rw[O i hi]at I;simp only[idC,oe];simp only[ny,oK,oe,nK,np]at I;omega
 ·have h0:0<s.data.toList.length:=by omega
  have I:=J 0 (by omega);unfold BS at I;rw[O 0 h0]at I;simp only[ny,oK,oe,nK,np]at I;cases hl:s.data.toList with
  | nil=>rw[hl]at h0;simp at h0
  | cons b l=>refine⟨b,l,rfl,?_⟩;simp only[hl,List.getElem_cons_zero]at I;simp only[CL,np];omega
theorem NmL.num {w:Bl}(h:NmL w):xl w=none:=pQ λn _ e=>by
 obtain⟨b,l,rfl,I⟩:=h.hd
 have:=sw n b (by rw[e];simp)
 rw[I]at this;cases this
theorem NmL.word {w:Bl}(h:NmL w){r:Bl}(I:Stop r):word (w++r)=(w,r):=Eh _ _ h.id I
theorem C0:∀ {k w r:Bl},(∀ b∈k,idC b=true)->(∀ b∈w,idC b=true)->Stop r->w≠k->pre (k++[32]) (w++r)=none
 | [],w,r,I,J,O,U=>by
   cases w with
   | nil=>exact absurd rfl U
   | cons b w=>exact qo (λe=>by have:=J b (by simp);rw[<-e]at this;revert this;decide) _ _
 | c::k,[],r,I,J,O,U=>by
   cases r with
   | nil=>rfl
   | cons b r=>exact qo (λe=>by have:=I c (by simp);rw[e,O b r rfl]at this;cases this) _ _
 | c::k,b::w,r,I,J,O,U=>by
   simp only[o3,pre];split
   ·rename_i e;exact C0 (λx Y=>I x (by simp[Y])) (λx Y=>J x (by simp[Y])) O λh=>U (by rw[e,h])
   ·rfl
structure Fst (l:Bl):Prop where
 a:pre [33] l=none
 b:pre [105,102,32] l=none
 c:pre [114,117,110,32] l=none
 d:pre [108,105,102,116,32] l=none
 e:pre [108,101,116,32] l=none
 f:pre [92] l=none
 g:pre [114,101,99,32] l=none
theorem qN {b:UInt8}(h:b≠33/\b≠105/\b≠114/\b≠108/\b≠92)(l:Bl):Fst (b::l):=
 ⟨qo h.1.symm _ _,qo h.2.1.symm _ _,qo h.2.2.1.symm _ _,qo h.2.2.2.1.symm _ _,qo h.2.2.2.1.symm _ _,qo h.2.2.2.2.symm _ _,qo h.2.2.1.symm _ _⟩
theorem NF {w r:Bl}(I:∀ b∈w,idC b=true)(O:∃ b l,w=b::l)(J:Stop r)(h:w≠[105,102]/\w≠[108,101,116]/\w≠[114,101,99]/\w≠[114,117,110]/\w≠[108,105,102,116]):Fst (w++r):=by
 have hc:∀ c:UInt8,idC c=false->pre [c] (w++r)=none:=λc hc=>by obtain⟨b,l,rfl⟩:=O;exact qo (λe=>by have:=I b (by simp);rw[<-e,hc]at this;cases this) _ _
 exact⟨hc _ (by decide),C0 (k:=[105,102]) (by decide) I J h.1,C0 (k:=[114,117,110]) (by decide) I J h.2.2.2.1,C0 (k:=[108,105,102,116]) (by decide) I J h.2.2.2.2,C0 (k:=[108,101,116]) (by decide) I J h.2.1,hc _ (by decide),C0 (k:=[114,101,99]) (by decide) I J h.2.2.1⟩
theorem Q8 (sp:Bool)(n:Nat){b:UInt8}(I:idC b=true)(l:Bl):v8 sp (n+1) (b::l)=Lj sp (b::l):=by have h:∀ c:UInt8,idC c=false->∀ p,pre (c::p) (b::l)=none:=λc hc p=>qo (λe=>by rw[<-e,hc]at I;cases I) _ _;simp only[v8,h 35 (by decide),h 60 (by decide),h 126 (by decide),h 40 (by decide)]
theorem Wz (sp:Bool)(n:Nat){m:Nat}(I:m<=999999){r:Bl}(J:Stop r):v8 sp (n+1) (Lib.decDigits m++r)=some (TP m,r):=by
 obtain⟨b,l,e⟩:=Kd m;have hd:CL b=true:=sw m b (by rw[e];simp);have O:word (b::l++r)=(b::l,r):=Eh _ _ (λc hc=>Ke (sw m c (by rw[e];exact hc))) J;have U:xl (b::l)=some m:=by rw[<-e];exact Ff I
 rw[e,o3,Q8 sp n (Ke hd),<-o3];cases sp<;>simp only[Lj,o3]<;>simp only[<-o3,O,U,hd,mF,oZ]
theorem VP (sp:Bool)(n:Nat){w:Bl}(h:NmL w){r:Bl}(I:Stop r):v8 sp (n+1) (w++r)=some (tVr w,r):=by have J:=h.word I;have O:=h.num;obtain⟨b,l,rfl,hd⟩:=h.hd;rw[o3,Q8 sp n (h.id b (by simp)),<-o3];cases sp<;>simp only[Lj,o3]<;>simp only[<-o3,J,O,hd,mE,na,reduceCtorEq]
def RdT (T:Bl->Option (Tm × Bl))(t:Tm):Prop:=∀ r,Stop r->T (tmL t++r)=some (t,r)
theorem Kz {T:Bl->Option (Tm × Bl)}{b:ByteArray}{e r:Bl}(I:∀ l,Stop (b.data.toList++l))(J:Stop (e++r)):∀(l:List Tm),(∀ t∈l,RdT T t)->wZ T b.data.toList e l.length false ((qQ b (txs l)).data.toList++(e++r))=some (l,r)/\Stop ((qQ b (txs l)).data.toList++(e++r))
 | [],h=>by refine⟨?_,J⟩;show(pre e ([]++(e++r))).map _=_;rw[oa,uH];rfl
 | x::l,h=>by
   obtain⟨O,hs⟩:=Kz I J l λt U=>h t (by simp[U]);have e1:(qQ b (txs (x::l))).data.toList++(e++r)=b.data.toList++(tmL x++((qQ b (txs l)).data.toList++(e++r))):=by simp only[txs,qQ,zT,oP];rfl
   rw[e1];refine⟨?_,I _⟩;simp only[oJ,wZ,mE,na,uH,oO,h x (by simp) _ hs,O,oZ]
theorem Q4 {T:Bl->Option (Tm × Bl)}{b:ByteArray}{e r:Bl}(I:∀ l,Stop (b.data.toList++l))(J:Stop (e++r))(l:List Tm)(h:∀ t∈l,RdT T t){k:Nat}(O:k=l.length):wZ T b.data.toList e k true ((vq b (txs l)).data.toList++(e++r))=some (l,r):=by
 subst O;cases l with
 | nil=>show(pre e ([]++(e++r))).map _=_;rw[oa,uH];rfl
 | cons x l=>
   obtain⟨U,hs⟩:=Kz I J l λt Y=>h t (by simp[Y]);have e1:(vq b (txs (x::l))).data.toList++(e++r)=tmL x++((qQ b (txs l)).data.toList++(e++r)):=by simp only[txs,vq,zT,oP];rfl
   rw[e1];simp only[oJ,wZ,mF,oO,h x (by simp) _ hs,U,oZ]
theorem s9 {T:Bl->Option (Tm × Bl)}{e r:Bl}(I:Stop (e++r)){t:Tm}(h:RdT T t)(b:Bl):wZ T b e 1 true (tmL t++(e++r))=some ([t],r):=by simp only[wZ,mF,oO,h _ I,uH,oZ]
theorem XG {t:Ty}(h:t.zero=true):t=tZero:=by
 cases t with
 | mk k l=>
 simp only[Ty.zero,Ty.k,Ty.as,oK,mK]at h;obtain⟨rfl,h⟩:=h;have:l=[]:=oV (by omega);subst this;rfl
structure NodeZ (k:Int) (nm ot:ByteArray) (n:Int) (ty re:Ty):Prop where
 ty:k≠6->k≠9->ty=tZero
 re:k≠9->re=tZero
 n:k≠2->k≠3->n=0
 nm:zw k nm ot=true
theorem Sv {k:Int}{nm ot:ByteArray}{n:Int}{ty re:Ty}{l:List Tm}(nd:NodeS k nm ot n ty re l):NodeZ k nm ot n ty re:=by
 have f:=nd.f;simp only[zI,oK,ny]at f;obtain⟨q1,O,q3,U,Y,q6⟩:=f;refine⟨λI J=>XG (O.resolve_left (by simp[ri,I,J])),λh=>XG (U.resolve_left (by simp[h])),λI J=>?_,q6⟩
 have:=yI.1 Y
 rw[if_neg I,if_neg J]at this;omega
theorem JA (s:ByteArray):(⟨s.data.toList.toArray⟩:ByteArray)=s:=z8 rfl
theorem Qq {nm:ByteArray}(h:sc nm=2):∃ c:UInt8,nm=⟨#[c]⟩/\idC c=false/\c≠32:=by
 unfold sc at h
 (repeat' split at h)<;>first | (exfalso;revert h;decide) | (rename_i e;exact⟨_,e,by decide,by decide⟩)
theorem Wr {nm:ByteArray}(h:sc nm=1):nm=bytes [33]:=by
 unfold sc at h
 (repeat' split at h)<;>first | (exfalso;revert h;decide) | (rename_i e;exact e)
theorem LE {t:Tm}(J:t.ok=true){r:Bl}(O:Stop r):Fst (tmL t++r):=by
 cases t with
 | mk k nm ot n ty re l=>
 have nd:=MK J;have U:=Sv nd;unfold tmL;simp only[Tm.tx];rcases nd.kind with rfl | rfl | rfl | rfl | rfl | rfl | rfl | rfl | rfl | rfl | rfl | rfl | rfl
 ·rw[VB];have Y:yK nm=true:=by have:=U.nm;simp[zw]at this;exact this.1
  have h:=nmL Y;obtain⟨b,w,e,_⟩:=h.hd;exact NF h.id ⟨b,w,e⟩ O h.kw
 ·rw[VC];show Fst (Lib.decDigits n.toNat++r);obtain⟨b,w,e⟩:=Kd n.toNat;have hd:∀ c∈Lib.decDigits n.toNat,CL c=true:=sw _;have I:∀(c:UInt8) (k:Bl),CL c=false->Lib.decDigits n.toNat≠c::k:=λc k hc e=>by have:=hd c (by rw[e];simp);rw[hc]at this;cases this
  exact NF (λc hc=>Ke (hd c hc)) ⟨b,w,e⟩ O ⟨I _ _ (by decide),I _ _ (by decide),I _ _ (by decide),I _ _ (by decide),I _ _ (by decide)⟩
 ·rw[VD];simp only[zT,oP];exact qN (b:=35) (by decide) _
 ·rw[Sx];split<;>(simp only[zT,oP];exact qN (b:=40) (by decide) _)
 ·rw[VE];simp only[zT,oP];exact qN (b:=40) (by decide) _
 ·rw[VF];simp only[zT,oP];exact qN (b:=40) (by decide) _
 ·rw[VG];simp only[zT,oP];exact qN (b:=40) (by decide) _
 ·rw[VH];simp only[zT,oP];exact qN (b:=40) (by decide) _
 ·rw[VI];simp only[zT,oP];exact qN (b:=40) (by decide) _
 ·rw[MN];simp only[zT,oP];exact qN (b:=60) (by decide) _
 ·rw[MO];simp only[zT,oP];exact qN (b:=126) (by decide) _
 ·rw[MP];simp only[zT,oP];exact qN (b:=40) (by decide) _
 ·rw[MQ];simp only[zT,oP];exact qN (b:=40) (by decide) _
end Go.Proofs.YtlaniepnglheoaaGreatDoor
set_option maxRecDepth 100000
namespace Go.Proofs.YtlaniepnglheoaaGreatDoor
open Go Go.Proofs Go.Proofs.Tryz Go.IntWalk
section
variable (sp:Bool) (T:Bl->Option (Tm × Bl)) (l:Bl)
theorem Nh:rx sp T ([33]++l)=mkF 4 [33] [] tZero tZero (wZ T [] [41] 1 true l):=by simp[rx,pre]
theorem Q5:rx sp T ([105,102,32]++l)=mkF 5 [] [] tZero tZero (wZ T [32] [41] 3 true l):=by simp[rx,pre]
theorem Nj:rx sp T ([114,117,110,32]++l)=mkF 12 [] [] tZero tZero (wZ T [] [41] 1 true l):=by simp[rx,pre]
theorem K0:rx sp T ([108,105,102,116,32]++l)=mkF 13 [] [] tZero tZero (wZ T [] [41] 1 true l):=by simp[rx,pre]
theorem JG:rx sp T ([108,101,116,32]++l)=JI T l:=by simp[rx,pre]
theorem Ng:rx sp T ([92]++l)=MW T l:=by simp[rx,pre]
theorem Ni:rx sp T ([114,101,99,32]++l)=JJ T l:=by simp[rx,pre]
theorem JH (h:Fst l):rx sp T l=Q6 sp T l:=by simp only[rx,h.a,h.b,h.c,h.d,h.e,h.f,h.g]
theorem AQ (n:Nat):v8 sp (n+1) ([40]++l)=rx sp (v8 sp n) l:=by simp[v8,pre]
theorem T7 (n:Nat):v8 sp (n+1) ([60]++l)=mkF 10 [] [] tZero tZero (wZ (v8 sp n) [] [62] 1 true l):=by simp[v8,pre]
theorem T8 (n:Nat):v8 sp (n+1) ([126]++l)=mkF 11 [] [] tZero tZero (wZ (v8 sp n) [] [] 1 true l):=by simp[v8,pre]
theorem YM (n:Nat):v8 sp (n+1) ([35,116]++l)=some (tBl 1,l):=by simp[v8,pre]
theorem YL (n:Nat):v8 sp (n+1) ([35,102]++l)=some (tBl 0,l):=by simp[v8,pre]
end
theorem Bs {c:UInt8}(h:idC c=false)(r:Bl):Stop ([c]++r):=vH h r
theorem qj {l:List Tm}(h:l.length=1):∃ a,l=[a]:=by
 match l,h with
 | [a],_=>exact⟨a,rfl⟩
theorem QZ {l:List Tm}(h:l.length=2):∃ a b,l=[a,b]:=by
 match l,h with
 | [a,b],_=>exact⟨a,b,rfl⟩
theorem Q7 (sp:Bool) {T:Bl->Option (Tm × Bl)} {a b:Tm} (I:RdT T a) (J:RdT T b) (c:UInt8) (hc:idC c=false) (r:Bl) :
  Q6 sp T (tmL a++(c::(tmL b++([41]++r))))=if c=32 then some (.mk 7 (bytes []) (bytes []) 0 tZero tZero [a,b],r)else if sp=true/\sc ⟨#[c]⟩≠2 then none else some (.mk 4 ⟨#[c]⟩ (bytes []) 0 tZero tZero [a,b],r):=by
 have O:∀ r,Stop ([41]++r:Bl):=λr=>vH (by decide) r;simp only[Q6,Nk,I _ (vH hc _),oO,J _ (O r),uH,oZ]
theorem Xx (sp:Bool):∀ t:Tm,t.ok=true->∀ n,t.dp<=n->RdT (v8 sp n) t:=by
 refine Tm.ind λk nm ot n ty re l ih ac m hm r hr=>?_;simp only[Tm.dp]at hm;cases m with
 | zero=>omega
 | succ m=>
 have nd:=MK ac;have I:=Sv nd;have J:=nd.ar;have sub:∀ t∈l,RdT (v8 sp m) t:=λt ht=>ih t ht (nd.sub t ht) m (by have:=vb ht;omega);have Y:∀ r:Bl,Stop ([41]++r):=λr=>vH (by decide) r;have ab:∀ r:Bl,Stop ((bytes [32]).data.toList++r):=λr=>vH (by decide) r;have zz:k≠6->k≠9->ty=tZero:=I.ty;show v8 sp (m+1) (tmL (.mk k nm ot n ty re l)++r)=_;unfold tmL;simp only[Tm.tx];have U:k≠1->k≠4->k≠6->k≠8->k≠9->nm=bytes []/\ot=bytes []:=λh1 h4 h6 h8 h9=>by
  have:=I.nm
  simp only[zw]at this;rw[if_neg h4,if_neg (by omega),if_neg h9]at this;simpa using this
 have aa:k=1\/k=6\/k=8->yK nm=true/\ot=bytes []:=λh=>by
  have:=I.nm
  simp only[zw]at this;rw[if_neg (by omega),if_pos h]at this;simpa using this
 have t0:∀ l:List Tm,(txs l).getD 0 (bytes [])=(match l with | []=>bytes [] | x::_=>x.tx):=λl=>by cases l<;>rfl
 rcases nd.kind with rfl | rfl | rfl | rfl | rfl | rfl | rfl | rfl | rfl | rfl | rfl | rfl | rfl
 ·obtain⟨h1,rfl⟩:=aa (.inl rfl);obtain rfl:=I.ty (by decide) (by decide);obtain rfl:=I.re (by decide);obtain rfl:=I.n (by decide) (by decide);obtain rfl:l=[]:=oV (by have:(l.length:Int)=0:=J;omega);rw[VB,VP sp m (nmL h1) hr];unfold tVr;rw[JA]
 ·obtain⟨rfl,rfl⟩:=U (by decide) (by decide) (by decide) (by decide) (by decide);obtain rfl:=I.ty (by decide) (by decide);obtain rfl:=I.re (by decide);obtain rfl:l=[]:=oV (by have:(l.length:Int)=0:=J;omega);have hn:=nd.num rfl;rw[VC];show v8 sp (m+1) (Lib.decDigits n.toNat++r)=_;rw[Wz sp m (by omega) hr];unfold TP;rw[Int.toNat_of_nonneg hn.1]
 ·obtain⟨rfl,rfl⟩:=U (by decide) (by decide) (by decide) (by decide) (by decide);obtain rfl:=I.ty (by decide) (by decide);obtain rfl:=I.re (by decide);obtain rfl:l=[]:=oV (by have:(l.length:Int)=0:=J;omega);rw[VD];rcases nd.bit rfl with rfl | rfl
  ·exact YL sp r m
  ·exact YM sp r m
 ·obtain rfl:=I.ty (by decide) (by decide);obtain rfl:=I.re (by decide);obtain rfl:=I.n (by decide) (by decide);have O:=I.nm;simp only[zw]at O;rw[if_pos trivial]at O;simp only[oK,oe]at O;obtain⟨h1,rfl⟩:=O;have J:(l.length:Int)=sc nm:=J;rw[Sx];rcases nd.op rfl with h | h
  ·obtain⟨a,rfl⟩:=qj h;obtain rfl:=Wr (show sc nm=1 by rw[<-J,h];rfl);rw[if_pos (by rfl)];have e:(bytes [40,33]++(txs [a]).getD 0 (bytes [])++bytes [41]).data.toList++r=[40]++([33]++(tmL a++([41]++r))):=by simp only[zT,oP];rfl
   rw[e,AQ,Nh,s9 (Y r) (sub a (by simp))];rfl
  ·obtain⟨a,b,rfl⟩:=QZ h;obtain⟨c,rfl,hc,ae⟩:=Qq (show sc nm=2 by rw[<-J,h];rfl);rw[if_neg (by simp[txs])];have e:(bytes [40]++(txs [a,b]).getD 0 (bytes [])++⟨#[c]⟩++(txs [a,b]).getD 1 (bytes [])++bytes [41]).data.toList++r=[40]++(tmL a++(c::(tmL b++([41]++r)))):=by simp only[zT,oP];rfl
   rw[e,AQ,JH _ _ _ (LE (nd.sub a (by simp)) (vH hc _)),Q7 sp (sub a (by simp)) (sub b (by simp)) c hc,if_neg ae,if_neg (by rw[<-J];simp)]
 ·obtain⟨rfl,rfl⟩:=U (by decide) (by decide) (by decide) (by decide) (by decide);obtain rfl:=I.ty (by decide) (by decide);obtain rfl:=I.re (by decide);obtain rfl:=I.n (by decide) (by decide);have hl:3=l.length:=by have:(l.length:Int)=3:=J;omega
  rw[VE];have e:(bytes [40,105,102,32]++vq (bytes [32]) (txs l)++bytes [41]).data.toList++r=[40]++([105,102,32]++((vq (bytes [32]) (txs l)).data.toList++([41]++r))):=by simp only[zT,oP];rfl
  rw[e,AQ,Q5]
  have:=Q4 ab (Y r) l sub hl
  rw[show(bytes [32]).data.toList=[32]from rfl]at this;rw[this];rfl
 ·obtain⟨h1,rfl⟩:=aa (.inr (.inl rfl));obtain rfl:=I.re (by decide);obtain rfl:=I.n (by decide) (by decide);obtain⟨a,rfl⟩:=qj (nd.one (by decide));have hv:=yM (nd.vt (.inl rfl));have hd:ty.dep<=8:=by have:=nd.vt (.inl rfl);simp only[Ty.valid,oK,oe]at this;omega
  rw[VF];have e:(bytes [40,92]++nm++bytes [58]++DA ty++bytes [46]++(txs [a]).getD 0 (bytes [])++bytes [41]).data.toList++r=[40]++([92]++(nm.data.toList++([58]++(tyL ty++([46]++(tmL a++([41]++r))))))):=by simp only[zT,oP];rfl
  rw[e,AQ,Ng,MW,(nmL h1).word (Bs (by decide) _)];simp only[uH,oO,MX hv.1 8 _ hd,s9 (Y r) (sub a (by simp)),mkF,oZ,JA];rfl
 ·obtain⟨rfl,rfl⟩:=U (by decide) (by decide) (by decide) (by decide) (by decide);obtain rfl:=I.ty (by decide) (by decide);obtain rfl:=I.re (by decide);obtain rfl:=I.n (by decide) (by decide);obtain⟨a,b,rfl⟩:=QZ (l:=l) (by have:(l.length:Int)=2:=J;omega);rw[VG];have e:(bytes [40]++vq (bytes [32]) (txs [a,b])++bytes [41]).data.toList++r=[40]++(tmL a++(32::(tmL b++([41]++r)))):=by simp only[txs,vq,qQ,zT,oP];rfl
  rw[e,AQ,JH _ _ _ (LE (nd.sub a (by simp)) (vH (by decide) _)),Q7 sp (sub a (by simp)) (sub b (by simp)) 32 (by decide),if_pos rfl]
 ·obtain⟨h1,rfl⟩:=aa (.inr (.inr rfl));obtain rfl:=I.ty (by decide) (by decide);obtain rfl:=I.re (by decide);obtain rfl:=I.n (by decide) (by decide);have hl:2=l.length:=by have:(l.length:Int)=2:=J;omega
  rw[VH];have e:(bytes [40,108,101,116,32]++nm++bytes [61]++vq (bytes [32]) (txs l)++bytes [41]).data.toList++r=[40]++([108,101,116,32]++(nm.data.toList++([61]++((vq (bytes [32]) (txs l)).data.toList++([41]++r))))):=by simp only[zT,oP];rfl
  rw[e,AQ,JG,JI,(nmL h1).word (Bs (by decide) _)]
  have:=Q4 ab (Y r) l sub hl
  rw[show(bytes [32]).data.toList=[32]from rfl]at this;simp only[uH,oO,this,mkF,oZ,JA];rfl
 ·obtain rfl:=I.n (by decide) (by decide);have O:=I.nm;simp only[zw]at O;rw[if_neg (by decide),if_neg (by decide),if_pos trivial]at O;simp only[oK]at O;obtain⟨h1,h2, -⟩:=O;obtain⟨a,rfl⟩:=qj (nd.one (by decide));have hv:=yM (nd.vt (.inr rfl));have ah:=yM (nd.vr rfl);have hd:ty.dep<=8:=by have:=nd.vt (.inr rfl);simp only[Ty.valid,oK,oe]at this;omega
  have ai:re.dep<=8:=by have:=nd.vr rfl;simp only[Ty.valid,oK,oe]at this;omega
  rw[VI];have e:(bytes [40,114,101,99,32]++nm++bytes [32]++ot++bytes [58]++DA ty++bytes [62]++DA re++bytes [46]++(txs [a]).getD 0 (bytes [])++bytes [41]).data.toList++r=[40]++([114,101,99,32]++(nm.data.toList++([32]++(ot.data.toList++([58]++(tyL ty++([62]++(tyL re++([46]++(tmL a++([41]++r))))))))))):=by simp only[zT,oP];rfl
  rw[e,AQ,Ni,JJ,(nmL h1).word (Bs (by decide) _)];simp only[uH,oO];rw[(nmL h2).word (Bs (by decide) _)];simp only[uH,oO,MX hv.1 8 _ hd,MX ah.1 8 _ ai,s9 (Y r) (sub a (by simp)),mkF,oZ,JA]
 ·obtain⟨rfl,rfl⟩:=U (by decide) (by decide) (by decide) (by decide) (by decide);obtain rfl:=I.ty (by decide) (by decide);obtain rfl:=I.re (by decide);obtain rfl:=I.n (by decide) (by decide);obtain⟨a,rfl⟩:=qj (nd.one (by decide));rw[MN];have e:(bytes [60]++(txs [a]).getD 0 (bytes [])++bytes [62]).data.toList++r=[60]++(tmL a++([62]++r)):=by simp only[zT,oP];rfl
  rw[e,T7,s9 (Bs (by decide) _) (sub a (by simp))];rfl
 ·obtain⟨rfl,rfl⟩:=U (by decide) (by decide) (by decide) (by decide) (by decide);obtain rfl:=I.ty (by decide) (by decide);obtain rfl:=I.re (by decide);obtain rfl:=I.n (by decide) (by decide);obtain⟨a,rfl⟩:=qj (nd.one (by decide));rw[MO];have e:(bytes [126]++(txs [a]).getD 0 (bytes [])).data.toList++r=[126]++(tmL a++([]++r)):=by simp only[zT,oP,oa];rfl
  rw[e,T8,s9 (e:=[]) hr (sub a (by simp))];rfl
 ·obtain⟨rfl,rfl⟩:=U (by decide) (by decide) (by decide) (by decide) (by decide);obtain rfl:=I.ty (by decide) (by decide);obtain rfl:=I.re (by decide);obtain rfl:=I.n (by decide) (by decide);obtain⟨a,rfl⟩:=qj (nd.one (by decide));rw[MP];have e:(bytes [40,114,117,110,32]++(txs [a]).getD 0 (bytes [])++bytes [41]).data.toList++r=[40]++([114,117,110,32]++(tmL a++([41]++r))):=by simp only[zT,oP];rfl
  rw[e,AQ,Nj,s9 (Y r) (sub a (by simp))];rfl
 ·obtain⟨rfl,rfl⟩:=U (by decide) (by decide) (by decide) (by decide) (by decide);obtain rfl:=I.ty (by decide) (by decide);obtain rfl:=I.re (by decide);obtain rfl:=I.n (by decide) (by decide);obtain⟨a,rfl⟩:=qj (nd.one (by decide));rw[MQ];have e:(bytes [40,108,105,102,116,32]++(txs [a]).getD 0 (bytes [])++bytes [41]).data.toList++r=[40]++([108,105,102,116,32]++(tmL a++([41]++r))):=by simp only[zT,oP];rfl
  rw[e,AQ,K0,s9 (Y r) (sub a (by simp))];rfl
theorem pc (l:Bl):(word l).1.length+(word l).2.length=l.length/\(word l).2 <:+ l:=by have h:=OG l;exact⟨by rw[<-oH,h],⟨_,h⟩⟩
theorem yT {p l r:Bl}(h:pre p l=some r):r.length+p.length=l.length/\r <:+ l:=by have e:=yG h;exact⟨by rw[e,oH];omega,⟨_,e.symm⟩⟩
theorem pU:∀ {n:Nat}{l:Bl}{t:Ty}{r:Bl},uc n l=some (t,r)->r.length+t.cnt<=l.length/\r <:+ l
 | 0,l,t,r,h=>by simp[uc]at h
 | n+1,l,t,r,h=>by
   simp only[uc]at h;split at h
   ·rename_i r0 I;simp only[oh,lP]at h;obtain⟨rfl,rfl⟩:=h;obtain⟨a,b⟩:=yT I;exact⟨by rw[<-a];exact oC _,b⟩
   split at h
   ·rename_i r0 I;simp only[oh,lP]at h;obtain⟨rfl,rfl⟩:=h;obtain⟨a,b⟩:=yT I;exact⟨by rw[<-a];exact oC _,b⟩
   split at h
   ·rename_i r0 I;obtain⟨⟨x,r1⟩,J,h⟩:=od.1 h;obtain⟨U,O,h⟩:=nU.1 h;cases h;obtain⟨a0,b0⟩:=yT I;obtain⟨a1,b1⟩:=pU J;obtain⟨a2,b2⟩:=yT O;have:(vI x).cnt=1+(x.cnt+0):=rfl;simp only[oJ,oN]at a0 a2;exact⟨by show _+(vI x).cnt<=_;omega,b2.trans (b1.trans b0)⟩
   ·obtain⟨r0,I,h⟩:=od.1 h;obtain⟨⟨x,r1⟩,J,h⟩:=od.1 h;obtain⟨U,O,h⟩:=od.1 h;obtain⟨⟨y,r3⟩,Y,h⟩:=od.1 h;obtain⟨r4,h4,h⟩:=nU.1 h;cases h;obtain⟨a0,b0⟩:=yT I;obtain⟨a1,b1⟩:=pU J;obtain⟨a2,b2⟩:=yT O;obtain⟨a3,b3⟩:=pU Y;obtain⟨a4,b4⟩:=yT h4;have:(wa x y).cnt=1+(x.cnt+(y.cnt+0)):=rfl;simp only[oJ,oN]at a0 a2 a4;exact⟨by show _+(wa x y).cnt<=_;omega,b4.trans (b3.trans (b2.trans (b1.trans b0)))⟩
def SfT (T:Bl->Option (Tm × Bl)):Prop:=∀ {l:Bl} {t:Tm} {r:Bl},T l=some (t,r)->t.cnt+3*r.length<=3*l.length+3/\r <:+ l
theorem pT {T:Bl->Option (Tm × Bl)}(J:SfT T){b e:Bl}:∀ {k:Nat}{f:Bool}{l:Bl}{ts:List Tm}{r:Bl},wZ T b e k f l=some (ts,r)->xQ ts+3*r.length+3*e.length<=3*l.length+3*k/\r <:+ l
 | 0,f,l,ts,r,h=>by simp only[wZ]at h;obtain⟨r0,I,h⟩:=nU.1 h;cases h;obtain⟨a0,b0⟩:=yT I;exact⟨by simp only[xQ];omega,b0⟩
 | k+1,f,l,ts,r,h=>by
   simp only[wZ]at h;obtain⟨r0,I,h⟩:=od.1 h;obtain⟨⟨x,r1⟩,O,h⟩:=od.1 h;obtain⟨⟨y,Y⟩,U,h⟩:=nU.1 h;cases h;obtain⟨a1,b1⟩:=J O;obtain⟨a2,b2⟩:=pT J U;have a0:r0.length<=l.length/\r0 <:+ l:=by
    cases f
    ·obtain⟨a,b⟩:=yT I;exact⟨by omega,b⟩
    ·simp at I;subst I;exact⟨oC _,List.suffix_refl _⟩
   simp only[xQ];simp only at a2;exact⟨by omega,b2.trans (b1.trans a0.2)⟩
theorem Bg {k:Int}{nm ot:Bl}{ty re:Ty}{x:Option (List Tm × Bl)}{t:Tm}{r:Bl}(h:mkF k nm ot ty re x=some (t,r)):∃ ts,x=some (ts,r)/\t.cnt=1+ty.cnt+re.cnt+xQ ts:=by obtain⟨⟨y,r1⟩,I,h⟩:=nU.1 h;cases h;exact⟨y,I,rfl⟩
theorem zc:tZero.cnt=1:=rfl
theorem S8 {sp:Bool}{T:Bl->Option (Tm × Bl)}(Y:SfT T){l:Bl}{t:Tm}{r:Bl}(h:rx sp T l=some (t,r)):t.cnt+3*r.length<=3*l.length+6/\r <:+ l:=by
 have form:∀ {k:Int} {p b nm ot l0:Bl} {m:Nat} {l:Bl},1<=p.length->m<=p.length->pre p l=some l0->mkF k nm ot tZero tZero (wZ T b [41] m true l0)=some (t,r)->t.cnt+3*r.length<=3*l.length+6/\r <:+ l:=λhp hm I h=>by obtain⟨a0,b0⟩:=yT I;obtain⟨ts,O,J⟩:=Bg h;obtain⟨a1,b1⟩:=pT Y O;rw[zc]at J;simp only[oJ,oN]at a1;exact⟨by omega,b1.trans b0⟩
 simp only[rx]at h;split at h
 ·rename_i I;exact form (by decide) (by decide) I h
 split at h
 ·rename_i I;exact form (by decide) (by decide) I h
 split at h
 ·rename_i I;exact form (by decide) (by decide) I h
 split at h
 ·rename_i I;exact form (by decide) (by decide) I h
 split at h
 ·rename_i r0 I;simp only[JI]at h;obtain⟨r1,O,h⟩:=od.1 h;obtain⟨a0,b0⟩:=yT I;obtain⟨aw,bw⟩:=pc r0
  have:=form (by decide) (m:=2) (p:=[61,61]) (l:=61::61::r1) (by decide) rfl h
  obtain⟨a1,b1⟩:=yT O;obtain⟨ts,J,U⟩:=Bg h;obtain⟨a2,b2⟩:=pT Y J;rw[zc]at U;simp only[oJ,oN]at a0 a1 a2;exact⟨by omega,b2.trans (b1.trans (bw.trans b0))⟩
 split at h
 ·rename_i r0 I;simp only[MW]at h;obtain⟨r1,O,h⟩:=od.1 h;obtain⟨⟨ty,r2⟩,J,h⟩:=od.1 h;obtain⟨r3,U,h⟩:=od.1 h;obtain⟨a0,b0⟩:=yT I;obtain⟨aw,bw⟩:=pc r0;obtain⟨a1,b1⟩:=yT O;obtain⟨a2,b2⟩:=pU J;obtain⟨a3,b3⟩:=yT U;obtain⟨ts,h4,h5⟩:=Bg h;obtain⟨a4,b4⟩:=pT Y h4;rw[zc]at h5;simp only[oJ,oN]at a0 a1 a3 a4;simp only at h5;exact⟨by omega,b4.trans (b3.trans (b2.trans (b1.trans (bw.trans b0))))⟩
 split at h
 ·rename_i r0 I;simp only[JJ]at h;obtain⟨m,hm,h⟩:=od.1 h;obtain⟨r1,O,h⟩:=od.1 h;obtain⟨⟨ty,r2⟩,J,h⟩:=od.1 h;obtain⟨r3,U,h⟩:=od.1 h;obtain⟨⟨re,r4⟩,h4,h⟩:=od.1 h;obtain⟨r5,h5,h⟩:=od.1 h;obtain⟨a0,b0⟩:=yT I;obtain⟨aw,bw⟩:=pc r0;obtain⟨am,bm⟩:=yT hm;obtain⟨av,bv⟩:=pc m;obtain⟨a1,b1⟩:=yT O;obtain⟨a2,b2⟩:=pU J;obtain⟨a3,b3⟩:=yT U;obtain⟨a4,b4⟩:=pU h4;obtain⟨a5,b5⟩:=yT h5;obtain⟨ts,h6,h7⟩:=Bg h;obtain⟨a6,b6⟩:=pT Y h6;simp only[oJ,oN]at a0 am a1 a3 a5 a6;simp only at h7;exact⟨by omega,b6.trans (b5.trans (b4.trans (b3.trans (b2.trans (b1.trans (bv.trans (bm.trans (bw.trans b0))))))))⟩
 ·simp only[Q6]at h;obtain⟨⟨x,r0⟩,I,h⟩:=od.1 h;obtain⟨a0,b0⟩:=Y I;simp only at h;cases r0 with
  | nil=>simp[Nk]at h
  | cons c r1=>
  simp only[Nk]at h;have aa:∀ {k:Int} {nm ot:ByteArray},((T r1).bind λy=>(pre [41] y.2).map λr=>(Tm.mk k nm ot 0 tZero tZero [x,y.1],r))=some (t,r)->t.cnt+3*r.length<=3*l.length+6/\r <:+ l:=λh=>by obtain⟨⟨y,r2⟩,J,h⟩:=od.1 h;obtain⟨r3,U,h⟩:=nU.1 h;cases h;obtain⟨a2,b2⟩:=Y J;obtain⟨a3,b3⟩:=yT U;simp only[oJ,oN]at a0 a3;simp only[Tm.cnt,xQ,zc];exact⟨by omega,b3.trans (b2.trans ((List.suffix_cons _ _).trans b0))⟩
  split at h
  ·exact aa h
  split at h
  ·cases h
  ·exact aa h
theorem R7 {sp:Bool}{l:Bl}{t:Tm}{r:Bl}(h:Lj sp l=some (t,r)):t.cnt+3*r.length<=3*l.length+3/\r <:+ l:=by
 obtain⟨J,I⟩:=pc l;have c1:∀ n,(TP n).cnt=3:=λ_=>rfl;have c2:∀ w,(tVr w).cnt=3:=λ_=>rfl;have n1:∀ n,some (TP n,(word l).2)=some (t,r)->t.cnt+3*r.length<=3*l.length+3/\r <:+ l:=λn h=>by cases h;rw[c1];exact⟨by omega,I⟩
 have n2:∀ w,some (tVr w,(word l).2)=some (t,r)->t.cnt+3*r.length<=3*l.length+3/\r <:+ l:=λn h=>by cases h;rw[c2];exact⟨by omega,I⟩
 unfold Lj at h;split at h
 ·cases h
 cases sp
 ·simp only at h;split at h
  ·exact n1 _ h
  split at h
  ·cases h
  ·exact n2 _ h
 ·simp only at h;split at h
  ·obtain⟨n,_,h⟩:=nU.1 h;exact n1 n (oY some h)
  ·exact n2 _ h
theorem T9 (sp:Bool):∀ n:Nat,SfT (v8 sp n)
 | 0,l,t,r,h=>by simp[v8]at h
 | n+1,l,t,r,h=>by
   have J:SfT (v8 sp n):=T9 sp n;simp only[v8]at h;have bl:∀ {p r0:Bl} {b:Int},p.length=2->pre p l=some r0->some (tBl b,r0)=some (t,r)->t.cnt+3*r.length<=3*l.length+3/\r <:+ l:=λY I h=>by cases h;obtain⟨a0,b0⟩:=yT I;exact⟨by show 3+_<=_;omega,b0⟩
   split at h
   ·rename_i I;exact bl rfl I h
   split at h
   ·rename_i I;exact bl rfl I h
   have un:∀ {c:UInt8} {k:Int} {e r0:Bl},pre [c] l=some r0->mkF k [] [] tZero tZero (wZ (v8 sp n) [] e 1 true r0)=some (t,r)->t.cnt+3*r.length<=3*l.length+3/\r <:+ l:=λI h=>by obtain⟨a0,b0⟩:=yT I;obtain⟨ts,O,U⟩:=Bg h;obtain⟨a1,b1⟩:=pT J O;rw[zc]at U;simp only[oJ,oN]at a0;exact⟨by omega,b1.trans b0⟩
   split at h
   ·rename_i I;exact un I h
   split at h
   ·rename_i I;exact un I h
   split at h
   ·rename_i r0 I;obtain⟨a0,b0⟩:=yT I;obtain⟨a1,b1⟩:=S8 J h;simp only[oJ,oN]at a0;exact⟨by omega,b1.trans b0⟩
   ·exact R7 h
end Go.Proofs.YtlaniepnglheoaaGreatDoor
set_option maxRecDepth 100000
namespace Go.Proofs.YtlaniepnglheoaaGreatDoor
open Go Go.Proofs Go.Proofs.Tryz Go.IntWalk
structure Atl (s:ByteArray) (n:Int) (l:Bl):Prop where
 sz:s.size<=1073741824
 lo:0<=n
 hi:n<=s.size
 eq:s.data.toList.drop n.toNat=l
theorem Atl.len {s:ByteArray}{n:Int}{l:Bl}(h:Atl s n l):(l.length:Int)=s.size - n:=by
 have I:=h.lo;have J:=h.hi;have:s.data.toList.length=s.size:=by simp
 rw[<-h.eq,mW];omega
theorem Atl.app {s:ByteArray}{n:Int}{l p r:Bl}(h:Atl s n l)(e:l=p++r){m:Int}(I:m=n+p.length):Atl s m r:=by subst e;have J:=h.len;have O:=h.lo;rw[oH]at J;refine⟨h.sz,by omega,by omega,?_⟩;rw[I,show(n+(p.length:Int)).toNat=n.toNat+p.length by omega,<-List.drop_drop,h.eq,List.drop_left]
theorem Atl.get {s:ByteArray}{n:Int}{c:UInt8}{l:Bl}(h:Atl s n (c::l)):s.data.getD n.toNat (OfNat.ofNat 0)=c:=by
 have I:s.data.toList[n.toNat]?=some c:=by
  have:=oY List.head? h.eq
  rw[List.head?_drop]at this;simpa using this
 rw[o9,<-nN,I];rfl
theorem Atl.nil {s:ByteArray}{n:Int}{l:Bl}(h:Atl s n l):l=[]↔n=s.size:=by
 have:=h.len
 constructor
 ·intro e;rw[e]at this;simp at this;omega
 ·intro e;exact oV (by omega)
theorem pG (s:ByteArray)(a b:Nat):(s.extract a b).data.toList=(s.data.toList.drop a).take (b - a):=by rw[ByteArray.data_extract,Array.toList_extract,List.extract_eq_take_drop]
theorem Atl.ext {s:ByteArray}{n:Int}{l:Bl}(h:Atl s n l)(k:Nat){m:Int}(I:m=n+k):(s.extract n.toNat m.toNat).data.toList=l.take k:=by have J:=h.lo;rw[pG,h.eq,I,show(n+(k:Int)).toNat - n.toNat=k by omega]
theorem Ef {p l:Bl}:l.take p.length=p↔∃ r,pre p l=some r:=by
 constructor
 ·intro e;refine⟨l.drop p.length,?_⟩
  conv=>lhs;rw[<-ni p.length l,e]
  exact uH _ _
 ·rintro⟨r,e⟩
  rw[yG e,List.take_left]
theorem Qw {p l:Bl}(h:l.length<p.length):pre p l=none:=by
 cases e:pre p l with
 | none=>rfl
 | some r=>have:=yG e;rw[this,oH]at h;omega
abbrev bl (t:ByteArray):Bl:=t.data.toList
theorem wy (t:ByteArray):(bl t).length=t.size:=by simp
inductive Rd {α:Type} (is:α->D->Prop) (s:ByteArray) (b:Bool) (m:Option (α × Bl)):D->Int->Bool->Prop
 | ok {t:α} {r:Bl} {d:D} {n:Int}:b=false->m=some (t,r)->is t d->Atl s n r->Rd is s b m d n false
 | no {l:Bl} {d:D} {n:Int}:b=true\/m=none->Atl s n l->Rd is s b m d n true
theorem vw {s:ByteArray} {n:Int} {l:Bl} (J:Atl s n l) (t:ByteArray) (ht:t.size<=100) (b:Bool) (N:Nat) (Q:QT [.bool,.str,.i,.bool])
  (h1:∀ r n' N',N<=N'->b=false->pre (bl t) l=some r->Atl s n' r->Q true s n' b N') (U:∀ N',N<=N'->(b=true\/pre (bl t) l=none)->Q false s n b N') :
  BCalls prog 79 [.bool,.str,.i,.bool] [.pb 0 0 0 0,.str t] [.var [.str s,.j n,.bool b]] N Q:=by
 have g1:=J.lo;have g2:=J.hi;have g3:=J.sz;have hl:=J.len;have e:IntKind.i64.wrap (n+(t.size:Int))=n+t.size:=i64_in _ (by omega);refine EP N t s n b Q λE=>Br.of (λY=>⟨yY,λN1 I=>U _ I (.inl Y)⟩) λY=>?_;rw[e];refine Br.dec (λhg=>⟨yY,λN1 I=>U _ I (.inr (Qw (by rw[wy];omega)))⟩) λhg=>⟨⟨g1,by omega,by omega⟩,Br.nstr (λhn=>⟨yY,λN1 I=>U _ I (.inr ?_)⟩) λhe=>⟨yY,λN1 I=>?_⟩⟩
 ·cases O:pre (bl t) l with
  | none=>rfl
  | some r=>exact absurd (z8 ((J.ext (bl t).length (by rw[wy])).trans (Ef.2 ⟨r,O⟩))) hn
 ·obtain⟨r,O⟩:=Ef.1 ((J.ext (bl t).length (by rw[wy])).symm.trans (oY bl he));exact h1 r _ _ I Y O (J.app (yG O) (by rw[wy]))
theorem tg {s:ByteArray} {n:Int} {l:Bl} (hr:Atl s n l) (t:ByteArray) (ht:t.size<=100) (b:Bool) (N:Nat) (Q:QT [.str,.i,.bool])
  (h1:∀ r n' N',N<=N'->b=false->pre (bl t) l=some r->Atl s n' r->Q s n' false N') (h0:∀ N',N<=N'->(b=true\/pre (bl t) l=none)->Q s n true N') :
  BCalls prog 81 [.str,.i,.bool] [.pb 0 0 0 0,.str t] [.var [.str s,.j n,.bool b]] N Q:=
 EO N t s n b Q λE=>Br.of (λJ=>by subst J;exact⟨yY,λN1 I=>h0 _ I (.inl rfl)⟩) λ_ N1 I=>vw hr t ht b N1 _ (λr n' N2 O J U Y _=>⟨yY,λN3 aa=>h1 r _ _ (by omega) J U Y⟩) λN2 O U _=>⟨yY,λN3 aa=>h0 _ (by omega) U⟩
theorem H5 {s:ByteArray} {n:Int} {l:Bl} (Y:Atl s n l) (b:Bool) (N:Nat) (Q:QT [.str,.str,.i,.bool])
  (hQ:∀ n' N',N<=N'->Atl s n' (word l).2->Q ⟨(word l).1.toArray⟩ s n' b N'):BCalls prog 84 [.str,.str,.i,.bool] [.pb 0 0 0 0] [.var [.str s,.j n,.bool b]] N Q:=by
 have g1:=Y.lo;have g2:=Y.hi;have g3:=Y.sz;refine EQ N s n b Q λE=>?_;have key:∀(l1 p:Bl) (k:Int),Atl s k l1->l=p++l1->k=n+p.length->(∀ c∈p,idC c=true)->ye E Q N n s k b N:=by
  intro l1;have out:∀(l1 p:Bl) (k:Int),Atl s k l1->l=p++l1->k=n+p.length->(∀ c∈p,idC c=true)->Stop l1->(0<=n/\n<=k/\k<=(s.size:Int))/\zZ E [.var [.str (bytes []),.j 0,.bool false]]/\∀ N1,N<=N1->Q (ByteArray.extract s n.toNat k.toNat) s k b N1:=λl1 p k I J hn O hs=>by
   have k2:=I.hi;refine⟨⟨g1,by omega,k2⟩,yY,λN1 ab=>?_⟩;have hw:word l=(p,l1):=by rw[J];exact Eh p l1 O hs
   have hx:ByteArray.extract s n.toNat k.toNat=⟨p.toArray⟩:=z8 (by rw[Y.ext p.length hn,J,List.take_left]);rw[hx]
   have:=hQ k N1 ab
   rw[hw]at this;exact this I
  induction l1 with
  | nil=>
    intro p k I J hn O
    have:=(I.nil).1 rfl
    exact qc _ _ _ _ _ _ _ _ (Br.dec (λh=>by omega) λ_=>out _ p k I J hn O λc r e=>by cases e)
  | cons c l1 ih=>
    intro p k I J hn O;have hg:=I.get;have aa:=I.len;have k1:=I.lo;simp only[oJ]at aa;have U:0<=k/\k<(s.size:Int):=⟨k1,by omega⟩
    have nx:idC c=true->ye E Q N n s (IntKind.i64.wrap (k+1)) b N:=λhc=>by
     rw[i64_in (k+1) (by omega)];refine ih (p++[c]) (k+1) (I.app (p:=[c]) rfl rfl) (by rw[J,oP];rfl) (by rw[oH];simp only[oJ,oN];omega) λx hx=>?_;rcases oM.1 hx with hx | hx
     ·exact O x hx
     ·rw[o5.1 hx];exact hc
    have ot:idC c=false->_:=λhc=>out _ p k I J hn O (vH hc l1);have ci:∀ P:Prop,(idC c=true->P)->(48<=c.toNat/\c.toNat<=57\/97<=c.toNat/\c.toNat<=122)->P:=λP h g=>h (by unfold idC;exact nk g);have cn:∀ P:Prop,(idC c=false->P)->¬(48<=c.toNat/\c.toNat<=57\/97<=c.toNat/\c.toNat<=122)->P:=λP h g=>h (by unfold idC;exact mB g);refine qc _ _ _ _ _ _ _ _ (Br.dec (λ_=>?_) λh=>by omega);rw[hg];exact⟨U,Br.dec (λa1=>⟨U,Br.dec (λa2=>ci _ nx (by omega)) λa2=>⟨U,Br.dec (λa3=>⟨U,Br.dec (λa4=>ci _ nx (by omega)) λa4=>cn _ ot (by omega)⟩) λa3=>cn _ ot (by omega)⟩⟩) λa1=>⟨U,Br.dec (λa3=>⟨U,Br.dec (λa4=>ci _ nx (by omega)) λa4=>cn _ ot (by omega)⟩) λa3=>cn _ ot (by omega)⟩⟩
 exact key l [] n Y rfl (by simp) (by simp)
theorem Wx:∀(j:Nat),j<=8->∀(n1:Int),n1+j=9->∀ {s:ByteArray} {n:Int} {l:Bl} (_:Atl s n l) (b:Bool) (N:Nat) (Q:QT [.ag 2,.str,.i,.bool])
  (_:∀ d n' b' N',N<=N'->Rd Ty.Is s b (uc j l) d n' b'->Q d s n' b' N'),BCalls prog 144 [.ag 2,.str,.i,.bool] [.pb 0 0 0 0,.j n1] [.var [.str s,.j n,.bool b]] N Q:=by
 intro j
 induction j with
 | zero=>intro _ n1 bq s n l hr b N Q J;exact rl N n1 s n b Q λE=>Br.of (λhb=>by subst hb;exact⟨yY,λN1 ab=>J _ _ _ _ ab (.no (.inl rfl) hr)⟩) λ_=>Br.dec (λh=>⟨yY,λN1 ab=>J _ _ _ _ ab (by rw[nk h];exact .no (.inr rfl) hr)⟩) λh=>by omega
 | succ j ih=>
   intro hj n1 bq s n l hr b N Q J;have e1:IntKind.i64.wrap (n1+1)=n1+1:=i64_in _ (by omega);refine rl N n1 s n b Q λE=>Br.of (λhb=>by subst hb;exact⟨yY,λN1 ab=>J _ _ _ _ ab (.no (.inl rfl) hr)⟩) λhb=>Br.dec (λ_=>by omega) λh8 N1 ab=>?_;subst hb;rw[mB h8];refine vw hr _ (by decide) _ N1 _ (λr n2 N2 bt _ hp bv _=>?_) λN2 bt hp _=>?_
   ·exact Br.of (λ_ N3 bw=>qI N3 _ λy N4 a8 hy _ _ _=>⟨yY,λN5 ba=>J _ _ _ _ (by omega) (.ok rfl (by simp only[uc];rw[show pre [73] l=_ from hp]) hy bv)⟩) λh=>by cases h
   have hp:=hp.resolve_left (by simp);refine Br.of (λh=>by cases h) λ_ N3 bw=>vw hr _ (by decide) _ N3 _ (λr n4 N4 a8 _ hq bz _=>?_) λN4 a8 hq _=>?_
   ·exact Br.of (λ_ N5 ba=>sn N5 _ λy N6 bb hy _ _ _=>⟨yY,λN7 bc=>J _ _ _ _ (by omega) (.ok rfl (by simp only[uc];rw[show pre [73] l=_ from hp,show pre [66] l=_ from hq]) hy bz)⟩) λh=>by cases h
   have hq:=hq.resolve_left (by simp);refine Br.of (λh=>by cases h) λ_ N5 ba=>vw hr _ (by decide) _ N5 _ (λr n6 N6 bb _ hu b3 _=>Br.of (λ_ N7 bc=>?_) λh=>by cases h) λN6 bb hu _=>Br.of (λh=>by cases h) λ_ N7 bc=>?_
   ·have em:uc (j+1) l=(uc j r).bind λx=>(pre [62] x.2).map λr=>(vI x.1,r):=by simp only[uc];rw[show pre [73] l=_ from hp,show pre [66] l=_ from hq,show pre [60] l=_ from hu]
    rw[em]at J;rw[e1];refine ih (by omega) (n1+1) (by omega) b3 _ N7 _ λd n8 b8 N8 bd hd _ _ N9 bg=>?_;cases hd with
    | @ok t r8 _ _ _ hm hd Y=>rw[hm]at J;refine tg Y _ (by decide) _ N9 _ (λah bh al aa _ hv I _=>⟨⟨rfl,rfl⟩,⟨rfl,rfl⟩,⟨rfl,rfl⟩,⟨rfl,rfl⟩,⟨rfl,rfl⟩,λa ai aj _=>⟨yY,λac O=>J _ _ _ _ (by omega) (.ok rfl (by rw[oO];show(pre [62] r8).map _=_;rw[show pre [62] r8=_ from hv];rfl) (show(vI t).Is _ from Ty.is_mk.2 ⟨_,_,_,rfl,by simp,d,[],rfl,hd,rfl⟩) I)⟩⟩) λal aa hv _=>⟨⟨rfl,rfl⟩,⟨rfl,rfl⟩,⟨rfl,rfl⟩,⟨rfl,rfl⟩,⟨rfl,rfl⟩,λa ai aj _=>⟨yY,λac O=>J _ _ _ _ (by omega) (.no (.inr (by rw[oO];show(pre [62] r8).map _=_;rw[show pre [62] r8=_ from hv.resolve_left (by simp)];rfl)) Y)⟩⟩
    | no hm Y=>have hm:=hm.resolve_left (by simp);rw[hm]at J;exact tg Y _ (by decide) _ N9 _ (λah bh al aa h=>by cases h) λal aa hv _=>⟨⟨rfl,rfl⟩,⟨rfl,rfl⟩,⟨rfl,rfl⟩,⟨rfl,rfl⟩,⟨rfl,rfl⟩,λa ai aj _=>⟨yY,λac O=>J _ _ _ _ (by omega) (.no (.inr rfl) Y)⟩⟩
   ·have hu:=hu.resolve_left (by simp);have em:uc (j+1) l=(pre [40] l).bind λr=>(uc j r).bind λx=>(pre [62] x.2).bind λr=>(uc j r).bind λy=>(pre [41] y.2).map λr=>(wa x.1 y.1,r):=by simp only[uc];rw[show pre [73] l=_ from hp,show pre [66] l=_ from hq,show pre [60] l=_ from hu]
    rw[em]at J;refine tg hr _ (by decide) _ N7 _ (λr8 n8 N8 bd _ hv Y _=>Br.of (λh=>by cases h) λ_ N9 bg=>?_) λN8 bd hv _=>Br.of (λ_=>⟨yY,λN9 bg=>J _ _ _ _ (by omega) (.no (.inr (by rw[show pre [40] l=_ from hv.resolve_left (by simp)];rfl)) hr)⟩) λh=>by cases h
    rw[show pre [40] l=_ from hv,oO]at J;rw[e1];refine ih (by omega) (n1+1) (by omega) Y _ N9 _ λd bh cf al aa hd _ _ ai aj=>?_;cases hd with
    | @ok t ah _ _ _ hm hd I=>
      rw[hm,oO]at J;refine tg I _ (by decide) _ ai _ (λb7 b9 ac O _ ao bi _=>Br.of (λh=>by cases h) λ_ az aw=>?_) λac O ao _=>Br.of (λ_=>⟨yY,λaz aw=>J _ _ _ _ (by omega) (.no (.inr (by show(pre [62] ah).bind _=_;rw[show pre [62] ah=_ from ao.resolve_left (by simp)];rfl)) I)⟩) λh=>by cases h
      have ae:=J;simp only[show pre [62] ah=_ from ao,oO]at ae;refine ih (by omega) (n1+1) (by omega) bi _ az _ λe cg ch cj cd he _ _ bj ce=>?_;cases he with
      | @ok u aq _ _ _ a6 he U=>rw[a6,oO]at ae;refine tg U _ (by decide) _ bj _ (λca cc a7 ak _ au bm _=>⟨⟨rfl,rfl⟩,⟨rfl,rfl⟩,⟨rfl,rfl⟩,λa bn ax _=>⟨yY,λbp ay=>ae _ _ _ _ (by omega) (.ok rfl (by show(pre [41] aq).map _=_;rw[show pre [41] aq=_ from au];rfl) (show(wa t u).Is _ from Ty.is_mk.2 ⟨_,_,_,rfl,by simp,d,[e],rfl,hd,e,[],rfl,he,rfl⟩) bm)⟩⟩) λa7 ak au _=>⟨⟨rfl,rfl⟩,⟨rfl,rfl⟩,⟨rfl,rfl⟩,λa bn ax _=>⟨yY,λbp ay=>ae _ _ _ _ (by omega) (.no (.inr (by show(pre [41] aq).map _=_;rw[show pre [41] aq=_ from au.resolve_left (by simp)];rfl)) U)⟩⟩
      | no a6 U=>rw[a6.resolve_left (by simp)]at ae;exact tg U _ (by decide) _ bj _ (λca cc a7 ak h=>by cases h) λa7 ak au _=>⟨⟨rfl,rfl⟩,⟨rfl,rfl⟩,⟨rfl,rfl⟩,λa bn ax _=>⟨yY,λbp ay=>ae _ _ _ _ (by omega) (.no (.inr rfl) U)⟩⟩
    | no hm I=>rw[hm.resolve_left (by simp)]at J;exact tg I _ (by decide) _ ai _ (λb7 b9 ac O h=>by cases h) λac O ao _=>Br.of (λ_=>⟨yY,λaz aw=>J _ _ _ _ (by omega) (.no (.inr rfl) I)⟩) λh=>by cases h
end Go.Proofs.YtlaniepnglheoaaGreatDoor
set_option maxRecDepth 100000
namespace Go.Proofs.YtlaniepnglheoaaGreatDoor
open Go Go.Proofs Go.Proofs.Tryz Go.IntWalk
theorem hdz {nm ot:ByteArray}(I:nm.size<=4611686018427387904)(J:ot.size<=4611686018427387904):Tm.Hd nm ot tZero tZero (.j 0) (.sl none 2 [] 0) (.j 0) (.sl none 2 [] 0):=⟨I,J,vQ 0,vQ 0⟩
theorem sy (k n:Int){s:ByteArray}(hs:s.size<=4611686018427387904):(Tm.mk k s (bytes []) n tZero tZero []).Is (.ag [.j k,.t s,.t (bytes []),.j n,.j 0,.sl none 2 [] 0,.j 0,.sl none 2 [] 0,.sl none 9 [] 0]):=
 Tm.is_mk.2 ⟨_,_,_,_,_,_,_,rfl,hdz hs (by decide),by simp,rfl⟩
theorem tG {s:ByteArray}{n:Int}{l:Bl}(h:Atl s n l):(⟨(word l).1.toArray⟩:ByteArray).size<=1073741824:=by have I:=h.len;have J:=h.lo;have O:=h.sz;have U:=(pc l).1;show(word l).1.toArray.size<=_;rw[nq];omega
theorem WE (T:Bl->Option (Tm × Bl))(b e l:Bl):wZ T b e 1 true l=(T l).bind λx=>(pre e x.2).map λr=>([x.1],r):=by
 simp only[wZ,mF,oO];cases T l with
 | none=>rfl
 | some x=>simp only[oO];cases pre e x.2<;>rfl
def KL (dep:Int)(T:Bl->Option (Tm × Bl)):Prop:=∀(s:ByteArray) (n:Int) (l:Bl) (b:Bool) (N:Nat) (Q:QT [.ag 9,.str,.i,.bool]),Atl s n l->(∀ d n' b' N',N<=N'->Rd Tm.Is s b (T l) d n' b'->Q d s n' b' N')->BCalls prog 38 [.ag 9,.str,.i,.bool] [.pb 0 0 0 0,.j dep] [.var [.str s,.j n,.bool b]] N Q
structure Ar (T:Bl->Option (Tm × Bl)) (s:ByteArray) (b:Bool) (m:Nat) (l:Bl) (j:Nat) (n1:Int) (b1:Bool) (l0 ts:List Tm) (es:List D):Prop where
 at_:∃ l1,Atl s n1 l1/\(b1=false->b=false/\wZ T [32] [41] m true l=(wZ T [32] [41] j false l1).map fun y=>(ts++y.1,y.2))
 bad:b1=true->b=true\/wZ T [32] [41] m true l=none
 es:b1=false->All2 Tm.Is (l0++ts) es
theorem Ar.next {T:Bl->Option (Tm × Bl)}{s:ByteArray}{b:Bool}{m:Nat}{l l2:Bl}{j:Nat}{l0 ts:List Tm}{es:List D}(hb:b=false)(h:wZ T [32] [41] m true l=((T l2).bind λx=>(wZ T [32] [41] j false x.2).map λy=>(x.1::y.1,y.2)).map λy=>(ts++y.1,y.2))(J:All2 Tm.Is (l0++ts) es){x:D}{n3:Int}{b3:Bool}(O:Rd Tm.Is s false (T l2) x n3 b3):∃ U,Ar T s b m l j n3 b3 l0 U (es++[x]):=by
 cases O with
 | @ok t r _ _ _ Y O I=>refine⟨ts++[t],⟨r,I,λ_=>⟨hb,?_⟩⟩,by simp,λ_=>by rw[<-oP];exact J.snoc O⟩;rw[h,Y,oO,Option.map_map];congr 1;funext y;simp
 | no Y I=>refine⟨[],⟨_,I,by simp⟩,λ_=>.inr ?_,by simp⟩;rw[h,Y.resolve_left (by simp)];rfl
theorem Qz {dep:Int} {T:Bl->Option (Tm × Bl)} (hT:KL dep T) {k m:Int} {nm ot:ByteArray} {ty re:Ty} {t0 t1 r0 r1:D} (hh:Tm.Hd nm ot ty re t0 t1 r0 r1) {l0:List Tm} {es0:List D} (h0:All2 Tm.Is l0 es0) (az:es0.length<=1) {a0:Option Addr} {c0:Nat} (al:∀ x,Vm a0 es0 c0 [x])
  (n2:Nat) (a6:1<=n2/\n2<=3) {s:ByteArray} {n:Int} {l:Bl} (hr:Atl s n l) (b:Bool) (N:Nat) (Q:QT [.ag 9,.str,.i,.bool])
  (hQ:∀ d n' b' N',N<=N'->Rd (λts d=>(Tm.mk k nm ot m ty re (l0++ts)).Is d) s b (wZ T [32] [41] n2 true l) d n' b'->Q d s n' b' N'):BCalls prog 145 [.ag 9,.str,.i,.bool] [.pb 0 0 0 0,.dg 9 (.ag [.j k,.t nm,.t ot,.j m,t0,t1,r0,r1,.sl a0 9 es0 c0]),.j (n2:Int),.j dep] [.var [.str s,.j n,.bool b]] N Q:=by
 refine rm N _ n2 dep s n b Q λE _=>?_;have O:∀ {j:Nat} {ts:List Tm} {es:List D} {n1:Int} {b1:Bool},Ar T s b n2 l j n1 b1 l0 ts es->b1=true\/j=0->es.length<=10->∀(N1:Nat) (Q1:QT [.str,.i,.bool]),(∀ n' b' N2,N1<=N2->(∀ a c,Rd (λts d=>(Tm.mk k nm ot m ty re (l0++ts)).Is d) s b (wZ T [32] [41] n2 true l) (.ag [.j k,.t nm,.t ot,.j m,t0,t1,r0,r1,.sl a 9 es c]) n' b')->Q1 s n' b' N2)->BCalls prog 81 [.str,.i,.bool] [.pb 0 0 0 0,.str (bytes [41])] [.var [.str s,.j n1,.bool b1]] N1 Q1:=λ{j ts es n1 b1} U hj aj N1 Q1 ak=>by
  obtain⟨l1,Y,ab⟩:=U.at_;refine tg Y _ (by decide) _ N1 _ (λr n' N2 I hb hp ao=>ak _ _ _ I λa c=>?_) λN2 I hp=>ak _ _ _ I λa c=>.no ?_ Y
  ·obtain⟨h1,h2⟩:=ab hb;obtain rfl:=hj.resolve_left (by simp[hb]);refine .ok h1 (t:=ts) (r:=r) ?_ (Tm.is_mk.2 ⟨_,_,_,_,_,_,_,rfl,hh,by omega,U.es hb⟩) ao;rw[h2];simp only[wZ];rw[show pre [41] l1=_ from hp];simp
  ·cases b1 with
   | true=>exact U.bad rfl
   | false=>obtain⟨h1,h2⟩:=ab rfl;obtain rfl:=hj.resolve_left (by simp);refine .inr ?_;rw[h2];simp only[wZ];rw[show pre [41] l1=_ from hp.resolve_left (by simp)];rfl
 have ai:∀(es:List D) (x:D),es.length<=10->zB es [x] 136:=λes x h=>by unfold zB;rw[oH];simp only[oJ,oN];omega
 have key:∀(j:Nat) (k9:Int) (n1:Int) (b1:Bool) (ts:List Tm) (es:List D) (q N':Nat),k9+j=n2->1<=k9->Ar T s b n2 l j n1 b1 l0 ts es->(es.length:Int)<=1+k9->N<=N' ->
   zm E Q N n2 dep k9 s n1 b1 (.j k) (.t nm) (.t ot) (.j m) t0 t1 r0 r1 es.length q 0 (bytes []) (bytes []) 0 0 none [] 0 0 none [] 0 none [] 0 es q N':=by
  intro j
  induction j with
  | zero=>intro k9 n1 b1 ts es q N' hk aq U aj au;refine vB _ _ _ _ _ _ _ _ _ _ _ _ _ _ _ _ _ _ _ _ _ _ _ _ _ _ _ _ _ _ _ _ _ _ _ _ _ (Br.dec (λh=>by omega) λ_ N1 ac=>O U (.inr rfl) (by omega) N1 _ λn' b' N2 I hR _=>⟨⟨rfl,rfl⟩,⟨rfl,rfl⟩,⟨rfl,rfl⟩,λa N3 ae _=>⟨yY,λN4 ah=>hQ _ _ _ _ (by omega) (hR a q)⟩⟩)
  | succ j ih=>
    intro k9 n1 b1 ts es q N' hk aq U aj au;have e1:IntKind.i64.wrap (k9+1)=k9+1:=i64_in _ (by omega);cases b1 with
    | true=>refine vB _ _ _ _ _ _ _ _ _ _ _ _ _ _ _ _ _ _ _ _ _ _ _ _ _ _ _ _ _ _ _ _ _ _ _ _ _ (Br.dec (λ_=>Br.of (λh=>by simp at h) λ_ N1 ac=>O U (.inl rfl) (by omega) N1 _ λn' b' N2 I hR _=>⟨⟨rfl,rfl⟩,⟨rfl,rfl⟩,⟨rfl,rfl⟩,λa N3 ae _=>⟨yY,λN4 ah=>hQ _ _ _ _ (by omega) (hR a q)⟩⟩) λh=>by omega)
    | false=>
      obtain⟨l1,Y,ab⟩:=U.at_;obtain⟨hb,hM⟩:=ab rfl;have aw:=U.es rfl;have nx:∀(J:List Tm) (x:D) (n3:Int) (b3:Bool) (N3 c1:Nat),N<=N3->Ar T s b n2 l j n3 b3 l0 J (es++[x])->zm E Q N n2 dep (IntKind.i64.wrap (k9+1)) s n3 b3 (.j k) (.t nm) (.t ot) (.j m) t0 t1 r0 r1 (es++[x]).length c1 0 (bytes []) (bytes []) 0 0 none [] 0 0 none [] 0 none [] 0 (es++[x]) c1 N3:=λJ x n3 b3 N3 c1 h aa=>by rw[e1];exact ih (k9+1) n3 b3 J (es++[x]) c1 N3 (by omega) (by omega) aa (by rw[oH];simp only[oJ,oN];omega) h
      simp only[wZ,mE,na]at hM;refine vB _ _ _ _ _ _ _ _ _ _ _ _ _ _ _ _ _ _ _ _ _ _ _ _ _ _ _ _ _ _ _ _ _ _ _ _ _ (Br.dec (λ_=>Br.of (λ_=>Br.dec (λ_ N1 ac=>?_) λh=>by omega) λh=>by simp at h) λh=>by omega);refine tg Y _ (by decide) _ N1 _ (λr n2 N2 I _ hp ax _ N3 ae=>hT s n2 r false N3 _ ax λx n4 b4 N4 ah hx _ _=>⟨⟨rfl,rfl⟩,ai es x (by omega),λc1=>?_⟩) λN2 I hp _ N3 ae=>hT s n1 l1 true N3 _ Y λx n4 b4 N4 ah hx _ _=>⟨⟨rfl,rfl⟩,ai es x (by omega),λc1=>?_⟩
      ·rw[show pre [32] l1=_ from hp,oO]at hM;obtain⟨J,aa⟩:=Ar.next hb hM aw hx;exact nx J x n4 b4 N4 c1 (by omega) aa
      ·rw[show pre [32] l1=_ from hp.resolve_left (by simp)]at hM;cases hx with
       | no _ ay=>exact nx [] x n4 true N4 c1 (by omega) ⟨⟨_,ay,by simp⟩,λ_=>.inr (by rw[hM];rfl),by simp⟩
       | ok h=>cases h
 refine qf _ _ _ _ _ _ _ _ _ _ _ _ _ _ _ _ _ _ _ _ _ _ _ _ _ _ ?_;cases b with
 | true=>
   have U:Ar T s true n2 l n2 n true l0 [] es0:=⟨⟨l,hr,by simp⟩,λ_=>.inl rfl,by simp⟩
   exact Br.dec (λ_=>Br.of (λh=>by simp at h) λ_ N1 ac=>O U (.inl rfl) (by omega) N1 _ λn' b' N2 I hR _=>⟨yY,λN3 ae=>hQ _ _ _ _ (by omega) (hR a0 c0)⟩) λh=>by omega
 | false=>
   obtain⟨j,rfl⟩:∃ j,n2=j+1:=⟨n2 - 1,by omega⟩
   refine Br.dec (λ_=>Br.of (λ_=>Br.dec (λh=>by omega) λ_=>⟨_,_,_,rfl,λN1 ac=>?_⟩) λh=>by simp at h) λh=>by omega
   refine hT s n l false N1 _ hr λx n4 b4 N4 ah hx _ _=>⟨al x,ai es0 x (by omega),λc1=>?_⟩
   obtain⟨J,aa⟩:=Ar.next (b:=false) (m:=j+1) (l:=l) (l2:=l) (j:=j) (ts:=[]) rfl (by simp only[wZ,mF,oO,oa];simp) (by simpa using h0) hx;exact key j 1 n4 b4 J (es0++[x]) c1 N4 (by omega) (by omega) aa (by rw[oH];simp only[oJ,oN];omega) (by omega)
theorem Rd.form {k:Int}{nm ot:Bl}{ty re:Ty}{s:ByteArray}{b b':Bool}{m:Option (List Tm × Bl)}{d:D}{n:Int}(h:Rd (λts d=>(Tm.mk k ⟨nm.toArray⟩ ⟨ot.toArray⟩ 0 ty re ([]++ts)).Is d) s b m d n b'):Rd Tm.Is s b (mkF k nm ot ty re m) d n b':=by
 cases h with
 | ok J O hd I=>exact .ok J (by rw[mkF,O];rfl) hd I
 | no h I=>exact .no (h.imp id λh=>by rw[mkF,h];rfl) I
theorem T1 {dep:Int} {T:Bl->Option (Tm × Bl)} (J:KL dep T) (k:Int) {nm:Bl} (O:(⟨nm.toArray⟩:ByteArray).size<=4611686018427387904) (n2:Nat) (I:1<=n2/\n2<=3) {s:ByteArray} {n:Int} {l:Bl} (U:Atl s n l) (b:Bool) (N:Nat) (Q:QT [.ag 9,.str,.i,.bool])
  (Y:∀ d n' b' N',N<=N'->Rd Tm.Is s b (mkF k nm [] tZero tZero (wZ T [32] [41] n2 true l)) d n' b'->Q d s n' b' N'):BCalls prog 145 [.ag 9,.str,.i,.bool] [.pb 0 0 0 0,.dg 9 (.ag [.j k,.t (⟨nm.toArray⟩),.t (bytes []),.j 0,.j 0,.sl none 2 [] 0,.j 0,.sl none 2 [] 0,.sl none 9 [] 0]),.j (n2:Int),.j dep] [.var [.str s,.j n,.bool b]] N Q:=
 Qz J (hdz O (by decide)) (l0:=[]) rfl (by simp) (a0:=none) (c0:=0) (λ_=>trivial) n2 I U b N Q λd n' b' N' h hd=>Y d n' b' N' h hd.form
theorem T2 {dep:Int} {T:Bl->Option (Tm × Bl)} (hT:KL dep T) {t:Tm} {x:D} {s:ByteArray} {n:Int} {l:Bl} (I:Atl s n l) (b:Bool) (ht:b=false->t.Is x) (N:Nat) (Q:QT [.ag 9,.str,.i,.bool])
  (hQ:∀ d n' b' N',N<=N'->Rd Tm.Is s b (Nk true T t l) d n' b'->Q d s n' b' N'):BCalls prog 147 [.ag 9,.str,.i,.bool] [.pb 0 0 0 0,.dg 9 x,.j dep] [.var [.str s,.j n,.bool b]] N Q:=by
 have g1:=I.lo;have g2:=I.hi;have g3:=I.sz;have aa:=I.len;have args:∀(k:Int) (nm:ByteArray) (ac:nm.size<=1000) (a:Option Addr) (n1:Int) (l1:Bl) (J:Atl s n1 l1) (_:b=false) (N1:Nat) (_:N<=N1) (Q1:QT [.ag 9,.str,.i,.bool]) (_:∀ d n' b' N',N1<=N'->Rd Tm.Is s b ((T l1).bind λy=>(pre [41] y.2).map λr=>(Tm.mk k nm (bytes []) 0 tZero tZero [t,y.1],r)) d n' b'->Q1 d s n' b' N'),BCalls prog 145 [.ag 9,.str,.i,.bool] [.pb 0 0 0 0,.dg 9 (.ag [.j k,.t nm,.t (bytes []),.j 0,.j 0,.sl none 2 [] 0,.j 0,.sl none 2 [] 0,.sl a 9 [x] 1]),.j 1,.j dep] [.var [.str s,.j n1,.bool b]] N1 Q1:=λk nm ac a n1 l1 J hb N1 ae Q1 ah=>
  Qz hT (hdz (by omega) (by decide)) (l0:=[t]) (My (ht hb)) (by simp) (λy=>by cases a<;>exact⟨rfl,by simp⟩) 1 ⟨by omega,by omega⟩ J b N1 Q1 λd n' b2 N' h hd=>ah d n' b2 N' h (by
   rw[WE]at hd;cases hd with
   | @ok ts r _ _ hb hm hd I=>obtain⟨⟨y,l2⟩,h1,hm⟩:=od.1 hm;obtain⟨r',h2,hm⟩:=nU.1 hm;cases hm;exact .ok hb (t:=.mk k nm (bytes []) 0 tZero tZero [t,y]) (r:=r) (by rw[h1,oO];show(pre [41] l2).map _=_;rw[show pre [41] l2=_ from h2];rfl) hd I
   | no h I=>
     refine .no (h.imp id λh=>?_) I;cases h1:T l1 with
     | none=>rfl
     | some y=>rw[h1,oO,Option.map_eq_none_iff]at h;rw[oO,h];rfl)
 have bad:∀(d:D) (l1:Bl) (n1:Int) (N1:Nat),N<=N1->Atl s n1 l1->(b=true\/Nk true T t l=none)->Q d s n1 true N1:=λd l1 n1 N1 h J hn=>hQ _ _ _ _ h (.no hn J);refine ES N x dep s n b Q λE _ N1 ae=>vw I _ (by decide) _ N1 _ (λr n2 N2 ai hb hp aj _=>Br.of (λ_=>⟨⟨rfl,rfl⟩,⟨rfl,rfl⟩,⟨rfl,rfl⟩,⟨rfl,rfl⟩,λa N3 O _ N4 U=>?_⟩) λh=>by cases h) λN2 ai hp _=>Br.of (λh=>by cases h) λ_=>?_
 ·have e:=yG hp;have el:l=32::r:=e;exact args 7 _ (by decide) a n2 r aj hb N4 (by omega) _ λd n' b' N' h hd _ _=>⟨yY,λN5 ab=>hQ _ _ _ _ (by omega) (by rw[el];simp only[Nk,mF];exact hd)⟩
 ·cases b with
  | true=>exact Br.of (λ_=>⟨⟨rfl,rfl⟩,⟨rfl,rfl⟩,⟨rfl,rfl⟩,⟨rfl,rfl⟩,⟨rfl,rfl⟩,λa N3 O _=>⟨yY,λN4 U=>bad _ _ _ _ (by omega) I (.inl rfl)⟩⟩) λh=>by cases h
  | false=>
    have hp:=hp.resolve_left (by simp);refine Br.of (λh=>by cases h) λ_=>?_;cases l with
    | nil=>
      have:=I.nil.1 rfl
      exact Br.dec (λ_=>⟨⟨rfl,rfl⟩,⟨rfl,rfl⟩,⟨rfl,rfl⟩,⟨rfl,rfl⟩,⟨rfl,rfl⟩,λa N3 O _=>⟨yY,λN4 U=>bad _ _ _ _ (by omega) I (.inr rfl)⟩⟩) λh=>by omega
    | cons c r=>
      simp only[oJ]at aa;have hc:c≠32:=λe=>by rw[e]at hp;have:=Wt 32 [] r;rw[show pre [32] (32::r)=_ from hp]at this;cases this
      have e1:IntKind.i64.wrap (n+1)=n+1:=i64_in _ (by omega);have ex:ByteArray.extract s n.toNat (n+1).toNat=⟨#[c]⟩:=z8 (I.ext 1 rfl);refine Br.dec (λh=>by omega) λak=>?_;rw[e1,ex,mB ak];refine⟨⟨g1,by omega,by omega⟩,λN3 O=>tq _ N3 _ λN4 U _=>Br.bne (λY=>⟨⟨rfl,rfl⟩,⟨rfl,rfl⟩,⟨rfl,rfl⟩,⟨rfl,rfl⟩,⟨rfl,rfl⟩,λa N5 ab _=>⟨yY,λN6 al=>bad _ _ _ _ (by omega) I (.inr (by simp only[Nk];rw[if_neg hc,if_pos ⟨trivial,Y⟩]))⟩⟩) λY=>⟨⟨g1,by omega,by omega⟩,⟨rfl,rfl⟩,⟨rfl,rfl⟩,⟨rfl,rfl⟩,⟨rfl,rfl⟩,λa N5 ab _ N6 al=>?_⟩⟩;refine args 4 ⟨#[c]⟩ (by show 1<=1000;omega) a (n+1) r (I.app (p:=[c]) rfl rfl) rfl N6 (by omega) _ λd n' b' N' h hd _ _=>⟨yY,λN7 ao=>hQ _ _ _ _ (by omega) ?_⟩
      simp only[Nk];rw[if_neg hc,if_neg (λh=>h.2 Y)];exact hd
end Go.Proofs.YtlaniepnglheoaaGreatDoor
set_option maxRecDepth 100000
namespace Go.Proofs.YtlaniepnglheoaaGreatDoor
open Go Go.Proofs Go.Proofs.Tryz Go.IntWalk
def Hk (l:Bl):Nat:=l.foldl (λa c=>10*a+(c.toNat - 48)) 0
theorem FI (l:Bl)(c:UInt8):Hk (l++[c])=10*Hk l+(c.toNat - 48):=by simp[Hk]
theorem QA {n:Nat}(h:n<10):(UInt8.ofNat (48+n)).toNat - 48=n:=by
 have:n=0\/n=1\/n=2\/n=3\/n=4\/n=5\/n=6\/n=7\/n=8\/n=9:=by omega
 rcases this with rfl | rfl | rfl | rfl | rfl | rfl | rfl | rfl | rfl | rfl<;>decide
theorem M9:∀ n:Nat,Hk (Lib.decDigits n)=n:=by
 intro n
 induction n using Nat.strongRecOn with
 | _ n I=>
   rw[Lib.decDigits];split
   ·rename_i h;show 10*0+((UInt8.ofNat (48+n)).toNat - 48)=n;rw[QA h];omega
   ·rw[FI,I _ (by omega),QA (by omega)];omega
theorem L9:∀(k:Nat)(l:Bl),l.length=k->(∀ c∈l,CL c=true)->Hk l<10 ^ k:=by
 intro k
 induction k with
 | zero=>intro l J _;rw[oV J];decide
 | succ k O=>
   intro l J hd;have I:l≠[]:=λe=>by rw[e]at J;cases J
   rw[<-List.dropLast_concat_getLast I,FI];have Y:=O l.dropLast (by rw[List.length_dropLast];omega) λc hc=>hd c (List.dropLast_subset l hc);have U:=hd _ (List.getLast_mem I);simp only[CL,oe]at U;rw[lJ];omega
theorem Um:∀(k n:Nat),1<=k->n<10 ^ k->(Lib.decDigits n).length<=k:=by
 intro k
 induction k with
 | zero=>intro n h;omega
 | succ k I=>
   intro n _ J;rw[Lib.decDigits];split
   ·simp
   ·rename_i h;rw[oH];have O:1<=k:=by
     rcases mZ k with e | e
     ·subst e;omega
     ·exact e
    have:=I (n / 10) O (by rw[lJ]at J;omega)
    simp only[oJ,oN];omega
theorem Un (n:Nat):1<=(Lib.decDigits n).length:=by obtain⟨b,l,e⟩:=Kd n;rw[e];simp
theorem Ks {w:Bl}(h:w.length<1\/6<w.length):xl w=none:=pQ λn O e=>by have I:=Um 6 n (by omega) (by omega);have J:=Un n;rw[e]at I J;omega
theorem Fg {w:Bl}{c:UInt8}(hc:c∈w)(h:CL c=false):xl w=none:=pQ λn I e=>by
 have:=sw n c (by rw[e];exact hc)
 rw[h]at this;cases this
theorem UZ (l:List Int):∀ b:ByteArray,(l.foldl (λr n=>r.push (UInt8.ofNat n.toNat)) b).size=b.size+l.length:=by
 induction l with
 | nil=>intro b;simp
 | cons x l I=>intro b;simp only[List.foldl_cons,I,ByteArray.size_push,oJ];omega
theorem Pe (l:List Int):(yS l).size=l.length:=by unfold yS;rw[UZ];simp
theorem Xs (n:Int)(h:n.natAbs<10000000000)(N:Nat)(Q:QT [.str])(J:∀ s N',N<=N'->Q s N'):ACalls prog 22 [.str] [.j n] N Q:=by
 refine rk N n Q (Br.beq (λ_ N1 I=>J _ _ I) λ_=>?_);have key:∀(m:Nat) (x:Int) (s:ByteArray),x.natAbs<10 ^ m->m+s.size<=10->∀ b,zl Q N x b s N:=by
  intro m
  induction m with
  | zero=>intro x s O hs b;exact w8 (Br.bne (λh=>by omega) λ_=>Br.of (λ_=>⟨by omega,λN1 I=>J _ _ I⟩) λ_ N1 I=>J _ _ I)
  | succ m Y=>
    intro x s O hs b;have hb:x.natAbs<10000000000:=o6 O (by rw[show(10000000000:Nat)=10 ^ 10 from rfl];exact mv (by omega) (by omega));have hq:(Int.tdiv x 10).natAbs=x.natAbs / 10:=Int.natAbs_tdiv x 10;have hd:IntKind.i64.wrap (Int.tdiv x 10)=Int.tdiv x 10:=i64_in _ (by omega);have U:∀ es:List Int,es.length=1->zl Q N (IntKind.i64.wrap (Int.tdiv x 10)) b (yS es++s) N:=λes he=>by
     rw[hd];refine Y _ _ ?_ ?_ b
     ·rw[hq];rw[lJ]at O;omega
     ·rw[oE,Pe];omega
    have sz:∀ es:List Int,es.length=1->(yS es).size+s.size<=9223372036854775807:=λes he=>by rw[Pe];omega
    exact w8 (Br.bne (λ_=>⟨by decide,Br.of (λ_=>⟨by simp,[_],rfl,sz _ rfl,by decide,U _ rfl⟩) λ_=>⟨by simp,[_],rfl,sz _ rfl,by decide,U _ rfl⟩⟩) λ_=>Br.of (λ_=>⟨by omega,λN1 I=>J _ _ I⟩) λ_ N1 I=>J _ _ I)
 exact key 10 n _ (by simpa using h) (by decide)  _
theorem Xu (w:ByteArray)(hw:w.size<=1073741824)(N:Nat)(Q:QT [.i,.bool])(h1:∀(m:Nat) N',N<=N'->xl (bl w)=some m->Q (m:Int) true N')(h0:∀ N',N<=N'->xl (bl w)=none->Q 0 false N'):ACalls prog 148 [.i,.bool] [.str w] N Q:=by
 refine CG N w Q λN1 au=>?_;have ak:(bl w).length=w.size:=wy w;have Y:xl (bl w)=none->∀(n:Int) N2,N1<=N2->Br (!false) (∀ N3,N2<=N3->Q 0 false N3) (Br (decide (n<0)) (∀ I,N2<=I->Q 0 false I) (∀ J,N2<=J->Q n true J)):=λhn n N2 ac=>Br.of (λ_ N3 U=>h0 _ (by omega) hn) λh=>by cases h
 have ai:∀(n:Int) N2,N1<=N2->(n<0/\xl (bl w)=none\/∃ m:Nat,n=m/\xl (bl w)=some m)->Br (!true) (∀ N3,N2<=N3->Q 0 false N3) (Br (decide (n<0)) (∀ I,N2<=I->Q 0 false I) (∀ J,N2<=J->Q n true J)):=λn N2 ac h=>Br.of (λh=>by cases h) λ_=>Br.dec (λhn I ae=>h0 _ (by omega) (h.elim And.right λ⟨m,e,_⟩=>by omega)) λhn J aa=>by
  rcases h with⟨h,_⟩ | ⟨m,rfl,h⟩
  ·omega
  ·exact h1 m _ (by omega) h
 have key:∀(b6:Bool) (t:ByteArray),t.size<=6->(b6=true->∃ r,bl w=45::r)->(b6=false->t=w)->∀(rest p:Bl),bl t=p++rest->(∀ c∈p,CL c=true)->yd (λn b N2=>N1<=N2->Br (!b) (∀ N3,N2<=N3->Q 0 false N3) (Br (decide (n<0)) (∀ I,N2<=I->Q 0 false I) (∀ J,N2<=J->Q n true J))) N1 w b6 t (Hk p:Int) (p.length:Int) N1:=λb6 t ht hb hf=>by
  have aj:(bl t).length=t.size:=wy t;have neg:b6=true->xl (bl w)=none:=λh=>by obtain⟨r,e⟩:=hb h;exact Fg (c:=45) (by rw[e];simp) (by decide)
  intro rest
  induction rest with
  | nil=>
    intro p hp hd;rw[o7]at hp;have al:p.length=t.size:=by rw[<-aj,hp]
    have hv:=L9 6 (List.replicate (6 - p.length) 48++p) (by simp;omega) (λc hc=>by
     rcases oM.1 hc with hc | hc
     ·rw[nV hc];decide
     ·exact hd c hc)
    have ao:Hk p<10 ^ 6:=o6 (L9 p.length p rfl hd) (mv (by omega) (by omega));have e0:IntKind.i64.wrap (0 - (Hk p:Int))=0 - (Hk p:Int):=i64_in _ (by omega);refine qY (Br.dec (λh=>by omega) λ_=>Br.of (λO N3 U=>?_) λO N3 U=>?_)
    ·rw[e0];rcases mZ (Hk p)with hz | hz
     ·rw[hz];exact xX 0 (by omega) N3 _ λI ae _=>Br.nstr (λ_ J aa _=>Y (neg O) _ _ (by omega)) λhe=>by exfalso;obtain⟨r,e⟩:=hb O;have:bl (PH 0)=45::r:=(oY bl he).trans e;have h2:=sw 0 45 (by show 45∈bl (PH 0);rw[this];simp);revert h2;decide
     ·exact Xs _ (by omega) N3 _ λz I ae _=>Br.of (λ_ J aa _=>Y (neg O) _ _ (by omega)) λ_ J aa _=>ai _ _ (by omega) (.inl ⟨by omega,neg O⟩)
    ·obtain rfl:=hf O;refine xX (Hk p) (by omega) N3 _ λI ae _=>Br.nstr (λaq J aa _=>Y (pQ λn hn e=>aq ?_) _ _ (by omega)) λhe J aa _=>ai _ _ (by omega) (.inr ⟨Hk p,rfl,?_⟩)
     ·have:Hk p=n:=by rw[<-hp];exact(oY Hk e.symm).trans (M9 n)
      rw[this];exact z8 e
     ·have:Lib.decDigits (Hk p)=bl t:=oY bl he;rw[<-this];exact Ff (by omega)
  | cons c rest ih=>
    intro p hp hd;have al:p.length+(rest.length+1)=t.size:=by rw[<-aj,hp,oH,oJ]
    have ah:Atl t p.length (c::rest):=Atl.app (n:=0) ⟨by omega,by omega,by omega,rfl⟩ (p:=p) (by show bl t=_;rw[hp]) (by omega);have hg:=ah.get;have bd:0<=(p.length:Int)/\(p.length:Int)<(t.size:Int):=⟨by omega,by omega⟩
    have no:CL c=false->∀(N3:Nat),N1<=N3->Br (!false) (∀ I,N3<=I->Q 0 false I) (Br (decide ((0:Int)<0)) (∀ I,N3<=I->Q 0 false I) (∀ J,N3<=J->Q 0 true J)):=λhc N3 U=>Y (by
     cases O:b6 with
     | true=>exact neg O
     | false=>obtain rfl:=hf O;exact Fg (c:=c) (by rw[hp];simp) hc) _ _ U
    refine qY (Br.dec (λ_=>?_) λh=>by omega);rw[hg];refine⟨bd,Br.dec (λh N3 U _=>no (by simp only[CL,np];omega) _ U) λg1=>⟨bd,Br.dec (λh N3 U _=>no (by simp only[CL,np];omega) _ U) λg2=>⟨bd,?_⟩⟩⟩;have ao:Hk p<10 ^ 6:=o6 (L9 p.length p rfl hd) (mv (by omega) (by omega));have e3:IntKind.u8.wrap ((c.toNat:Int) - 48)=(c.toNat:Int) - 48:=u8_in _ (by omega);rw[e3,i64_in (10*(Hk p:Int)) (by omega),i64_in ((c.toNat:Int) - 48) (by omega),i64_in (10*(Hk p:Int)+((c.toNat:Int) - 48)) (by omega),i64_in ((p.length:Int)+1) (by omega)]
    have:=ih (p++[c]) (by rw[hp,oP];rfl) λx hx=>by
     rcases oM.1 hx with hx | hx
     ·exact hd x hx
     ·rw[o5.1 hx];simp only[CL,oe];omega
    rw[FI,oH]at this;have e4:((10*Hk p+(c.toNat - 48):Nat):Int)=10*(Hk p:Int)+((c.toNat:Int) - 48):=by omega
    rw[e4]at this;exact this
 have cut:∀ b6:Bool,∀ t:ByteArray,(b6=true->∃ r,bl w=45::r)->(b6=false->t=w)->Br (decide ((t.size:Int)<1)) (∀ N2,N1<=N2->N1<=N2->Br (!false) (∀ N3,N2<=N3->Q 0 false N3) (Br (decide ((0:Int)<0)) (∀ I,N2<=I->Q 0 false I) (∀ J,N2<=J->Q 0 true J))) (Br (decide ((t.size:Int)>6)) (∀ N2,N1<=N2->N1<=N2->Br (!false) (∀ N3,N2<=N3->Q 0 false N3) (Br (decide ((0:Int)<0)) (∀ I,N2<=I->Q 0 false I) (∀ J,N2<=J->Q 0 true J))) (yd (λn b N2=>N1<=N2->Br (!b) (∀ N3,N2<=N3->Q 0 false N3) (Br (decide (n<0)) (∀ I,N2<=I->Q 0 false I) (∀ J,N2<=J->Q n true J))) N1 w b6 t 0 0 N1)):=λb6 t hb hf=>by
  have sh:t.size<1\/6<t.size->xl (bl w)=none:=λh=>by
   cases O:b6 with
   | true=>obtain⟨r,e⟩:=hb O;exact Fg (c:=45) (by rw[e];simp) (by decide)
   | false=>obtain rfl:=hf O;exact Ks (by rw[wy];exact h)
  exact Br.dec (λh N2 ac _=>Y (sh (by omega)) 0 _ (by omega)) λh1=>Br.dec (λh N2 ac _=>Y (sh (by omega)) 0 _ (by omega)) λh=>key b6 t (by omega) hb hf (bl t) [] rfl (by simp)
 refine Jr N1 w 6 _ (Br.dec (λh=>⟨⟨by omega,by omega⟩,Br.beq (λab=>⟨⟨by omega,by omega,by omega⟩,?_⟩) λab=>?_⟩) λh=>cut _ _ (by simp) (by simp))
 ·rw[show(((w.data.getD 0 (OfNat.ofNat 0)).toNat:Int)==45)=true from by simpa using ab];refine cut _ _ (λ_=>?_) (by simp);cases e:bl w with
  | nil=>rw[<-ak,e]at h;simp at h
  | cons c r=>
    have ah:Atl w 0 (c::r):=⟨hw,by omega,by omega,e⟩
    have hg:=ah.get;rw[show(0:Int).toNat=0 from rfl]at hg;rw[hg]at ab;refine⟨r,?_⟩;have:c=45:=UInt8.toNat_inj.1 (by show c.toNat=45;omega);rw[this]
 ·rw[show(((w.data.getD 0 (OfNat.ofNat 0)).toNat:Int)==45)=false from by simpa using ab];exact cut _ _ (by simp) (by simp)
end Go.Proofs.YtlaniepnglheoaaGreatDoor
set_option maxRecDepth 100000
namespace Go.Proofs.YtlaniepnglheoaaGreatDoor
open Go Go.Proofs Go.Proofs.Tryz Go.IntWalk
structure Ms (s:ByteArray) (b:Bool) (t l:Bl) (n':Int) (b':Bool) (l':Bl):Prop where
 at_:Atl s n' l'
 ok:b'=false->b=false/\pre t l=some l'
 no:b'=true->b=true\/pre t l=none
theorem Vx {s:ByteArray} {n:Int} {l:Bl} (O:Atl s n l) (t:ByteArray) (Y:t.size<=100) (b:Bool) (N:Nat) (Q:QT [.str,.i,.bool])
  (U:∀ l' n' b' N',N<=N'->Ms s b (bl t) l n' b' l'->Q s n' b' N'):BCalls prog 81 [.str,.i,.bool] [.pb 0 0 0 0,.str t] [.var [.str s,.j n,.bool b]] N Q:=
 tg O t Y b N Q (λr n' N' h hb I J=>U r n' false N' h ⟨J,λ_=>⟨hb,I⟩,by simp⟩) λN' h I=>U l n true N' h ⟨O,by simp,λ_=>I⟩
structure Ts (s:ByteArray) (b:Bool) (l:Bl) (d:D) (n':Int) (b':Bool) (t:Ty) (l':Bl):Prop where
 at_:Atl s n' l'
 ok:b'=false->b=false/\uc 8 l=some (t,l')/\t.Is d
 no:b'=true->b=true\/uc 8 l=none
theorem Xw {s:ByteArray} {n:Int} {l:Bl} (U:Atl s n l) (b:Bool) (N:Nat) (Q:QT [.ag 2,.str,.i,.bool])
  (O:∀ t l' d n' b' N',N<=N'->Ts s b l d n' b' t l'->Q d s n' b' N'):BCalls prog 144 [.ag 2,.str,.i,.bool] [.pb 0 0 0 0,.j 1] [.var [.str s,.j n,.bool b]] N Q:=
 Wx 8 (by omega) 1 (by omega) U b N Q λd n' b' N' h hd=>by
  cases hd with
  | @ok t r _ _ Y J hd I=>exact O t r d n' false N' h ⟨I,λ_=>⟨Y,J,hd⟩,by simp⟩
  | no J I=>exact O tZero _ d n' true N' h ⟨I,by simp,λ_=>J⟩
theorem Q0 {dep:Int} (x:D) (n2:Nat) (J:1<=n2/\n2<=3) {s:ByteArray} {n:Int} {l:Bl} (O:Atl s n l) (N:Nat) (Q:QT [.ag 9,.str,.i,.bool])
  (U:∀ d N',N<=N'->Q d s n true N'):BCalls prog 145 [.ag 9,.str,.i,.bool] [.pb 0 0 0 0,.dg 9 x,.j (n2:Int),.j dep] [.var [.str s,.j n,.bool true]] N Q:=by
 refine rm N _ n2 dep s n true Q λE _=>?_;refine qf _ _ _ _ _ _ _ _ _ _ _ _ _ _ _ _ _ _ _ _ _ _ _ _ _ _ (Br.dec (λ_=>Br.of (λh=>by simp at h) λ_ N1 Y=>?_) λh=>by omega);exact tg O _ (by decide) _ N1 _ (λr n' N2 I h=>by cases h) λN2 I hp _=>⟨yY,λN3 aa=>U _ _ (by omega)⟩
theorem Q2 {dep:Int} {T:Bl->Option (Tm × Bl)} (O:KL dep T) {k:Int} {nm ot:Bl} {ty re:Ty} {x y:D} (h1:(⟨nm.toArray⟩:ByteArray).size<=1073741824) (h2:(⟨ot.toArray⟩:ByteArray).size<=1073741824)
  {s:ByteArray} {n:Int} {l:Bl} (I:Atl s n l) (b:Bool) (U:b=false->ty.Is x) (Y:b=false->re.Is y) (N:Nat) (Q:QT [.ag 9,.str,.i,.bool])
  (J:∀ d n' b' N',N<=N'->Rd Tm.Is s b (mkF k nm ot ty re (wZ T [] [41] 1 true l)) d n' b'->Q d s n' b' N'):BCalls prog 145 [.ag 9,.str,.i,.bool] [.pb 0 0 0 0,.dg 9 (.ag [.j k,.t (⟨nm.toArray⟩),.t (⟨ot.toArray⟩),.j 0,x.cell 0,x.cell 1,y.cell 0,y.cell 1,.sl none 9 [] 0]),.j 1,.j dep] [.var [.str s,.j n,.bool b]] N Q:=by
 cases b with
 | true=>exact Q0 _ 1 ⟨by omega,by omega⟩ I N Q λd N' h=>J _ _ _ _ h (.no (.inl rfl) I)
 | false=>exact Qz O (k:=k) (m:=0) (nm:=⟨nm.toArray⟩) (ot:=⟨ot.toArray⟩) (ty:=ty) (re:=re) ⟨by omega,by omega,Ty.is_cells (U rfl),Ty.is_cells (Y rfl)⟩ (l0:=[]) rfl (by simp) (a0:=none) (c0:=0) (λ_=>trivial) 1 ⟨by omega,by omega⟩ I false N Q λd n' b' N' h hd=>J d n' b' N' h hd.form
theorem Xv {dep:Int} {T:Bl->Option (Tm × Bl)} (hT:KL dep T) {s:ByteArray} {n:Int} {l:Bl} (hr:Atl s n l) (N:Nat) (Q:QT [.ag 9,.str,.i,.bool])
  (hQ:∀ d n' b' N',N<=N'->Rd Tm.Is s false (JJ T l) d n' b'->Q d s n' b' N'):BCalls prog 146 [.ag 9,.str,.i,.bool] [.pb 0 0 0 0,.j dep] [.var [.str s,.j n,.bool false]] N Q:=by
 refine GU N dep s n false Q λE N1 bh=>H5 hr _ N1 _ λn2 N2 bi ak _ N3 bj=>Vx ak _ (by decide) _ N3 _ λl4 n4 b4 N4 bm m4 _ N5 bn=>H5 m4.at_ _ N5 _ λn6 N6 bp al _ N7 bq=>Vx al _ (by decide) _ N7 _ λl8 n8 b8 N8 bt m8 _ N9 bv=>?_;refine Xw m8.at_ _ N9 _ λty l10 d bw ai bz az J _ _ ao a6=>Vx J.at_ _ (by decide) _ ao _ λaq b3 ac b7 a7 aa _ au a8=>?_;refine Xw aa.at_ _ au _ λre aj e b9 ae ca ba O _ _ aw bb=>Vx O.at_ _ (by decide) _ aw _ λax cc ah cd bc m16 _ ay bd=>?_;have I:ah=false->ae=false:=λh=>(m16.ok h).1;have U:ae=false->ac=false:=λh=>(O.ok h).1;have ab:ac=false->ai=false:=λh=>(aa.ok h).1;refine Q2 hT (ty:=ty) (re:=re) (tG hr) (tG m4.at_) m16.at_ ah (λh=>(J.ok (ab (U (I h)))).2.2) (λh=>(O.ok (I h)).2.2) ay _ λx n' b' N' h hx _ _=>⟨yY,λce bg=>hQ _ _ _ _ (by omega) ?_⟩
 have e:JJ T l=(pre [32] (word l).2).bind λm=>(pre [58] (word m).2).bind λr=>(uc 8 r).bind λt=>(pre [62] t.2).bind λr=>(uc 8 r).bind λu=>(pre [46] u.2).bind λr=>mkF 9 (word l).1 (word m).1 t.1 u.1 (wZ T [] [41] 1 true r):=rfl;rw[e];cases b4 with
 | true=>
   rw[show pre [32] (word l).2=none from(m4.no rfl).resolve_left (by simp)];cases hx with
   | ok Y=>exact absurd ((m8.ok ((J.ok (ab (U (I Y)))).1)).1) (by simp)
   | no _ ha=>exact .no (.inr rfl) ha
 | false=>
 rw[show pre [32] (word l).2=some l4 from(m4.ok rfl).2,oO];cases b8 with
 | true=>
   rw[show pre [58] (word l4).2=none from(m8.no rfl).resolve_left (by simp)];cases hx with
   | ok Y=>exact absurd ((J.ok (ab (U (I Y)))).1) (by simp)
   | no _ ha=>exact .no (.inr rfl) ha
 | false=>
 rw[show pre [58] (word l4).2=some l8 from(m8.ok rfl).2,oO];cases ai with
 | true=>
   rw[(J.no rfl).resolve_left (by simp)];cases hx with
   | ok Y=>exact absurd (ab (U (I Y))) (by simp)
   | no _ ha=>exact .no (.inr rfl) ha
 | false=>
 rw[(J.ok rfl).2.1,oO];cases ac with
 | true=>
   rw[show pre [62] (ty,l10).2=none from(aa.no rfl).resolve_left (by simp)];cases hx with
   | ok Y=>exact absurd (U (I Y)) (by simp)
   | no _ ha=>exact .no (.inr rfl) ha
 | false=>
 rw[show pre [62] (ty,l10).2=some aq from(aa.ok rfl).2,oO];cases ae with
 | true=>
   rw[(O.no rfl).resolve_left (by simp)];cases hx with
   | ok Y=>exact absurd (I Y) (by simp)
   | no _ ha=>exact .no (.inr rfl) ha
 | false=>
 rw[(O.ok rfl).2.1,oO];cases ah with
 | true=>
   rw[show pre [46] (re,aj).2=none from(m16.no rfl).resolve_left (by simp)];cases hx with
   | ok Y=>cases Y
   | no _ ha=>exact .no (.inr rfl) ha
 | false=>
 rw[show pre [46] (re,aj).2=some ax from(m16.ok rfl).2,oO];exact hx
theorem Xt {dep:Int} {T:Bl->Option (Tm × Bl)} (hT:KL dep T) {s:ByteArray} {n:Int} {l:Bl} (hr:Atl s n l) (E:Env) (N:Nat) (Q:QT [.ag 9,.str,.i,.bool])
  (hQ:∀ d n' b' N',N<=N'->Rd Tm.Is s false (MW T l) d n' b'->Q d s n' b' N'):BCalls prog 84 [.str,.str,.i,.bool] [.pb 0 0 0 0] [.var [.str s,.j n,.bool false]] N (λae ah ai aj N4=>N<=N4->∀ U,N4<=U->BCalls prog 81 [.str,.i,.bool] [.pb 0 0 0 0,.str (bytes [58])] [.var [.str ah,.j ai,.bool aj]] U (λak al ao N6=>U<=N6->∀ Y,N6<=Y->BCalls prog 144 [.ag 2,.str,.i,.bool] [.pb 0 0 0 0,.j 1] [.var [.str ak,.j al,.bool ao]] Y (λx aq au aw N8=>Y<=N8->Bel N8 x->∀ N9,N8<=N9->BCalls prog 81 [.str,.i,.bool] [.pb 0 0 0 0,.str (bytes [46])] [.var [.str aq,.j au,.bool aw]] N9 (λax ay az aa=>N9<=aa->∀ I,aa<=I->BCalls prog 145 [.ag 9,.str,.i,.bool] [.pb 0 0 0 0,.dg 9 (.ag [.j 6,.t ae,.t (bytes []),.j 0,x.cell 0,x.cell 1,.j 0,.sl none 2 [] 0,.sl none 9 [] 0]),.j 1,.j dep] [.var [.str ax,.j ay,.bool az]] I (λab a6 a7 a8 J=>I<=J->Bel J ab->zZ E [.var [.str (bytes []),.j 0,.bool false]]/\∀ ac,J<=ac->Q ab a6 a7 a8 ac))))):=by
 refine H5 hr _ N _ λn2 N2 bc ba _ N3 bd=>Vx ba _ (by decide) _ N3 _ λl4 n4 b4 N4 bg m4 _ U bh=>Xw m4.at_ _ U _ λty l6 d n6 b6 N6 bi m6 _ _ Y bj=>Vx m6.at_ _ (by decide) _ Y _ λl8 n8 b8 N8 bm O _ N9 bn=>?_;refine Q2 hT (k:=6) (ot:=[]) (ty:=ty) (re:=tZero) (y:=.ag [.j 0,.sl none 2 [] 0]) (tG hr) (by decide) O.at_ b8 (λh=>(m6.ok (O.ok h).1).2.2) (λ_=>vQ 0) N9 _ λx n' b' N' h hx _ _=>⟨yY,λbp bb=>hQ _ _ _ _ (by omega) ?_⟩
 have e:MW T l=(pre [58] (word l).2).bind λr=>(uc 8 r).bind λt=>(pre [46] t.2).bind λr=>mkF 6 (word l).1 [] t.1 tZero (wZ T [] [41] 1 true r):=rfl;rw[e];cases b4 with
 | true=>
   rw[show pre [58] (word l).2=none from(m4.no rfl).resolve_left (by simp)];cases hx with
   | ok hb=>exact absurd ((m6.ok (O.ok hb).1).1) (by simp)
   | no _ ha=>exact .no (.inr rfl) ha
 | false=>
 rw[show pre [58] (word l).2=some l4 from(m4.ok rfl).2,oO];cases b6 with
 | true=>
   rw[(m6.no rfl).resolve_left (by simp)];cases hx with
   | ok hb=>exact absurd ((O.ok hb).1) (by simp)
   | no _ ha=>exact .no (.inr rfl) ha
 | false=>
 rw[(m6.ok rfl).2.1,oO];cases b8 with
 | true=>
   rw[show pre [46] (ty,l6).2=none from(O.no rfl).resolve_left (by simp)];cases hx with
   | ok hb=>cases hb
   | no _ ha=>exact .no (.inr rfl) ha
 | false=>
 rw[show pre [46] (ty,l6).2=some l8 from(O.ok rfl).2,oO];exact hx
theorem S7 {s:ByteArray} {n:Int} {l:Bl} (hr:Atl s n l) (N:Nat) (Q:QT [.ag 9,.str,.i,.bool])
  (hQ:∀ d n' b' N',N<=N'->Rd Tm.Is s false ((xl (word l).1).map λn=>(TP n,(word l).2)) d n' b'->Q d s n' b' N'):BCalls prog 83 [.ag 9,.str,.i,.bool] [.pb 0 0 0 0] [.var [.str s,.j n,.bool false]] N Q:=by
 refine CJ N s n false Q λE N1 ac=>H5 hr _ N1 _ λn2 N2 ae I _ N3 ah=>Xu _ (tG hr) N3 _ (λm N4 J O _=>Br.of (λh=>by cases h) λ_ U Y=>pA U m _ λN6 aa _ _=>⟨yY,λN7 ab=>hQ _ _ _ _ (by omega) (.ok rfl (t:=TP m) (r:=(word l).2) ?_ (sy 2 m (by decide)) I)⟩) λN4 J O _=>Br.of (λh=>by cases h) λ_ U Y=>pA U 0 _ λN6 aa _ _=>⟨yY,λN7 ab=>hQ _ _ _ _ (by omega) (.no (.inr ?_) I)⟩
 ·rw[show xl (word l).1=some m from O];rfl
 ·rw[show xl (word l).1=none from O];rfl
end Go.Proofs.YtlaniepnglheoaaGreatDoor
set_option maxRecDepth 100000
namespace Go.Proofs.YtlaniepnglheoaaGreatDoor
open Go Go.Proofs Go.Proofs.Tryz Go.IntWalk
theorem Wv {dep:Int} {T:Bl->Option (Tm × Bl)} (hT:KL dep T) {s:ByteArray} {n:Int} {l:Bl} (hr:Atl s n l) (N:Nat) (Q:QT [.ag 9,.str,.i,.bool])
  (hQ:∀ d n' b' N',N<=N'->Rd Tm.Is s false (rx true T l) d n' b'->Q d s n' b' N'):BCalls prog 82 [.ag 9,.str,.i,.bool] [.pb 0 0 0 0,.j dep] [.var [.str s,.j n,.bool false]] N Q:=by
 refine ER N dep s n false Q λE N1 bq=>?_;have fin:∀ {m:Option (Tm × Bl)},rx true T l=m->∀ N1,N<=N1->∀ d n' b' N',N1<=N'->Rd Tm.Is s false m d n' b'->N1<=N'->Bel N' d->zZ E [.var [.str (bytes []),.j 0,.bool false]]/\∀ N3,N'<=N3->Q d s n' b' N3:=λ{m} hm N1 h1 d n' b' N' h J _ _=>⟨yY,λN3 h3=>hQ _ _ _ _ (by omega) (by rw[hm];exact J)⟩
 have form:∀ {p r:Bl} {k:Int} {nm:Bl} {n2:Nat} {n':Int},pre p l=some r->Atl s n' r->(∀ r,rx true T (p++r)=mkF k nm [] tZero tZero (wZ T [32] [41] n2 true r))->(⟨nm.toArray⟩:ByteArray).size<=1000->1<=n2/\n2<=3->∀ N1,N<=N1->BCalls prog 145 [.ag 9,.str,.i,.bool] [.pb 0 0 0 0,.dg 9 (.ag [.j k,.t (⟨nm.toArray⟩),.t (bytes []),.j 0,.j 0,.sl none 2 [] 0,.j 0,.sl none 2 [] 0,.sl none 9 [] 0]),.j (n2:Int),.j dep] [.var [.str s,.j n',.bool false]] N1 (λd s n b N2=>N1<=N2->Bel N2 d->zZ E [.var [.str (bytes []),.j 0,.bool false]]/\∀ N3,N2<=N3->Q d s n b N3):=λ{p r k nm n2 n'} I ba hi hs hn N1 h1=>T1 hT k (by omega) n2 hn ba false N1 _ λd bb b' N' h J=>fin (by rw[yG I];exact hi r) N1 h1 d bb b' N' h J;refine vw hr _ (by decide) _ N1 _ (λr n2 N2 bc _ I bd _=>Br.of (λ_ N3 bg=>?_) λh=>by cases h) λN2 bc h1 _=>Br.of (λh=>by cases h) λ_ N3 bg=>?_
 ·exact Xt hT bd E N3 _ λd n' b' N' h J=>hQ _ _ _ _ (by omega) (by rw[yG I];exact(Ng true T r) ▸ J)
 refine vw hr _ (by decide) _ N3 _ (λr n4 N4 bh _ I aj _=>Br.of (λ_ N5 bi=>?_) λh=>by cases h) λN4 bh h2 _=>Br.of (λh=>by cases h) λ_ N5 bi=>?_
 ·refine H5 aj _ N5 _ λn6 N6 ak O _ N7 al=>tg O _ (by decide) _ N7 _ (λr8 n8 N8 aa _ hq ab _ N9 ac=>?_) λN8 aa hq _ N9 ac=>?_
  ·exact T1 hT 8 (by have:=tG aj;omega) 2 ⟨by omega,by omega⟩ ab false N9 _ λd n' b' N' h J=>fin (by rw[yG I];exact(JG true T r).trans (by unfold JI;rw[show pre [61] (word r).2=some r8 from hq];rfl)) N9 (by omega) d n' b' N' h J
  ·exact Q0 _ 2 ⟨by omega,by omega⟩ O N9 _ λd N' h _ _=>⟨yY,λao bt=>hQ _ _ _ _ (by omega) (.no (.inr (by rw[yG I];exact(JG true T r).trans (by unfold JI;rw[show pre [61] (word r).2=none from hq.resolve_left (by simp)];rfl))) O)⟩
 refine vw hr _ (by decide) _ N5 _ (λr n6 N6 ak _ I O _=>Br.of (λ_ N7 al=>?_) λh=>by cases h) λN6 ak h3 _=>Br.of (λh=>by cases h) λ_ N7 al=>?_
 ·exact Xv hT O N7 _ λd n' b' N' h J=>fin (by rw[yG I];exact Ni true T r) N7 (by omega) d n' b' N' h J
 refine vw hr _ (by decide) _ N7 _ (λr n8 N8 aa _ I ab _=>Br.of (λ_ N9 ac=>?_) λh=>by cases h) λN8 aa h4 _=>Br.of (λh=>by cases h) λ_ N9 ac=>?_
 ·exact form (nm:=[]) (n2:=3) I ab (Q5 true T) (by decide) ⟨by omega,by omega⟩ N9 (by omega)
 refine vw hr _ (by decide) _ N9 _ (λr bv ao aq _ I au _=>Br.of (λ_ ae aw=>?_) λh=>by cases h) λao aq h5 _=>Br.of (λh=>by cases h) λ_ ae aw=>?_
 ·exact form (nm:=[]) (n2:=1) I au (Nj true T) (by decide) ⟨by omega,by omega⟩ ae (by omega)
 refine vw hr _ (by decide) _ ae _ (λr bw bj ax _ I ay _=>Br.of (λ_ ah az=>?_) λh=>by cases h) λbj ax h6 _=>Br.of (λh=>by cases h) λ_ ah az=>?_
 ·exact form (nm:=[]) (n2:=1) I ay (K0 true T) (by decide) ⟨by omega,by omega⟩ ah (by omega)
 refine vw hr _ (by decide) _ ah _ (λr bz bm a6 _ I a7 _=>Br.of (λ_ ai a8=>?_) λh=>by cases h) λbm a6 h7 _=>Br.of (λh=>by cases h) λ_ ai a8=>?_
 ·exact form (nm:=[33]) (n2:=1) I a7 (Nh true T) (by decide) ⟨by omega,by omega⟩ ai (by omega)
 have hf:Fst l:=⟨h7.resolve_left (by simp),h4.resolve_left (by simp),h5.resolve_left (by simp),h6.resolve_left (by simp),h2.resolve_left (by simp),h1.resolve_left (by simp),h3.resolve_left (by simp)⟩
 refine hT s n l false ai _ hr λx b3 b7 b8 bn J _ _ Y bp=>?_;cases J with
 | @ok t r _ _ _ hm J U=>exact T2 hT U false (λ_=>J) Y _ λd n' b' N' h hd=>fin (by rw[JH true T l hf];unfold Q6;rw[hm,oO]) Y (by omega) d n' b' N' h hd
 | no hm U=>
   refine T2 hT (t:=tBl 0) U true (by simp) Y _ λd n' b' N' h hd=>fin rfl Y (by omega) d n' b' N' h ?_;have hm:=hm.resolve_left (by simp);cases hd with
   | ok h=>cases h
   | no _ ha=>exact .no (.inr (by rw[JH true T l hf];unfold Q6;rw[hm];rfl)) ha
theorem OC {k:Int}{t:Tm}{x:D}(h:t.Is x)(a:Option Addr):(Tm.mk k (bytes []) (bytes []) 0 tZero tZero [t]).Is (.ag [.j k,.t (bytes []),.t (bytes []),.j 0,.j 0,.sl none 2 [] 0,.j 0,.sl none 2 [] 0,.sl a 9 [x] 1]):=
 Tm.is_mk.2 ⟨_,_,_,_,_,_,_,rfl,hdz (by decide) (by decide),by simp,My h⟩
theorem Ww:∀(j:Nat),j<=20->∀ n1:Int,n1+j=21->KL n1 (v8 true j):=by
 intro j
 induction j with
 | zero=>intro _ n1 bq s n l b N Q Y hQ;exact rn N n1 s n b Q λE=>Br.of (λhb=>⟨yY,λN1 aa=>hQ _ _ _ _ aa (by rw[hb];exact .no (.inl rfl) Y)⟩) λ_=>Br.dec (λh=>⟨yY,λN1 aa=>hQ _ _ _ _ aa (by first | (rw[nk h];exact .no (.inr rfl) Y) | exact .no (.inr rfl) Y)⟩) λh=>by omega
 | succ j ih=>
   intro hj n1 bq s n l b N Q Y hQ;have e1:IntKind.i64.wrap (n1+1)=n1+1:=i64_in _ (by omega);have hT:=ih (by omega) (n1+1) (by omega);have ay:=Y.len;refine rn N n1 s n b Q λE=>Br.of (λhb=>⟨yY,λN1 aa=>hQ _ _ _ _ aa (by rw[hb];exact .no (.inl rfl) Y)⟩) λhb=>Br.dec (λ_=>by omega) λhd=>Br.dec (λbt=>⟨yY,λN1 aa=>hQ _ _ _ _ aa ?_⟩) λbv N1 aa=>?_
   ·have:l=[]:=oV (by omega);subst this
    first | (rw[nk bt];exact .no (.inr (by simp[v8,pre,Lj])) Y) | exact .no (.inr (by simp[v8,pre,Lj])) Y
   subst hb;rw[e1]
   try rw[mB bv]
   have one:∀(T:Bl->Option (Tm × Bl)) (e l:Bl) (k:Int),mkF k [] [] tZero tZero (wZ T [] e 1 true l)=(T l).bind λx=>(pre e x.2).map λr=>(.mk k (bytes []) (bytes []) 0 tZero tZero [x.1],r):=λT e l k=>by
    rw[WE];unfold mkF;cases T l with
    | none=>rfl
    | some x=>simp only[oO];cases pre e x.2<;>rfl
   refine vw Y _ (by decide) _ N1 _ (λr n2 N2 bw _ hp U _=>Br.of (λ_ N3 bz=>rI N3 1 _ λN4 az _ _=>⟨yY,λN5 a6=>hQ _ _ _ _ (by omega) ?_⟩) λh=>by cases h) λN2 bw h1 _=>Br.of (λh=>by cases h) λ_ N3 bz=>?_
   ·exact .ok rfl (t:=tBl 1) (by rw[yG hp];exact YM true r j) (sy 3 1 (by decide)) U
   refine vw Y _ (by decide) _ N3 _ (λr n2 N4 az _ hp U _=>Br.of (λ_ N5 a6=>rI N5 0 _ λN6 a7 _ _=>⟨yY,λN7 a8=>hQ _ _ _ _ (by omega) ?_⟩) λh=>by cases h) λN4 az h2 _=>Br.of (λh=>by cases h) λ_ N5 a6=>?_
   ·exact .ok rfl (t:=tBl 0) (by rw[yG hp];exact YL true r j) (sy 3 0 (by decide)) U
   refine vw Y _ (by decide) _ N5 _ (λr n2 N6 a7 _ hp U _=>Br.of (λ_ N7 a8=>?_) λh=>by cases h) λN6 a7 h3 _=>Br.of (λh=>by cases h) λ_ N7 a8=>?_
   ·have em:v8 true (j+1) l=(v8 true j r).bind λx=>(pre [] x.2).map λr=>(.mk 11 (bytes []) (bytes []) 0 tZero tZero [x.1],r):=by rw[yG hp];exact(T8 true r j).trans (one _ _ _ _)
    refine hT s n2 r false N7 _ U λx n8 b8 N8 ba hx _ _=>⟨⟨rfl,rfl⟩,⟨rfl,rfl⟩,⟨rfl,rfl⟩,λa N9 bb _=>⟨yY,λal ai=>hQ _ _ _ _ (by omega) ?_⟩⟩
    cases hx with
    | ok _ hm hx aq=>exact .ok rfl (by rw[em,hm];rfl) (OC hx a) aq
    | no hm aq=>exact .no (.inr (by rw[em,hm.resolve_left (by simp)];rfl)) aq
   refine vw Y _ (by decide) _ N7 _ (λr n2 N8 ba _ hp U _=>Br.of (λ_ N9 bb=>?_) λh=>by cases h) λN8 ba h4 _=>Br.of (λh=>by cases h) λ_ N9 bb=>?_
   ·have em:v8 true (j+1) l=(v8 true j r).bind λx=>(pre [62] x.2).map λr=>(.mk 10 (bytes []) (bytes []) 0 tZero tZero [x.1],r):=by rw[yG hp];exact(T7 true r j).trans (one _ _ _ _)
    refine hT s n2 r false N9 _ U λx b9 ca al ai hx _ _ I J=>?_;cases hx with
    | @ok t r' _ _ _ hm hx ab=>rw[hm,oO]at em;refine tg ab _ (by decide) _ I _ (λbc ao ae O _ hq aj _=>⟨⟨rfl,rfl⟩,⟨rfl,rfl⟩,⟨rfl,rfl⟩,⟨rfl,rfl⟩,⟨rfl,rfl⟩,λa ah ac _=>⟨yY,λau ak=>hQ _ _ _ _ (by omega) (.ok rfl (by rw[em,show pre [62] (t,r').2=some bc from hq];rfl) (OC hx a) aj)⟩⟩) λae O hq _=>⟨⟨rfl,rfl⟩,⟨rfl,rfl⟩,⟨rfl,rfl⟩,⟨rfl,rfl⟩,⟨rfl,rfl⟩,λa ah ac _=>⟨yY,λau ak=>hQ _ _ _ _ (by omega) (.no (.inr (by rw[em,show pre [62] (t,r').2=none from hq.resolve_left (by simp)];rfl)) ab)⟩⟩
    | no hm ab=>exact tg ab _ (by decide) _ I _ (λbc ao ae O h=>by cases h) λae O hq _=>⟨⟨rfl,rfl⟩,⟨rfl,rfl⟩,⟨rfl,rfl⟩,⟨rfl,rfl⟩,⟨rfl,rfl⟩,λa ah ac _=>⟨yY,λau ak=>hQ _ _ _ _ (by omega) (.no (.inr (by rw[em,hm.resolve_left (by simp)];rfl)) ab)⟩⟩
   refine vw Y _ (by decide) _ N9 _ (λr n2 al ai _ hp U _=>Br.of (λ_ I J=>?_) λh=>by cases h) λal ai h5 _=>Br.of (λh=>by cases h) λ_=>?_
   ·exact Wv hT U I _ λx ao b3 ae O hx _ _=>⟨yY,λah ac=>hQ _ _ _ _ (by omega) (by rw[yG hp];exact(AQ true r j) ▸ hx)⟩
   cases l with
   | nil=>simp only[oN]at ay;omega
   | cons c l=>
   have em:v8 true (j+1) (c::l)=Lj true (c::l):=by simp only[v8,show pre [35,116] (c::l)=none from h1.resolve_left (by simp),show pre [35,102] (c::l)=none from h2.resolve_left (by simp),show pre [60] (c::l)=none from h4.resolve_left (by simp),show pre [126] (c::l)=none from h3.resolve_left (by simp),show pre [40] (c::l)=none from h5.resolve_left (by simp)]
   rw[em]at hQ;have hg:=Y.get;have bd:0<=n/\n<(s.size:Int):=⟨Y.lo,by omega⟩
   have wd:CL c=false->∀ I,al<=I->BCalls prog 84 [.str,.str,.i,.bool] [.pb 0 0 0 0] [.var [.str s,.j n,.bool false]] I (λbg bh bi bj bm=>I<=bm->∀ aw,bm<=aw->ACalls prog 77 [.ag 9] [.str bg] aw (λbn ax=>aw<=ax->Bel ax bn->zZ E [.var [.str (bytes []),.j 0,.bool false]]/\∀ bp,ax<=bp->Q bn bh bi bj bp)):=λhc I J=>H5 Y _ I _ λao ae O aj _ ah ac=>Dg ah _ _ λau ak _ _=>⟨yY,λcc b7=>hQ _ _ _ _ (by omega) (.ok rfl (t:=tVr (word (c::l)).1) (by simp only[Lj,hc,mE,na]) (sy 1 0 (oR (tG Y) (by omega))) aj)⟩
   have cd:∀ {P:Prop},(48<=c.toNat/\c.toNat<=57)->(CL c=true->P)->P:=λh k=>k (by unfold CL;exact nk h);have cn:¬(48<=c.toNat/\c.toNat<=57)->CL c=false:=λh=>by unfold CL;exact mB h
   rw[hg];exact⟨bd,Br.dec (λg1=>⟨bd,Br.dec (λg2 I J=>S7 Y I _ λd ao b3 ae O hd _ _=>⟨yY,λah ac=>hQ _ _ _ _ (by omega) (by have hc:CL c=true:=(by unfold CL;exact nk (by omega));simp only[Lj,hc,mF];exact hd)⟩) λg2 I J=>wd (cn (by omega)) I J⟩) λg1 I J=>wd (cn (by omega)) I J⟩
end Go.Proofs.YtlaniepnglheoaaGreatDoor
