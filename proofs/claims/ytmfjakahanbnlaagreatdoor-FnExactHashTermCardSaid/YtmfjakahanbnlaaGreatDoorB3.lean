/- Texts of types and terms: what they are, and how long (no program in sight). -/
import Derived.Test.YtmfjakahanbnlaaGreatDoorB2
import Derived.Test.YtmfjakahanbnlaaGreatDoorKf
import Derived.Shelf.Strings.OnBuilder
import Derived.Test.YtmfjakahanbnlaaGreatDoorA4
set_option linter.unusedVariables false
set_option linter.unusedSimpArgs false
set_option maxRecDepth 100000
namespace Go.Proofs.YtmfjakahanbnlaaGreatDoor
open Go Go.Proofs Go.Proofs.Tryz Go.IntWalk
def zCC (b:ByteArray):List ByteArray->ByteArray
 | []=>bytes []
 | s::l=>b++s++zCC b l
/-- texts, one behind the other, with a text between -/
def um (b:ByteArray):List ByteArray->ByteArray
 | []=>bytes []
 | s::l=>s++zCC b l
mutual
def zCK:Ty->ByteArray
 | .mk k l=>if k=1 then bytes [73] else if k=2 then bytes [66] else if k=3 then bytes [40]++(zIH l).getD 0 (bytes [])++bytes [62]++(zIH l).getD 1 (bytes [])++bytes [41] else bytes [60]++(zIH l).getD 0 (bytes [])++bytes [62]
def zIH:List Ty->List ByteArray
 | []=>[]
 | t::l=>zCK t::zIH l
end
def xo (k:Int) (nm ot:ByteArray) (n:Int) (ty re:Ty) (ws:List ByteArray):ByteArray:=
 if k=1 then nm else if k=2 then zJW n.toNat else if k=3 then bytes [35]++bytes [if n=0 then 102 else 116]
 else if k=4 then (if ws.length=1 then bytes [40,33]++ws.getD 0 (bytes [])++bytes [41] else bytes [40]++ws.getD 0 (bytes [])++nm++ws.getD 1 (bytes [])++bytes [41])
 else if k=5 then bytes [40,105,102,32]++um (bytes [32]) ws++bytes [41]
 else if k=6 then bytes [40,92]++nm++bytes [58]++zCK ty++bytes [46]++ws.getD 0 (bytes [])++bytes [41]
 else if k=7 then bytes [40]++um (bytes [32]) ws++bytes [41]
 else if k=8 then bytes [40,108,101,116,32]++nm++bytes [61]++um (bytes [32]) ws++bytes [41]
 else if k=9 then bytes [40,114,101,99,32]++nm++bytes [32]++ot++bytes [58]++zCK ty++bytes [62]++zCK re++bytes [46]++ws.getD 0 (bytes [])++bytes [41]
 else if k=10 then bytes [60]++ws.getD 0 (bytes [])++bytes [62]
 else if k=11 then bytes [126]++ws.getD 0 (bytes [])
 else if k=12 then bytes [40,114,117,110,32]++ws.getD 0 (bytes [])++bytes [41]
 else bytes [40,108,105,102,116,32]++ws.getD 0 (bytes [])++bytes [41]
section
variable (nm ot:ByteArray) (n:Int) (ty re:Ty) (ws:List ByteArray)
theorem zLM:xo 1 nm ot n ty re ws=nm:=rfl
theorem zLJ:xo 2 nm ot n ty re ws=zJW n.toNat:=rfl
theorem zLh:xo 3 nm ot n ty re ws=bytes [35]++bytes [if n=0 then 102 else 116]:=rfl
theorem zKG:xo 4 nm ot n ty re ws=if ws.length=1 then bytes [40,33]++ws.getD 0 (bytes [])++bytes [41] else bytes [40]++ws.getD 0 (bytes [])++nm++ws.getD 1 (bytes [])++bytes [41]:=rfl
theorem zLc:xo 5 nm ot n ty re ws=bytes [40,105,102,32]++um (bytes [32]) ws++bytes [41]:=rfl
theorem zLN:xo 6 nm ot n ty re ws=bytes [40,92]++nm++bytes [58]++zCK ty++bytes [46]++ws.getD 0 (bytes [])++bytes [41]:=rfl
theorem zK9:xo 7 nm ot n ty re ws=bytes [40]++um (bytes [32]) ws++bytes [41]:=rfl
theorem zLY:xo 8 nm ot n ty re ws=bytes [40,108,101,116,32]++nm++bytes [61]++um (bytes [32]) ws++bytes [41]:=rfl
theorem zLQ:xo 9 nm ot n ty re ws=bytes [40,114,101,99,32]++nm++bytes [32]++ot++bytes [58]++zCK ty++bytes [62]++zCK re++bytes [46]++ws.getD 0 (bytes [])++bytes [41]:=rfl
theorem zJM:xo 10 nm ot n ty re ws=bytes [60]++ws.getD 0 (bytes [])++bytes [62]:=rfl
theorem zJm:xo 11 nm ot n ty re ws=bytes [126]++ws.getD 0 (bytes []):=rfl
theorem zJL:xo 12 nm ot n ty re ws=bytes [40,114,117,110,32]++ws.getD 0 (bytes [])++bytes [41]:=rfl
theorem zI7:xo 13 nm ot n ty re ws=bytes [40,108,105,102,116,32]++ws.getD 0 (bytes [])++bytes [41]:=rfl
end
mutual
def Tm.tx:Tm->ByteArray
 | .mk k nm ot n ty re l=>xo k nm ot n ty re (txs l)
def txs:List Tm->List ByteArray
 | []=>[]
 | t::l=>t.tx::txs l
end
theorem zD3:∀ l:List Tm,(txs l).length=l.length
 | []=>rfl
 | x::l=>by simp [txs,zD3 l]
/-- how long strings are, one behind the other -/
def tot:List ByteArray->Nat
 | []=>0
 | s::l=>s.size+1+tot l
theorem qg:∀ l:List ByteArray,l.length<=tot l
 | []=>by simp [tot]
 | x::l=>by have:=qg l;simp only [tot,oR];omega
theorem zAi (b:ByteArray) (hb:b.size<=1):∀ l:List ByteArray,(zCC b l).size<=tot l
 | []=>by simp [zCC,tot];rfl
 | x::l=>by have:=zAi b hb l;simp only [zCC,tot,oD];omega
theorem uc (b:ByteArray) (hb:b.size<=1):∀ l:List ByteArray,(um b l).size<=tot l
 | []=>by simp [um,tot];rfl
 | x::l=>by have:=zAi b hb l;simp only [um,tot,oD];omega
theorem b0:(bytes []).size=0:=rfl
theorem b1 (a:Nat):(bytes [a]).size=1:=rfl
theorem b2 (a b:Nat):(bytes [a,b]).size=2:=rfl
theorem b4 (a b c d:Nat):(bytes [a,b,c,d]).size=4:=rfl
theorem b5 (a b c d e:Nat):(bytes [a,b,c,d,e]).size=5:=rfl
theorem b6 (a b c d e f:Nat):(bytes [a,b,c,d,e,f]).size=6:=rfl
inductive Wf:Ty->Prop
 | int:Wf zLy
 | bool:Wf zLX
 | fn {a b:Ty}:Wf a->Wf b->Wf (zKO a b)
 | code {a:Ty}:Wf a->Wf (zF4 a)
theorem zI6:∀ t:Ty,t.form=true->Wf t:=by
 refine Ty.ind fun k l ih h=>?_
 simp only [Ty.form,oL] at h
 obtain ⟨h1,h2⟩:=h
 have sub:∀ t∈l,Wf t:=fun t ht=>ih t ht (by
  have key:∀ l:List Ty,wq l=true->∀ t∈l,t.form=true:=by
   intro l
   induction l with
   | nil=>intro _ t ht;simp at ht
   | cons x l ihl=>
     intro h t ht
     simp only [wq,oL] at h
     rcases oI.1 ht with rfl | ht
     ·exact h.1
     ·exact ihl h.2 t ht
  exact key l (by first | exact h1 | exact h2) t ht)
 have hk:p7 k l.length=true:=by first | exact h1 | exact h2
 unfold p7 at hk
 split at hk
 ·rename_i hk2
  have:l=[]:=oX (by have:=mJ.1 hk;omega)
  subst this
  rcases hk2 with rfl | rfl
  ·exact .int
  ·exact .bool
 split at hk
 ·rename_i hk3;subst hk3
  have h2:l.length=2:=by have:=mJ.1 hk;omega
  match l,h2,sub with
  | [a,b],_,sub=>exact .fn (sub a (by simp)) (sub b (by simp))
 split at hk
 ·rename_i hk4;subst hk4
  have h1:l.length=1:=by have:=mJ.1 hk;omega
  match l,h1,sub with
  | [a],_,sub=>exact .code (sub a (by simp))
 ·cases hk
theorem yp {t:Ty} (h:t.valid=true):Wf t/\t.cnt<=30:=by
 refine ⟨zI6 t ?_,Ty.valid_cnt h⟩
 simp only [Ty.valid,oL] at h
 exact h.2
theorem zDh (a b:Ty):zCK (zKO a b)=bytes [40]++zCK a++bytes [62]++zCK b++bytes [41]:=rfl
theorem qB (a:Ty):zCK (zF4 a)=bytes [60]++zCK a++bytes [62]:=rfl
theorem zk {t:Ty} (hw:Wf t):(zCK t).size<=3*t.cnt:=by
 induction hw with
 | int=>decide
 | bool=>decide
 | @fn u v _ _ h1 h2=>
   have:(zKO u v).cnt=1+(u.cnt+(v.cnt+0)):=rfl
   rw [zDh];simp only [oD,b1];omega
 | @code u _ h1=>
   have:(zF4 u).cnt=1+(u.cnt+0):=rfl
   rw [qB];simp only [oD,b1];omega
theorem pF {s:ByteArray} (h:vf s=true):s.size<=4:=by
 simp only [vf,qW,oL] at h
 have:=(tJ.1 h.2.1).2
 omega
theorem zGU {s:ByteArray} (h:zEl s>0):s.size<=4:=by
 unfold zEl at h
 (repeat' split at h)<;>first | (rename_i e;rw [e];decide) | (exfalso;revert h;decide)
theorem zFn {k:Int} {nm ot:ByteArray} (h:tT k nm ot=true):nm.size<=4/\ot.size<=4:=by
 unfold tT at h
 (repeat' split at h)<;>simp only [oL,na,o7,mY] at h
 ·exact ⟨zGU h.1,by rw [h.2];decide⟩
 ·exact ⟨pF h.1,by rw [h.2];decide⟩
 ·exact ⟨pF h.1,pF h.2.1⟩
 ·rw [h.1,h.2];decide
/-- what is known of a node that is a term -/
structure NodeS (k:Int) (nm ot:ByteArray) (n:Int) (ty re:Ty) (l:List Tm):Prop extends Node k nm ot n ty re l where
 n4:nm.size<=4
 o4:ot.size<=4
 num:k=2->0<=n/\n<=10006
 bit:k=3->n=0\/n=1
 one:k=6\/k=9\/k=10\/k=11\/k=12\/k=13->l.length=1
 op:k=4->l.length=1\/l.length=2
 kind:k=1\/k=2\/k=3\/k=4\/k=5\/k=6\/k=7\/k=8\/k=9\/k=10\/k=11\/k=12\/k=13
theorem zI8 {k:Int} {nm ot:ByteArray} {n:Int} {ty re:Ty} {l:List Tm} (h:(Tm.mk k nm ot n ty re l).ok=true):NodeS k nm ot n ty re l:=by
 have nd:=zJo h
 have f:=nd.f
 simp only [yC,oL] at f
 obtain ⟨n4,o4⟩:=zFn f.2.2.2.2.2
 have hn:=tJ.1 f.2.2.2.2.1
 have har:=nd.ar
 refine { toNode:=nd,n4:=n4,o4:=o4,num:=fun hk=>?_,bit:=fun hk=>?_,one:=fun hk=>?_,op:=fun hk=>?_,kind:=zHD (nm:=nm) (by omega) }
 ·rw [if_pos hk] at hn;exact hn
 ·rw [if_neg (by omega),if_pos hk] at hn;omega
 ·unfold zCH at har
  rw [if_neg (by omega),if_neg (by omega),if_pos (by omega)] at har
  omega
 ·subst hk
  have har:(l.length:Int)=zEl nm:=har
  have h:=f.2.2.2.2.2
  simp only [tT] at h
  rw [if_pos trivial] at h
  simp only [oL,na] at h
  have:=h.1
  have hop:zEl nm=1\/zEl nm=2:=by
   revert this
   unfold zEl
   (repeat' split)<;>simp
  omega
theorem uE (ws:List ByteArray) (i:Nat):(ws.getD i (bytes [])).size<=tot ws:=by
 induction ws generalizing i with
 | nil=>simp only [List.getD_nil,b0,tot];omega
 | cons x l ih=>
   cases i with
   | zero=>simp only [List.getD_cons_zero,tot];omega
   | succ i=>have:=ih i;simp only [List.getD_cons_succ,tot];omega
theorem zBz (ws:List ByteArray):(ws.getD 0 (bytes [])).size+(ws.getD 1 (bytes [])).size<=tot ws:=by
 cases ws with
 | nil=>simp only [List.getD_nil,b0,tot];omega
 | cons x l=>have:=uE l 0;simp only [List.getD_cons_zero,List.getD_cons_succ,tot];omega
theorem zEO {k:Int} {nm ot:ByteArray} {n:Int} {ty re:Ty} {l:List Tm} (nd:NodeS k nm ot n ty re l) (ws:List ByteArray):(xo k nm ot n ty re ws).size<=tot ws+300:=by
 have h4:=nd.n4;have h5:=nd.o4
 have g0:=uE ws 0
 have g1:=zBz ws
 have gj:=uc (bytes [32]) (by decide) ws
 have ht:k=6\/k=9->(zCK ty).size<=90:=fun h=>by have:=yp (nd.vt h);have:=zk this.1;omega
 have hr:k=9->(zCK re).size<=90:=fun h=>by have:=yp (nd.vr h);have:=zk this.1;omega
 have hd:k=2->(zJW n.toNat).size<=20:=fun h=>by have:=nd.num h;rw [qz];exact px _ (by omega)
 rcases nd.kind with rfl | rfl | rfl | rfl | rfl | rfl | rfl | rfl | rfl | rfl | rfl | rfl | rfl
 ·rw [zLM];omega
 ·rw [zLJ];have:=hd rfl;omega
 ·rw [zLh];simp only [oD,b1];omega
 ·rw [zKG];split<;>simp only [oD,b1,b2]<;>omega
 ·rw [zLc];simp only [oD,b1,b4];omega
 ·rw [zLN];have:=ht (.inl rfl);simp only [oD,b1,b2];omega
 ·rw [zK9];simp only [oD,b1];omega
 ·rw [zLY];simp only [oD,b1,b5];omega
 ·rw [zLQ];have:=ht (.inr rfl);have:=hr rfl;simp only [oD,b1,b5];omega
 ·rw [zJM];simp only [oD,b1];omega
 ·rw [zJm];simp only [oD,b1];omega
 ·rw [zJL];simp only [oD,b1,b5];omega
 ·rw [zI7];simp only [oD,b1,b6];omega
theorem qt:∀ {l:List Tm} {t:Tm},t∈l->t.sz<=ut l
 | x::l,t,h=>by
   simp only [ut]
   rcases oI.1 h with rfl | h
   ·omega
   ·have:=qt h;omega
theorem zG1:∀ t:Tm,t.ok=true->t.tx.size+1<=500*t.sz:=by
 refine Tm.ind fun k nm ot n ty re l ih hok=>?_
 have nd:=zI8 hok
 have key:∀ l:List Tm,(∀ t∈l,t.tx.size+1<=500*t.sz)->tot (txs l)<=500*ut l:=by
  intro l
  induction l with
  | nil=>intro _;simp [txs,tot,ut]
  | cons x l ih=>intro h;have h1:=h x (by simp);have h2:=ih fun t ht=>h t (by simp [ht]);simp only [txs,tot,ut];omega
 have h:=key l fun t ht=>ih t ht (nd.sub t ht)
 have h2:=zEO nd (txs l)
 simp only [Tm.tx,Tm.sz]
 omega
theorem zCx {l:List Tm} (h:∀ t∈l,t.ok=true):tot (txs l)<=500*ut l:=by
 induction l with
 | nil=>simp [txs,tot,ut]
 | cons x l ih=>have h1:=zG1 x (h x (by simp));have h2:=ih fun t ht=>h t (by simp [ht]);simp only [txs,tot,ut];omega
mutual
theorem zDs (b:Bool):∀ (t:Tm) (env:NEnv) (u:List ByteArray),(can b t env u).1.cnt=t.cnt
 | .mk k nm ot n ty re l,env,u=>by
   simp only [can]
   split
   ·simp only [Tm.cnt]
   ·simp only [Tm.cnt,zEt b l]
theorem zEt (b:Bool):∀ (l:List Tm) (at_:Int) (env inner:NEnv) (i:Nat) (u:List ByteArray),z8 (r7 b l at_ env inner i u).1=z8 l
 | [],_,_,_,_,_=>rfl
 | x::xs,at_,env,inner,i,u=>by simp only [r7,z8,zDs b x,zEt b xs]
end
/-- the text of what is a term -/
def zFy (t:Tm):ByteArray:=if t.ok=true then t.tx else bytes []
theorem zH7 (t:Tm):zFy (zGu true t)=zFy (zGu false t):=by
 by_cases h:t.vok=true
 ·rw [zJN h]
 ·unfold zFy
  rw [if_neg fun hc=>h (zGb hc),if_neg fun hc=>h (zGb hc)]
/-- a text's number -/
def zAK:List UInt8->Int->Int
 | [],h=>h
 | b::l,h=>zAK l ((31*h+b.toNat) % 1000003)
end Go.Proofs.YtmfjakahanbnlaaGreatDoor
namespace Go.Proofs
namespace YtmfjakahanbnlaaGreatDoor
open Go Go.Proofs Go.Proofs.Tryz Go.RowKit Go.Shelf
def zKW:Go.Shelf.Ren:=⟨fun x=>match x with | 156=>159 | 165=>221 | 166=>222 | 169=>223 | 240=>265 | 241=>266 | 276=>289 | 277=>290 | n=>n,fun x=>match x with | 0=>0 | 3=>3 | 4=>4 | 5=>5 | 9=>9 | 20=>20 | 31=>116 | 37=>59 | 70=>216 | 72=>218 | 75=>220 | 76=>221 | 80=>136 | 127=>248 | 164=>260 | n=>n,fun n=>n⟩
theorem zJZ:Lays.n156 Tryz.prog zKW where
 mixed:=by kernel_rfl
 f156:=Tryz.func159.trans (o9 some (by kernel_rfl))
 f165:=Tryz.func221.trans (o9 some (by kernel_rfl))
 f166:=Tryz.func222.trans (o9 some (by kernel_rfl))
 f169:=Tryz.func223.trans (o9 some (by kernel_rfl))
 f240:=Tryz.func265.trans (o9 some (by kernel_rfl))
 f241:=Tryz.func266.trans (o9 some (by kernel_rfl))
 f276:=Tryz.func289.trans (o9 some (by kernel_rfl))
 f277:=Tryz.func290.trans (o9 some (by kernel_rfl))
 t0:=Tryz.underlying0
 a0:=Tryz.isAgg0
 z0:=Tryz.sizeOf0
 v0:=Tryz.zeroValue0
 t3:=Tryz.underlying3
 a3:=Tryz.isAgg3
 z3:=Tryz.sizeOf3
 v3:=Tryz.zeroValue3
 t4:=Tryz.underlying4
 a4:=Tryz.isAgg4
 z4:=Tryz.sizeOf4
 v4:=Tryz.zeroValue4
 t9:=Tryz.underlying9
 a9:=Tryz.isAgg9
 z9:=Tryz.sizeOf9
 v9:=Tryz.zeroValue9
 t20:=Tryz.underlying20
 a20:=Tryz.isAgg20
 z20:=Tryz.sizeOf20
 v20:=Tryz.zeroValue20
 t31:=Tryz.underlying116
 a31:=Tryz.isAgg116
 z31:=Tryz.sizeOf116
 v31:=Tryz.zeroValue116
 t37:=Tryz.underlying59
 a37:=Tryz.isAgg59
 z37:=Tryz.sizeOf59
 v37:=Tryz.zeroValue59
 t70:=Tryz.underlying216
 a70:=Tryz.isAgg216
 z70:=Tryz.sizeOf216
 v70:=Tryz.zeroValue216
 t72:=Tryz.underlying218
 a72:=Tryz.isAgg218
 z72:=Tryz.sizeOf218
 v72:=Tryz.zeroValue218
 t75:=Tryz.underlying220
 a75:=Tryz.isAgg220
 z75:=Tryz.sizeOf220
 v75:=Tryz.zeroValue220
 t76:=Tryz.underlying221
 a76:=Tryz.isAgg221
 z76:=Tryz.sizeOf221
 v76:=Tryz.zeroValue221
 t127:=Tryz.underlying248
 a127:=Tryz.isAgg248
 z127:=Tryz.sizeOf248
 v127:=Tryz.zeroValue248
 t164:=Tryz.underlying260
 a164:=Tryz.isAgg260
 z164:=Tryz.sizeOf260
 v164:=Tryz.zeroValue260
theorem zJH:Builder.Extra Tryz.prog zKW where
 sizeBuilder:=by kernel_rfl
 liesBuilder:=by kernel_rfl
 t5:=Tryz.underlying5
 a5:=Tryz.isAgg5
 z5:=Tryz.sizeOf5
 v5:=Tryz.zeroValue5
 infoByte:=by kernel_rfl
 cellsByte:=by kernel_rfl
 sizeByte:=by kernel_rfl
 neB5:=by decide
theorem pz (b:ByteArray):∀ l:List ByteArray,(zCC b l).data.toList=Lib.joinTail b.data.toList (l.map (·.data.toList))
 | []=>rfl
 | s::l=>by simp only [zCC,zA2,pz b l,Lib.joinTail,oq,List.flatten_cons]
theorem r9 (b:ByteArray) (l:List ByteArray):(um b l).data.toList=Lib.join (l.map (·.data.toList)) b.data.toList:=by
 cases l with
 | nil=>rfl
 | cons s l=>simp only [um,zA2,pz,oq,Lib.join_cons]
theorem zDm (l:List ByteArray):zg (zA l)=zA l:=by
 induction l with
 | nil=>rfl
 | cons s l ih=>simp only [zA,oq,xk,D.cells] at ih ⊢;rw [ih];rfl
theorem zD9 {u:ByteArray} {N:Nat} {Q:QT [.str]} {av:Nat->Prop} {w0 w:World} (hN:w0.heap.size=N) (hQ:∀ N',N<=N'->Q u N') (hk:Below w0.heap.size w0 w):Fin [.str] Q av w0 (.returned (.string u)) w:=
 ⟨[.str u],[],[],{ q:=hQ _ (by have:=hk.size;omega),v:=rfl,m:=⟨rfl,by simp,by simp,by simp,fun k j b h=>by obtain ⟨_,h2,_⟩:=h;simp [Env.at] at h2⟩,ok:=fun p hp=>by simp at hp;subst hp;trivial,fresh:=fun k b h=>by simp [Env.at] at h,size:=hk.size,old:=hk.block,fz:=fun _ _ _ _ _ _=>trivial,ku:=⟨hk.os,hk.output⟩ }⟩
theorem zAG (ws:List ByteArray) (by_:ByteArray) (hby:by_.size<=1) (h:tot ws<=140737488355328) (a:Option Addr) (c:Nat):wM 159 [.sv a 0 (zA ws) c,.str by_] (um by_ ws):=fun N Q hQ=>
 ⟨by kernel_rfl,fun av w0 hN hav hargs=>by
  have hg:=(hargs (.sv a 0 (zA ws) c) (by simp)).1
  simp only [PV.Ok] at hg
  have hH:=hg.1
  have hl:=zB ws
  have htl:=qg ws
  have hsz:(Lib.join (ws.map (·.data.toList)) by_.data.toList).length<=140737488355328:=by
   rw [<-r9,oh]
   exact ol (uc by_ hby ws) h
  have he:(⟨(Lib.join (ws.map (·.data.toList)) by_.data.toList).toArray⟩:ByteArray)=um by_ ws:=wP (by rw [r9])
  have hv:([PV.sv a 0 (zA ws) c,.str by_].map (PV.val [])).toArray=#[.slice a ws.length c,.string by_]:=by simp [PV.val,PV.val1,PV.cv,hl]
  rw [hv]
  have hH':∀ es,es=zA ws->Holds w0 (.sl a 0 es c):=fun es h=>h ▸ hH
  clear hH
  have key:∀ es,es=zA ws->Holds w0 (.sl a 0 es c)->(a=none/\es=[]/\c=0)\/∃ ad,a=some ad/\(es≠[]->ad.spot=none)/\es.length<=c/\Row w0 ad (zg es):=fun es _ h=>by
   cases h with
   | nil=>exact .inl ⟨rfl,rfl,rfl⟩
   | sl h1 h2 _ _ h3=>exact .inr ⟨_,rfl,h1,h2,h3⟩
  rcases key _ rfl (hH' _ rfl) with ⟨rfl,hw1,rfl⟩ | ⟨ad,rfl,hs,hc,hrow⟩
  ·have hw0:ws=[]:=nU.1 (by rw [<-hl,hw1];rfl)
   subst hw0
   refine (Any.strings_Join_none zJZ zJH none 0 by_ w0).mono fun e w ⟨h1,h2⟩=>?_
   subst h1;subst h2
   exact zD9 hN hQ (Below.refl _ _)
  ·by_cases hne:ws=[]
   ·subst hne
    refine (Any.strings_Join_none zJZ zJH _ c by_ w0).mono fun e w ⟨h1,h2⟩=>?_
    subst h1;subst h2
    exact zD9 hN hQ (Below.refl _ _)
   have hne2:zA ws≠[]:=fun hc=>hne (nU.1 (by rw [<-hl,hc];rfl))
   obtain ⟨blk,off,sp⟩:=ad
   have hsp:sp=none:=hs hne2
   subst hsp
   rw [zDm] at hrow
   rcases hrow with hrow | ⟨cc,t,fz,h1,h2⟩
   ·exact absurd hrow hne2
   have hlt:blk<w0.heap.size:=(oN.1 h1).1
   refine (Any.strings_Join zJZ zJH blk off c ws by_ w0 (fun j x hj=>?_) hlt (by omega) (by rw [<-hl];exact hc) hsz).mono fun e w ⟨h3,h4⟩=>?_
   ·have hd:(zA ws)[j]?=some (.lit (.string x)):=by simp [zA,hj]
    rw [wm h1]
    exact h2 j _ hd
   ·rw [he] at h3
    subst h3
    exact zD9 hN hQ h4⟩
theorem zEA (ws:List ByteArray) (by_:ByteArray) (hby:by_.size<=1) (h:tot ws<=140737488355328) (a:Option Addr) (c:Nat):wM 97 [.sv a 0 (zA ws) c,.str by_] (um by_ ws):=fun N Q hQ=>
 zD0 N a _ c by_ Q fun _ N1 hN1=>zAG ws by_ hby h a c N1 _ fun N2 hN2 _ N3 hN3=>hQ _ (by omega)
end YtmfjakahanbnlaaGreatDoor
end Go.Proofs
set_option maxRecDepth 100000
namespace Go.Proofs.YtmfjakahanbnlaaGreatDoor
open Go Go.Proofs Go.Proofs.Tryz Go.IntWalk
theorem zBs {t:Ty} (hw:Wf t):t.cnt<=1000000->∀ {d:D},t.Is d->wM 245 [.dg 2 d] (zCK t):=by
 induction hw with
 | int=>
   intro hc d hd N Q hQ
   obtain ⟨b,fs,k,rfl,_,h2⟩:=Ty.is_mk.1 hd
   exact xy N _ Q fun _=>⟨1,rfl,Br.beq (fun _ N1 hN1=>hQ _ hN1) fun h=>absurd rfl h⟩
 | bool=>
   intro hc d hd N Q hQ
   obtain ⟨b,fs,k,rfl,_,h2⟩:=Ty.is_mk.1 hd
   exact xy N _ Q fun _=>⟨2,rfl,Br.beq (fun h=>absurd h (by decide)) fun _=>Br.beq (fun _ N1 hN1=>hQ _ hN1) fun h=>absurd rfl h⟩
 | @fn u v hu hv ihu ihv=>
   intro hc d hd N Q hQ
   have hcc:(zKO u v).cnt=1+(u.cnt+(v.cnt+0)):=rfl
   have s1:=zk hu
   have s2:=zk hv
   obtain ⟨b,fs,k,rfl,hfl,d1,_,rfl,h3,d2,_,rfl,h4,rfl⟩:=Ty.is_mk.1 hd
   refine xy N _ Q fun _=>⟨3,rfl,Br.beq (fun h=>absurd h (by decide)) fun _=>Br.beq (fun h=>absurd h (by decide)) fun _=>Br.beq (fun _=>⟨_,_,_,rfl,⟨by simp,by simp⟩,_,_,_,rfl,⟨by simp,by simp⟩,fun N1 hN1=>?_⟩) fun h=>absurd rfl h⟩
   refine ihu (by omega) h3 N1 _ fun N2 hN2 _=>⟨by omega,by rw [oD,b1];omega,fun N3 hN3=>?_⟩
   exact ihv (by omega) h4 N3 _ fun N4 hN4 _=>⟨by simp only [oD,b1];omega,by simp only [oD,b1];omega,fun N5 hN5=>Qst (hQ _ (by omega)) (zDh u v)⟩
 | @code u hu ihu=>
   intro hc d hd N Q hQ
   have hcc:(zF4 u).cnt=1+(u.cnt+0):=rfl
   have s1:=zk hu
   obtain ⟨b,fs,k,rfl,hfl,d1,_,rfl,h3,rfl⟩:=Ty.is_mk.1 hd
   refine xy N _ Q fun _=>⟨4,rfl,Br.beq (fun h=>absurd h (by decide)) fun _=>Br.beq (fun h=>absurd h (by decide)) fun _=>Br.beq (fun h=>absurd h (by decide)) fun _=>⟨_,_,_,rfl,⟨by simp,by simp⟩,fun N1 hN1=>?_⟩⟩
   exact ihu (by omega) h3 N1 _ fun N2 hN2 _=>⟨by omega,by rw [oD,b1];omega,fun N3 hN3=>Qst (hQ _ (by omega)) (qB u)⟩
theorem zBc (l:List Int):∀ b:ByteArray,(l.foldl (fun r n=>r.push (UInt8.ofNat n.toNat)) b).data.toList=b.data.toList++l.map fun n=>UInt8.ofNat n.toNat:=by
 induction l with
 | nil=>intro b;simp
 | cons x l ih=>intro b;simp only [List.foldl_cons,ih,ByteArray.data_push,Array.toList_push,oq,nC,List.singleton_append]
theorem zCV (s:ByteArray):bytesOf (s.data.toList.map fun b=>((b.toNat:Nat):Int))=s:=wP (by
 unfold bytesOf
 rw [zBc,nc]
 show []++_=_
 rw [ou]
 conv=>rhs;rw [<-List.map_id s.data.toList]
 refine oe fun b _=>?_
 simp)
theorem zGF (s:ByteArray):zo s=(s.data.toList.map fun b=>((b.toNat:Nat):Int)).map (fun n=>D.lit (.int .u8 n)):=by simp [zo,nc,Function.comp_def]
theorem sq (s u:ByteArray):zo (s++u)=zo s++zo u:=by simp [zo]
theorem zJD (s:ByteArray):s++bytes []=s:=wP (by rw [zA2];exact od _)
theorem zJP (s:ByteArray):bytes []++s=s:=wP (by rw [zA2];rfl)
theorem tO (ws:List ByteArray) (by_:ByteArray) (hby:by_.size<=1) (h:tot ws<=140737488355328) (a:Option Addr) (c:Nat):wM 99 [.sv a 0 (zA ws) c,.str by_] (um by_ ws):=fun N Q hQ=>by
 have hwl:=zB ws
 have hlt:=qg ws
 refine zDu N a _ c by_ Q fun _=>?_
 refine up (yF ws) (by omega) (fun i xs=>∀ (acc:ByteArray) (r:List D) (q N':Nat),N<=N'->r=zo acc->acc.size+tot xs<=tot ws->(i=0->acc=bytes []/\xs=ws)->(0<i->acc++zCC by_ xs=um by_ ws)->xQ Q N a (zA ws) c by_ r.length q i r q N') ?_ ?_ (bytes []) [] 0 N (oF _) rfl (by rw [b0];omega) (fun _=>⟨rfl,rfl⟩) (fun h=>by omega)
 ·intro k hlt hk acc r q N' hN' hr hn h0 h1
  subst hr
  refine sL _ _ _ _ _ _ _ _ _ _ _ _ ?_
  rw [hlt]
  refine ⟨oF _,_,(nH (oF _)).trans (zGF acc),fun N1 hN1=>Qst (hQ _ (by omega)) ?_⟩
  rw [zCV]
  by_cases hk0:k=0
  ·obtain ⟨rfl,rfl⟩:=h0 hk0;rfl
  ·rw [<-h1 (by omega)];exact zJD acc
 ·intro k x xs hat _ ih acc r q N' hN' hr hn h0 h1
  have hb:=hat.b
  simp only [tot] at hn
  have hrl:r.length=acc.size:=by rw [hr,vF]
  refine sL _ _ _ _ _ _ _ _ _ _ _ _ ?_
  rw [hat.w,oJ]
  refine Br.of (fun _=>?_) fun h=>by rw [hat.lt] at h;cases h
  refine Br.dec (fun hk=>?_) fun hk=>?_
  ·refine ⟨⟨rfl,rfl⟩,by unfold zC;rw [oH,vF];omega,fun c1=>⟨hb,x,hat.r,⟨by trivial,by trivial⟩,by unfold zC;simp only [oH,vF];omega,fun c2=>ih (acc++by_++x) _ c2 N' hN' (by rw [hr,sq,sq]) (by simp only [oD];omega) (fun h=>by omega) fun _=>?_⟩⟩
   rw [<-h1 (by omega),zCC,mb,mb,mb]
  ·refine ⟨hb,x,hat.r,⟨rfl,rfl⟩,by unfold zC;rw [oH,vF];omega,fun c2=>ih (acc++x) _ c2 N' hN' (by rw [hr,sq]) (by simp only [oD];omega) (fun h=>by omega) fun _=>?_⟩
   obtain ⟨e1,e2⟩:=h0 (by omega)
   rw [e1,zJP,<-e2]
   rfl
theorem zCI {ws:List ByteArray} {i:Nat} (h:i<ws.length):List.getD (zA ws) i default=D.lit (.string (ws.getD i (bytes []))):=by
 have hg:ws[i]?=some (ws.getD i (bytes [])):=by rw [oA,oG h];rfl
 exact uT hg
theorem zGs {n:Int} (h:n=0\/n=1):ByteArray.extract (bytes [102,116]) n.toNat (IntKind.i64.wrap (n+1)).toNat=bytes [if n=0 then 102 else 116]:=by
 rcases h with rfl | rfl<;>decide +kernel
theorem zH5 {k n:Int} {nm ot:ByteArray} {ty re:Ty} {l:List Tm} (nd:NodeS k nm ot n ty re l) {t0 t1 r0 r1 x:D} (hh:Tm.Hd nm ot ty re t0 t1 r0 r1) {ws:List ByteArray} (hws:tot ws<=2000000000) (hl:ws.length=l.length) (hk:k≠1/\k≠2/\k≠3/\k≠4/\k≠10/\k≠11) (a:Option Addr) (c:Nat) :
  wM 189 [.dg 9 (.ag [.lit (.int .i64 k),.lit (.string nm),.lit (.string ot),.lit (.int .i64 n),t0,t1,r0,r1,x]),.sv a 0 (zA ws) c] (xo k nm ot n ty re ws):=fun N Q hQ=>by
 have hwl:=zB ws
 have n4:=nd.n4;have o4:=nd.o4
 have g0:=uE ws 0
 have gj:=uc (bytes [32]) (by decide) ws
 have one:0<ws.length->((0:Int)<=(0:Int)/\0<((zA ws).length:Int)):=fun h=>⟨by omega,by omega⟩
 have ne:k=6\/k=9\/k=10\/k=11\/k=12\/k=13->0<ws.length:=fun h=>by have:=nd.one h;omega
 refine zBK N _ a _ c Q fun _ _=>⟨k,rfl,Br.beq (fun h5 N1 hN1=>?_) fun h5=>Br.beq (fun h6=>?_) fun h6=>Br.beq (fun h7 N1 hN1=>?_) fun h7=>Br.beq (fun h8=>⟨nm,rfl,by omega,by simp only [oD,b5];omega,fun N1 hN1=>?_⟩) fun h8=>Br.beq (fun h9=>?_) fun h9=>Br.beq (fun h12=>?_) fun h12=>?_⟩
 ·subst h5
  exact tO ws _ (by decide) (by omega) a c N1 _ fun N2 hN2 _=>⟨by omega,by simp only [oD,b4];omega,fun N3 hN3=>Qst (hQ _ (by omega)) (zLc ..)⟩
 ·subst h6
  have hv:=yp (nd.vt (.inl rfl))
  have hts:=zk hv.1
  refine ⟨nm,rfl,by omega,by simp only [oD,b2];omega,one (ne (by omega)),_,zCI (ne (by omega)),fun N1 hN1=>?_⟩
  exact zBs hv.1 (by omega) hh.ty N1 _ fun N2 hN2 _=>⟨by simp only [oD,b2,b1];omega,by simp only [oD,b2,b1];omega,by simp only [oD,b2,b1];omega,by simp only [oD,b2,b1];omega,fun N3 hN3=>Qst (hQ _ (by omega)) (zLN ..)⟩
 ·subst h7
  exact tO ws _ (by decide) (by omega) a c N1 _ fun N2 hN2 _=>⟨by omega,by simp only [oD,b1];omega,fun N3 hN3=>Qst (hQ _ (by omega)) (zK9 ..)⟩
 ·subst h8
  exact tO ws _ (by decide) (by omega) a c N1 _ fun N2 hN2 _=>⟨by simp only [oD,b5,b1];omega,by simp only [oD,b5,b1];omega,fun N3 hN3=>Qst (hQ _ (by omega)) (zLY ..)⟩
 ·subst h9
  have hv:=yp (nd.vt (.inr rfl))
  have hv2:=yp (nd.vr rfl)
  have hts:=zk hv.1
  have hts2:=zk hv2.1
  refine ⟨nm,rfl,by omega,by simp only [oD,b5];omega,ot,rfl,by simp only [oD,b5,b1];omega,by simp only [oD,b5,b1];omega,one (ne (by omega)),_,zCI (ne (by omega)),fun N1 hN1=>?_⟩
  refine zBs hv.1 (by omega) hh.ty N1 _ fun N2 hN2 _=>⟨by simp only [oD,b5,b1];omega,by simp only [oD,b5,b1];omega,fun N3 hN3=>?_⟩
  exact zBs hv2.1 (by omega) hh.re N3 _ fun N4 hN4 _=>⟨by simp only [oD,b5,b1];omega,by simp only [oD,b5,b1];omega,by simp only [oD,b5,b1];omega,by simp only [oD,b5,b1];omega,fun N5 hN5=>Qst (hQ _ (by omega)) (zLQ ..)⟩
 ·subst h12
  exact ⟨one (ne (by omega)),_,zCI (ne (by omega)),by omega,by simp only [oD,b5];omega,fun N1 hN1=>Qst (hQ _ (by omega)) (zJL ..)⟩
 ·have hc:=nd.kind
  obtain rfl:k=13:=by omega
  exact ⟨one (ne (by omega)),_,zCI (ne (by omega)),by omega,by simp only [oD,b6];omega,fun N1 hN1=>Qst (hQ _ (by omega)) (zI7 ..)⟩
theorem zIN:∀ t:Tm,t.ok=true->t.sz<=4000000->∀ d,t.Is d->wM 119 [.dg 9 d] t.tx:=by
 refine Tm.ind fun k nm ot n ty re l ih hok hsz d hd N Q hQ=>?_
 obtain ⟨t0,t1,r0,r1,a,es,c,rfl,hh,hlen,hes⟩:=Tm.is_mk.1 hd
 have nd:=zI8 hok
 have hel:=hes.len
 have n4:=nd.n4;have o4:=nd.o4
 have hs:(Tm.mk k nm ot n ty re l).sz=1+ut l:=by simp only [Tm.sz]
 have htot:=zCx nd.sub
 have hlen2:=zD3 l
 rw [hs] at hsz
 simp only [Tm.tx] at hQ
 have g0:=uE (txs l) 0
 have g1:=zBz (txs l)
 refine zBN N _ Q fun _=>?_
 refine up hes hlen (fun i xs=>∀ (ws:List ByteArray) (q N':Nat),N<=N'->ws.length=i->ws++txs xs=txs l->xB Q N (zA ws).length q i _ (zA ws) q N') ?_ ?_ [] 0 N (oF _) rfl rfl
 ·intro i hlt hi ws q N' hN' hwl he
  simp only [txs,od] at he
  subst he
  have hwd:=zB (txs l)
  have ps:0<(txs l).length->((0:Int)<=(0:Int)/\0<((zA (txs l)).length:Int)/\0<(zA (txs l)).length):=fun h=>⟨by omega,by omega,by omega⟩
  refine vw _ _ _ _ _ _ _ _ _ ⟨a,es,c,rfl,Br.of (fun h=>by rw [hlt] at h;cases h) fun _=>⟨k,rfl,Br.beq (fun h1=>⟨nm,rfl,fun N1 hN1=>?_⟩) fun h1=>Br.beq (fun h2=>⟨n,rfl,fun N1 hN1=>?_⟩) fun h2=>Br.beq (fun h3=>⟨n,rfl,n,rfl,?_⟩) fun h3=>Br.beq (fun h4=>?_) fun h4=>Br.beq (fun h10=>?_) fun h10=>Br.beq (fun h11=>?_) fun h11=>⟨⟨rfl,rfl⟩,fun a2 _ _ N1 hN1 _=>?_⟩⟩⟩
  ·subst h1;exact Qst (hQ _ (by omega)) (zLM ..)
  ·subst h2
   have hn:=nd.num rfl
   obtain ⟨u,rfl⟩:=Int.eq_ofNat_of_zero_le hn.1
   exact vU u (by omega) N1 _ fun N2 hN2 _ N3 hN3=>Qst (hQ _ (by omega)) (by rw [zLJ,oJ])
  ·subst h3
   have hn:=nd.bit rfl
   rw [zGs hn,i64_in (n+1) (by omega)]
   exact ⟨⟨by omega,by omega,by omega⟩,by rw [b1];decide,fun N1 hN1=>Qst (hQ _ (by omega)) (zLh ..)⟩
  ·subst h4
   have hop:=nd.op rfl
   refine Br.beq (fun hw=>?_) fun hw=>?_
   ·exact ⟨ps (by omega),by omega,_,zCI (by omega),by omega,by simp only [oD,b2];omega,fun N1 hN1=>Qst (hQ _ (by omega)) (by rw [zKG,if_pos (by omega)])⟩
   ·exact ⟨ps (by omega),by omega,_,zCI (by omega),by omega,nm,rfl,by simp only [oD,b1];omega,⟨by omega,by omega,by omega⟩,by omega,_,zCI (by omega),by simp only [oD,b1];omega,by simp only [oD,b1];omega,fun N1 hN1=>Qst (hQ _ (by omega)) (by rw [zKG,if_neg (by omega)])⟩
  ·subst h10
   have:=nd.one (by omega)
   exact ⟨ps (by omega),by omega,_,zCI (by omega),by omega,by simp only [oD,b1];omega,fun N1 hN1=>Qst (hQ _ (by omega)) (zJM ..)⟩
  ·subst h11
   have:=nd.one (by omega)
   exact ⟨ps (by omega),by omega,_,zCI (by omega),by omega,fun N1 hN1=>Qst (hQ _ (by omega)) (zJm ..)⟩
  ·exact zH5 nd hh (by omega) hlen2 ⟨h1,h2,h3,h4,h10,h11⟩ a2 q N1 _ fun N2 hN2 _ N3 hN3=>hQ _ (by omega)
 ·intro i x xs hat _ ih2 ws q N' hN' hwl he
  have hb:=hat.b
  have hx:x.sz<=ut l:=qt hat.m
  have htl:=qg (txs l)
  refine vw _ _ _ _ _ _ _ _ _ ⟨a,es,c,rfl,Br.of (fun _=>⟨a,es,c,rfl,hb,fun N1 hN1=>?_⟩) fun h=>by rw [hat.lt] at h;cases h⟩
  rw [oJ]
  refine ih x hat.m (nd.sub x hat.m) (by omega) _ hat.r N1 _ fun N2 hN2 _=>⟨⟨rfl,rfl⟩,by unfold zC;rw [oH,zB];simp only [oR,nN];omega,fun c2=>?_⟩
  have e:zA ws++[D.lit (.string x.tx)]=zA (ws++[x.tx]):=by simp [zA]
  rw [e,hat.w]
  exact ih2 (ws++[x.tx]) c2 N2 (by omega) (by simp [hwl]) (by rw [<-he];simp [txs])
theorem qG {t:Tm} {d:D} (hd:t.Is d) (hc:t.cnt<=4000000):wM 56 [.dg 9 d] (zFy t):=fun N Q hQ=>
 qT N d Q fun _ N1 hN1=>zBV t d hd (by omega) N1 _ fun N2 hN2 _=>Br.not (fun hv N3 hN3=>Qst (hQ _ (by omega)) (by rw [zFy,if_neg (by rw [hv];decide)])) fun hv N4 hN4=>
  zIN t hv (by have:=Tm.sz_cnt t;omega) d hd N4 _ fun N5 hN5 _ N6 hN6=>Qst (hQ _ (by omega)) (by rw [zFy,if_pos hv])
end Go.Proofs.YtmfjakahanbnlaaGreatDoor
set_option maxRecDepth 100000
namespace Go.Proofs.YtmfjakahanbnlaaGreatDoor
open Go Go.Proofs Go.Proofs.Tryz Go.IntWalk
theorem zFl {t:Ty} (hw:Wf t):t.cnt<=1000000->∀ {d:D},t.Is d->wM 247 [.dg 2 d] (zCK t):=by
 induction hw with
 | int=>
   intro hc d hd N Q hQ
   obtain ⟨b,fs,k,rfl,_,h2⟩:=Ty.is_mk.1 hd
   exact yx N _ Q fun _=>⟨1,rfl,Br.beq (fun _ N1 hN1=>hQ _ hN1) fun h=>absurd rfl h⟩
 | bool=>
   intro hc d hd N Q hQ
   obtain ⟨b,fs,k,rfl,_,h2⟩:=Ty.is_mk.1 hd
   exact yx N _ Q fun _=>⟨2,rfl,Br.beq (fun h=>absurd h (by decide)) fun _=>Br.beq (fun _ N1 hN1=>hQ _ hN1) fun h=>absurd rfl h⟩
 | @fn u v hu hv ihu ihv=>
   intro hc d hd N Q hQ
   have hcc:(zKO u v).cnt=1+(u.cnt+(v.cnt+0)):=rfl
   have s1:=zk hu
   have s2:=zk hv
   obtain ⟨b,fs,k,rfl,hfl,d1,_,rfl,h3,d2,_,rfl,h4,rfl⟩:=Ty.is_mk.1 hd
   refine yx N _ Q fun _=>⟨3,rfl,Br.beq (fun h=>absurd h (by decide)) fun _=>Br.beq (fun h=>absurd h (by decide)) fun _=>Br.beq (fun _=>⟨_,_,_,rfl,⟨by simp,by simp⟩,_,_,_,rfl,⟨by simp,by simp⟩,fun N1 hN1=>?_⟩) fun h=>absurd rfl h⟩
   refine ihu (by omega) h3 N1 _ fun N2 hN2 _=>⟨by omega,by rw [oD,b1];omega,fun N3 hN3=>?_⟩
   exact ihv (by omega) h4 N3 _ fun N4 hN4 _=>⟨by simp only [oD,b1];omega,by simp only [oD,b1];omega,fun N5 hN5=>Qst (hQ _ (by omega)) (zDh u v)⟩
 | @code u hu ihu=>
   intro hc d hd N Q hQ
   have hcc:(zF4 u).cnt=1+(u.cnt+0):=rfl
   have s1:=zk hu
   obtain ⟨b,fs,k,rfl,hfl,d1,_,rfl,h3,rfl⟩:=Ty.is_mk.1 hd
   refine yx N _ Q fun _=>⟨4,rfl,Br.beq (fun h=>absurd h (by decide)) fun _=>Br.beq (fun h=>absurd h (by decide)) fun _=>Br.beq (fun h=>absurd h (by decide)) fun _=>⟨_,_,_,rfl,⟨by simp,by simp⟩,fun N1 hN1=>?_⟩⟩
   exact ihu (by omega) h3 N1 _ fun N2 hN2 _=>⟨by omega,by rw [oD,b1];omega,fun N3 hN3=>Qst (hQ _ (by omega)) (qB u)⟩
theorem uJ {t:Ty} (hv:t.valid=true) {d:D} (hd:t.Is d):wM 191 [.dg 2 d] (zCK t):=fun N Q hQ=>by
 have h:=yp hv
 have hI:=xG t d hd (by omega)
 rw [hv] at hI
 exact sm N d Q fun _ N1 hN1=>hI N1 _ fun N2 hN2 _=>Br.not (fun h=>by cases h) fun _ N3 hN3=>zFl h.1 (by omega) hd N3 _ fun N4 hN4 _ N5 hN5=>hQ _ (by omega)
theorem zKp:∀ t:Tm,t.ok=true->t.sz<=4000000->∀ d,t.Is d->wM 120 [.dg 9 d] t.tx:=by
 refine Tm.ind fun k nm ot n ty re l ih hok hsz d hd N Q hQ=>?_
 obtain ⟨t0,t1,r0,r1,a,es,c,rfl,hh,hlen,hes⟩:=Tm.is_mk.1 hd
 have nd:=zI8 hok
 have hel:=hes.len
 have n4:=nd.n4;have o4:=nd.o4
 have hs:(Tm.mk k nm ot n ty re l).sz=1+ut l:=by simp only [Tm.sz]
 have htot:=zCx nd.sub
 have hlen2:=zD3 l
 rw [hs] at hsz
 simp only [Tm.tx] at hQ
 have g0:=uE (txs l) 0
 have g1:=zBz (txs l)
 have gj:=uc (bytes [32]) (by decide) (txs l)
 refine rY N _ Q fun _=>⟨a,es,c,rfl,?_⟩
 refine up hes hlen (fun i xs=>∀ (ws:List ByteArray) (q N':Nat),N<=N'->ws.length=i->ws++txs xs=txs l->yJ Q N (zA ws).length q a es c (es.length:Int) i _ (zA ws) q N') ?_ ?_ [] 0 N (oF _) rfl rfl
 ·intro i hlt hi ws q N' hN' hwl he
  simp only [txs,od] at he
  subst he
  have hwd:=zB (txs l)
  have ps:0<(txs l).length->((0:Int)<=(0:Int)/\0<((zA (txs l)).length:Int)/\0<(zA (txs l)).length):=fun h=>⟨by omega,by omega,by omega⟩
  have hj:=fun a c=>zEA (txs l) (bytes [32]) (by decide) (by omega) a c
  refine wi _ _ _ _ _ _ _ _ _ _ _ _ _ (Br.of (fun h=>by rw [hlt] at h;cases h) fun _=>⟨k,rfl,Br.beq (fun h1=>⟨nm,rfl,fun N1 hN1=>?_⟩) fun h1=>Br.beq (fun h2=>⟨n,rfl,fun N1 hN1=>?_⟩) fun h2=>Br.beq (fun h3=>⟨n,rfl,n,rfl,?_⟩) fun h3=>Br.beq (fun h4=>?_) fun h4=>Br.beq (fun h5=>⟨⟨rfl,rfl⟩,fun a2 _ N1 hN1 _=>?_⟩) fun h5=>Br.beq (fun h6=>?_) fun h6=>Br.beq (fun h7=>⟨⟨rfl,rfl⟩,fun a2 _ N1 hN1 _=>?_⟩) fun h7=>Br.beq (fun h8=>⟨nm,rfl,by omega,by simp only [oD,b5];omega,⟨rfl,rfl⟩,fun a2 _ N1 hN1 _=>?_⟩) fun h8=>Br.beq (fun h9=>?_) fun h9=>Br.beq (fun h10=>?_) fun h10=>Br.beq (fun h11=>?_) fun h11=>Br.beq (fun h12=>?_) fun h12=>?_⟩)
  ·subst h1;exact Qst (hQ _ (by omega)) (zLM ..)
  ·subst h2
   have hn:=nd.num rfl
   obtain ⟨u,rfl⟩:=Int.eq_ofNat_of_zero_le hn.1
   exact vZ u (by omega) N1 _ fun N2 hN2 _ N3 hN3=>Qst (hQ _ (by omega)) (by rw [zLJ,oJ])
  ·subst h3
   have hn:=nd.bit rfl
   rw [zGs hn,i64_in (n+1) (by omega)]
   exact ⟨⟨by omega,by omega,by omega⟩,by rw [b1];decide,fun N1 hN1=>Qst (hQ _ (by omega)) (zLh ..)⟩
  ·subst h4
   have hop:=nd.op rfl
   refine Br.beq (fun hw=>?_) fun hw=>?_
   ·exact ⟨ps (by omega),by omega,_,zCI (by omega),by omega,by simp only [oD,b2];omega,fun N1 hN1=>Qst (hQ _ (by omega)) (by rw [zKG,if_pos (by omega)])⟩
   ·exact ⟨ps (by omega),by omega,_,zCI (by omega),by omega,nm,rfl,by simp only [oD,b1];omega,⟨by omega,by omega,by omega⟩,by omega,_,zCI (by omega),by simp only [oD,b1];omega,by simp only [oD,b1];omega,fun N1 hN1=>Qst (hQ _ (by omega)) (by rw [zKG,if_neg (by omega)])⟩
  ·subst h5
   exact hj _ _ N1 _ fun N2 hN2 _=>⟨by omega,by simp only [oD,b4];omega,fun N3 hN3=>Qst (hQ _ (by omega)) (zLc ..)⟩
  ·subst h6
   have hv:=nd.vt (.inl rfl)
   have hts:=zk (yp hv).1
   have htc:=(yp hv).2
   have:=nd.one (by omega)
   refine ⟨nm,rfl,by omega,by simp only [oD,b2];omega,ps (by omega),by omega,_,zCI (by omega),fun N1 hN1=>?_⟩
   exact uJ hv hh.ty N1 _ fun N2 hN2 _=>⟨by simp only [oD,b2,b1];omega,by simp only [oD,b2,b1];omega,by simp only [oD,b2,b1];omega,by simp only [oD,b2,b1];omega,fun N3 hN3=>Qst (hQ _ (by omega)) (zLN ..)⟩
  ·subst h7
   exact hj _ _ N1 _ fun N2 hN2 _=>⟨by omega,by simp only [oD,b1];omega,fun N3 hN3=>Qst (hQ _ (by omega)) (zK9 ..)⟩
  ·subst h8
   exact hj _ _ N1 _ fun N2 hN2 _=>⟨by simp only [oD,b5,b1];omega,by simp only [oD,b5,b1];omega,fun N3 hN3=>Qst (hQ _ (by omega)) (zLY ..)⟩
  ·subst h9
   have hv:=nd.vt (.inr rfl)
   have hv2:=nd.vr rfl
   have hts:=zk (yp hv).1
   have hts2:=zk (yp hv2).1
   have htc:=(yp hv).2
   have htc2:=(yp hv2).2
   have:=nd.one (by omega)
   refine ⟨nm,rfl,by omega,by simp only [oD,b5];omega,ot,rfl,by simp only [oD,b5,b1];omega,by simp only [oD,b5,b1];omega,ps (by omega),by omega,_,zCI (by omega),fun N1 hN1=>?_⟩
   refine uJ hv hh.ty N1 _ fun N2 hN2 _=>⟨by simp only [oD,b5,b1];omega,by simp only [oD,b5,b1];omega,fun N3 hN3=>?_⟩
   exact uJ hv2 hh.re N3 _ fun N4 hN4 _=>⟨by simp only [oD,b5,b1];omega,by simp only [oD,b5,b1];omega,by simp only [oD,b5,b1];omega,by simp only [oD,b5,b1];omega,fun N5 hN5=>Qst (hQ _ (by omega)) (zLQ ..)⟩
  ·subst h10
   have:=nd.one (by omega)
   exact ⟨ps (by omega),by omega,_,zCI (by omega),by omega,by simp only [oD,b1];omega,fun N1 hN1=>Qst (hQ _ (by omega)) (zJM ..)⟩
  ·subst h11
   have:=nd.one (by omega)
   exact ⟨ps (by omega),by omega,_,zCI (by omega),by omega,fun N1 hN1=>Qst (hQ _ (by omega)) (zJm ..)⟩
  ·subst h12
   have:=nd.one (by omega)
   exact ⟨ps (by omega),by omega,_,zCI (by omega),by omega,by simp only [oD,b5];omega,fun N1 hN1=>Qst (hQ _ (by omega)) (zJL ..)⟩
  ·have hc:=nd.kind
   obtain rfl:k=13:=by omega
   have:=nd.one (by omega)
   exact ⟨ps (by omega),by omega,_,zCI (by omega),by omega,by simp only [oD,b6];omega,fun N1 hN1=>Qst (hQ _ (by omega)) (zI7 ..)⟩
 ·intro i x xs hat _ ih2 ws q N' hN' hwl he
  have hb:=hat.b
  have hx:x.sz<=ut l:=qt hat.m
  have htl:=qg (txs l)
  refine wi _ _ _ _ _ _ _ _ _ _ _ _ _ (Br.of (fun _=>⟨hb,fun N1 hN1=>?_⟩) fun h=>by rw [hat.lt] at h;cases h)
  rw [oJ]
  refine ih x hat.m (nd.sub x hat.m) (by omega) _ hat.r N1 _ fun N2 hN2 _=>⟨⟨rfl,rfl⟩,by unfold zC;rw [oH,zB];simp only [oR,nN];omega,fun c2=>?_⟩
  have e:zA ws++[D.lit (.string x.tx)]=zA (ws++[x.tx]):=by simp [zA]
  rw [e,hat.w]
  exact ih2 (ws++[x.tx]) c2 N2 (by omega) (by simp [hwl]) (by rw [<-he];simp [txs])
theorem po {t:Tm} {d:D} (hd:t.Is d) (hc:t.cnt<=4000000):wM 58 [.dg 9 d] (zFy t):=fun N Q hQ=>
 qE N d Q fun _ N1 hN1=>zBW t d hd (by omega) N1 _ fun N2 hN2 _=>Br.not (fun hv N3 hN3=>Qst (hQ _ (by omega)) (by rw [zFy,if_neg (by rw [hv];decide)])) fun hv N4 hN4=>
  zKp t hv (by have:=Tm.sz_cnt t;omega) d hd N4 _ fun N5 hN5 _ N6 hN6=>Qst (hQ _ (by omega)) (by rw [zFy,if_pos hv])
theorem zC8 (h:Int) (b:UInt8) (h0:0<=h) (h1:h<=1000003):Int.tmod (IntKind.i64.wrap (IntKind.i64.wrap (31*h)+IntKind.i64.wrap (UInt8.toNat b:Int))) 1000003=(31*h+b.toNat) % 1000003:=by
 have hb:=b.toNat_lt
 rw [i64_in (31*h) (by omega),i64_in (b.toNat:Int) (by omega),i64_in _ (by omega),mQ (by omega)]
theorem zHQ (s:ByteArray) (i:Nat) (h:i<s.size):s.data.toList.drop i=Array.getD s.data i (OfNat.ofNat 0)::s.data.toList.drop (i+1):=by
 have h':i<s.data.toList.length:=by rw [oh];exact h
 rw [mU h']
 congr 1
 rw [o0,oY (by exact h)]
 simp
theorem qJ (s:ByteArray) (hs:s.size<=4611686018427387904):zCJ 55 [.str s] (zAK s.data.toList 7):=fun N Q hQ=>by
 refine qH N s Q ?_
 have key:=upN hs (fun i=>∀ (h:Int) (N':Nat),N<=N'->0<=h->h<=1000003->zAK (s.data.toList.drop i) h=zAK s.data.toList 7->yV Q N s h i N') ?_ ?_
 ·exact key 7 N (oF _) (by omega) (by omega) rfl
 ·intro hlt h N' hN' h0 h1 he
  refine w5 _ _ _ _ _ _ ?_
  rw [hlt]
  rw [nh (by rw [oh];exact oF _)] at he
  exact Br.of (fun h=>by cases h) fun _ N1 hN1=>Qi (hQ _ (by omega)) he.symm
 ·intro i hi hlt hw ih h N' hN' h0 h1 he
  refine w5 _ _ _ _ _ _ ?_
  rw [hlt,hw]
  refine Br.of (fun _=>⟨⟨by omega,by omega⟩,by decide,?_⟩) fun h=>by cases h
  rw [oJ,zC8 h _ h0 h1]
  refine ih _ N' hN' (by omega) (by omega) ?_
  rw [<-he,zHQ s i hi,zAK]
theorem qY (s:ByteArray) (hs:s.size<=4611686018427387904):zCJ 57 [.str s] (zAK s.data.toList 7):=fun N Q hQ=>by
 refine qh N s Q ?_
 have key:=upN hs (fun i=>∀ (h:Int) (N':Nat),N<=N'->0<=h->h<=1000003->zAK (s.data.toList.drop i) h=zAK s.data.toList 7->yT Q N s h (s.size:Int) i N') ?_ ?_
 ·exact key 7 N (oF _) (by omega) (by omega) rfl
 ·intro hlt h N' hN' h0 h1 he
  refine w8 _ _ _ _ _ _ _ ?_
  rw [hlt]
  rw [nh (by rw [oh];exact oF _)] at he
  exact Br.of (fun h=>by cases h) fun _ N1 hN1=>Qi (hQ _ (by omega)) he.symm
 ·intro i hi hlt hw ih h N' hN' h0 h1 he
  refine w8 _ _ _ _ _ _ _ ?_
  rw [hlt,hw]
  refine Br.of (fun _=>⟨⟨by omega,by omega⟩,by decide,?_⟩) fun h=>by cases h
  rw [oJ,zC8 h _ h0 h1]
  refine ih _ N' hN' (by omega) (by omega) ?_
  rw [<-he,zHQ s i hi,zAK]
theorem zDN {t:Tm} (hc:t.cnt<=4000000):(zFy t).size<=4611686018427387904:=by
 unfold zFy
 split
 ·rename_i h
  have:=zG1 t h
  have:=Tm.sz_cnt t
  omega
 ·decide
noncomputable def zJF (t:Tm):Int:=zAK (zFy (zGu false t)).data.toList 7
theorem pL {t:Tm} {d:D} (hd:t.Is d) (hc:t.cnt<=4000000):zCJ 13 [.dg 9 d] (zJF t):=fun N Q hQ=>by
 have hcc:(zGu false t).cnt=t.cnt:=zDs _ _ _ _
 exact pv N d Q fun _ N1 hN1=>rZ t d hd (by omega) N1 _ fun x N2 hN2 hx _ _ N3 hN3=>qG hx (by omega) N3 _ fun N4 hN4 _ N5 hN5=>qJ _ (zDN (by omega)) N5 _ fun N6 hN6 _ N7 hN7=>hQ _ (by omega)
theorem pw {t:Tm} {d:D} (hd:t.Is d) (hc:t.cnt<=4000000):zCJ 14 [.dg 9 d] (zJF t):=fun N Q hQ=>by
 have hcc:(zGu true t).cnt=t.cnt:=zDs _ _ _ _
 exact qq N d Q fun _ N1 hN1=>rn t d hd (by omega) N1 _ fun x N2 hN2 hx _ _ N3 hN3=>po hx (by omega) N3 _ fun N4 hN4 _ N5 hN5=>qY _ (zDN (by omega)) N5 _ fun N6 hN6 _ N7 hN7=>Qi (hQ _ (by omega)) (by rw [zJF,zH7])
/-- the law FnExactHashTerm: for all data it answers true -/
theorem zCh {t:Tm} {d:D} (he:t.Is d) (N:Nat):ACalls prog 4 [.bool] [.dg 9 d] N (fun r _=>r=true):=by
 refine vn N d _ fun _ N1 hN1=>?_
 refine zIP t d he 1048576 (by omega) (by omega) N1 _ fun r2 N2 hN2 hr2 _=>Br.dec (fun _ N6 _=>rfl) fun hneg2 N4 hN4=>?_
 obtain ⟨hq0,hq1,hcn⟩:=hr2.resolve_left (by omega)
 have hct:t.cnt<=4000000:=by omega
 have hct2:t.cnt<=1073741824:=by omega
 clear hr2
 refine zBa t d he hct2 N4 _ fun d1 N5 hN5 he1 _ _ _ N6 hN6=>pL he1 hct N6 _ fun N7 hN7 _ N8 hN8=>?_
 refine zBa t d he hct2 N8 _ fun d2 N9 hN9 he2 _ _ _ N10 hN10=>pw he2 hct N10 _ fun N11 hN11 _=>Br.bne (fun h=>absurd rfl h) fun _ N13 hN13=>?_
 exact zBa t d he hct2 N13 _ fun d3 N14 hN14 he3 _ _ _ N15 hN15=>zIe t d2 d3 he2 he3 N15 _ fun N16 hN16 _=>Br.of (fun h=>by simp at h) fun _ N18 hN18=>rfl
end Go.Proofs.YtmfjakahanbnlaaGreatDoor
