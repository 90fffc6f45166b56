/- ParseTerm: the law. -/
import Derived.Test.YtldbmnklnpfpfaaGreatDoorB6
import Derived.Test.YtldbmnklnpfpfaaGreatDoorA1
import Derived.Test.YtldbmnklnpfpfaaGreatDoorKa
import Derived.Shelf.Strings.Replace
import Derived.Test.YtldbmnklnpfpfaaGreatDoorKf
import Derived.Test.YtldbmnklnpfpfaaGreatDoorJh
import Derived.ProofKit
import Derived.ReadAgain
import Derived.ChangeSame
import Derived.Test.YtldbmnklnpfpfaaGreatDoorRows
import Derived.SizedLaws
import Derived.Test.YtldbmnklnpfpfaaGreatDoorA5
import Derived.Lib.LaidTab
import Derived.Lib.ItoaNum
import Derived.Stop.LaidErr
import Derived.LaidMore
import Derived.OpenShut
import Derived.MakeChecks
import Derived.Lib.Space
import Derived.Look8
import Derived.Lay
import Derived.Shelf.Vars
import Derived.Test.YtldbmnklnpfpfaaGreatDoorCards
import Derived.Test.YtldbmnklnpfpfaaGreatDoorTie
import Derived.SevenTiedAt
import Derived.ChangeMaps5
set_option linter.unusedVariables false
set_option linter.unusedSimpArgs false
set_option maxRecDepth 100000
namespace Go.Proofs.YtldbmnklnpfpfaaGreatDoor
open Go Go.Proofs Go.Proofs.Tryz Go.IntWalk
structure PR (s:ByteArray) (b:Bool) (o:Tm):Prop where
 yes:b=true->o.vd=true/\o.tx=s
 no:b=false->o=Tm.mk 0 (bytes []) (bytes []) 0 tZero tZero []/\∀ t:Tm,t.vd=true->t.tx≠s
theorem PR.uniq {s:ByteArray}{b b':Bool}{o O:Tm}(h:PR s b o)(I:PR s b' O):b'=b/\O=o:=by
 cases b<;>cases b'
 ·exact⟨rfl,(I.no rfl).1.trans (h.no rfl).1.symm⟩
 ·exact absurd (I.yes rfl).2 ((h.no rfl).2 _ (I.yes rfl).1)
 ·exact absurd (h.yes rfl).2 ((I.no rfl).2 _ (h.yes rfl).1)
 ·have U:=wo true (h.yes rfl).1 (h.yes rfl).2;have J:=wo true (I.yes rfl).1 (I.yes rfl).2;rw[U]at J;simp only[od,mv]at J;exact⟨rfl,J.1.symm⟩
theorem PR.cnt {s:ByteArray}{b:Bool}{o:Tm}(h:PR s b o):o.cnt<=3*s.size+5:=by
 cases b with
 | true=>
   have:=H9 (wo true (h.yes rfl).1 (h.yes rfl).2)
   rw[xM]at this;omega
 | false=>rw[(h.no rfl).1];simp[Tm.cnt,zx,tZero,Ty.cnt,zG];try omega
def M7 (f:FuncId)(s:ByteArray)(ow:Nat->Nat->D->Prop):Prop:=∀(N:Nat) (Q:QT [.ag 9,.bool]) (_:∀ b o d N',N<=N'->PR s b o->o.Is d->ow N N' d->Q d b N'),ACalls prog f [.ag 9,.bool] [.str s] N Q
theorem RetP.q {f:FuncId}{s:ByteArray}{ow:Nat->Nat->D->Prop}(h:RetP f s ow)(J:∀ N N',ow N N' zD):M7 f s ow:=λN Q I=>h N Q (λt d N' hN O e hd U=>I true t d N' hN ⟨λ_=>⟨O,e⟩,λh=>by cases h⟩ hd U) λd N' hN e V=>by subst e;exact I false _ zD N' hN ⟨λh=>(by cases h),λ_=>⟨rfl,V⟩⟩ (wO 0 0 (by decide)) (J N N')
theorem ql (s:ByteArray)(hs:s.size<=300000000):M7 6 s Own:=(qd s hs).q λ_ _=>u4
theorem qm (s:ByteArray)(hs:s.size<=300000000):M7 5 s (λ_ _ _=>True):=(qe s hs).q λ_ _=>trivial
theorem Br.same {v:Bool}{A B:Prop}(h:B):Br (!(v==v)) A B:=Br.not (λh=>by simp at h) λ_=>h
theorem MW {t:Tm}{d:D}(h:t.Is d)(k:Int):k<=t.mkk k/\t.mkk k<=k+4*t.cnt:=t.mkk_k k
end Go.Proofs.YtldbmnklnpfpfaaGreatDoor
set_option maxRecDepth 100000
namespace Go.Proofs
namespace YtldbmnklnpfpfaaGreatDoor
open Go Go.Proofs Go.Proofs.Tryz Go.RowKit Go.Shelf Go.Sort Go.Lib
def powA:ByteArray:=bytes [60,40,92,120,58,73,46,126,40,40,114,101,99,32,112,32,110,58,73,62,60,73,62,46,40,105,102,32,40,110,61,48,41,32,60,49,62,32,60,40,120,42,126,40,112,32,40,110,45,49,41,41,41,62,41,41,32]
def powB:ByteArray:=bytes [41,41,62]
def powT:ByteArray:=bytes [60,40,92,120,58,73,46,126,40,40,114,101,99,32,112,32,110,58,73,62,60,73,62,46,40,105,102,32,40,110,61,48,41,32,60,49,62,32,60,40,120,42,126,40,112,32,40,110,45,49,41,41,41,62,41,41,32,78,41,41,62]
def replR:Go.Shelf.Ren:=⟨λx=>match x with | 138=>55 | 143=>57 | 154=>26 | 165=>56 | 166=>58 | 169=>60 | 195=>86 | 197=>59 | 217=>117 | 218=>87 | 219=>90 | 224=>119 | 225=>118 | 240=>88 | 241=>89 | 260=>91 | 266=>141 | 267=>120 | 276=>115 | 277=>116 | 314=>142 | n=>n,λx=>match x with | 0=>0 | 3=>3 | 4=>4 | 5=>5 | 9=>9 | 20=>20 | 21=>21 | 37=>63 | 46=>123 | 51=>94 | 70=>70 | 72=>72 | 75=>75 | 76=>76 | 80=>60 | 105=>78 | 119=>66 | 127=>100 | 138=>125 | 139=>126 | 146=>139 | 164=>119 | n=>n,λx=>match x with | 1=>2 | 3=>3 | 4=>4 | n=>n⟩
theorem replL:Lays.n154 Tryz.prog replR where
 mixed:=by kernel_rfl
 f138:=Tryz.func55.trans (oN some (by kernel_rfl))
 f143:=Tryz.func57.trans (oN some (by kernel_rfl))
 f154:=Tryz.func26.trans (oN some (by kernel_rfl))
 f165:=Tryz.func56.trans (oN some (by kernel_rfl))
 f166:=Tryz.func58.trans (oN some (by kernel_rfl))
 f169:=Tryz.func60.trans (oN some (by kernel_rfl))
 f195:=Tryz.func86.trans (oN some (by kernel_rfl))
 f197:=Tryz.func59.trans (oN some (by kernel_rfl))
 f217:=Tryz.func117.trans (oN some (by kernel_rfl))
 f218:=Tryz.func87.trans (oN some (by kernel_rfl))
 f219:=Tryz.func90.trans (oN some (by kernel_rfl))
 f224:=Tryz.func119.trans (oN some (by kernel_rfl))
 f225:=Tryz.func118.trans (oN some (by kernel_rfl))
 f240:=Tryz.func88.trans (oN some (by kernel_rfl))
 f241:=Tryz.func89.trans (oN some (by kernel_rfl))
 f260:=Tryz.func91.trans (oN some (by kernel_rfl))
 f266:=Tryz.func141.trans (oN some (by kernel_rfl))
 f267:=Tryz.func120.trans (oN some (by kernel_rfl))
 f276:=Tryz.func115.trans (oN some (by kernel_rfl))
 f277:=Tryz.func116.trans (oN some (by kernel_rfl))
 f314:=Tryz.func142.trans (oN some (by kernel_rfl))
 t0:=Tryz.underlying0
 a0:=Tryz.isAgg0
 z0:=Tryz.sizeOf0
 v0:=Tryz.zeroValue0
 t3:=Tryz.underlying3
 a3:=Tryz.isAgg3
 z3:=Tryz.sizeOf3
 v3:=Tryz.zeroValue3
 t4:=Tryz.underlying4
 a4:=Tryz.isAgg4
 z4:=Tryz.sizeOf4
 v4:=Tryz.zeroValue4
 t5:=Tryz.underlying5
 a5:=Tryz.isAgg5
 z5:=Tryz.sizeOf5
 v5:=Tryz.zeroValue5
 t9:=Tryz.underlying9
 a9:=Tryz.isAgg9
 z9:=Tryz.sizeOf9
 v9:=Tryz.zeroValue9
 t20:=Tryz.underlying20
 a20:=Tryz.isAgg20
 z20:=Tryz.sizeOf20
 v20:=Tryz.zeroValue20
 t21:=Tryz.underlying21
 a21:=Tryz.isAgg21
 z21:=Tryz.sizeOf21
 v21:=Tryz.zeroValue21
 t37:=Tryz.underlying63
 a37:=Tryz.isAgg63
 z37:=Tryz.sizeOf63
 v37:=Tryz.zeroValue63
 t46:=Tryz.underlying123
 a46:=Tryz.isAgg123
 z46:=Tryz.sizeOf123
 v46:=Tryz.zeroValue123
 t51:=Tryz.underlying94
 a51:=Tryz.isAgg94
 z51:=Tryz.sizeOf94
 v51:=Tryz.zeroValue94
 t70:=Tryz.underlying70
 a70:=Tryz.isAgg70
 z70:=Tryz.sizeOf70
 v70:=Tryz.zeroValue70
 t72:=Tryz.underlying72
 a72:=Tryz.isAgg72
 z72:=Tryz.sizeOf72
 v72:=Tryz.zeroValue72
 t75:=Tryz.underlying75
 a75:=Tryz.isAgg75
 z75:=Tryz.sizeOf75
 v75:=Tryz.zeroValue75
 t76:=Tryz.underlying76
 a76:=Tryz.isAgg76
 z76:=Tryz.sizeOf76
 v76:=Tryz.zeroValue76
 t105:=Tryz.underlying78
 a105:=Tryz.isAgg78
 z105:=Tryz.sizeOf78
 v105:=Tryz.zeroValue78
 t119:=Tryz.underlying66
 a119:=Tryz.isAgg66
 z119:=Tryz.sizeOf66
 t127:=Tryz.underlying100
 a127:=Tryz.isAgg100
 z127:=Tryz.sizeOf100
 v127:=Tryz.zeroValue100
 t138:=Tryz.underlying125
 a138:=Tryz.isAgg125
 z138:=Tryz.sizeOf125
 v138:=Tryz.zeroValue125
 t139:=Tryz.underlying126
 a139:=Tryz.isAgg126
 z139:=Tryz.sizeOf126
 v139:=Tryz.zeroValue126
 t146:=Tryz.underlying139
 a146:=Tryz.isAgg139
 z146:=Tryz.sizeOf139
 v146:=Tryz.zeroValue139
 t164:=Tryz.underlying119
 a164:=Tryz.isAgg119
 z164:=Tryz.sizeOf119
 v164:=Tryz.zeroValue119
 g1:=by kernel_rfl
 g3:=by kernel_rfl
 g4:=by kernel_rfl
theorem Nc:Builder.Extra Tryz.prog replR where
 sizeBuilder:=by kernel_rfl
 liesBuilder:=by kernel_rfl
 t5:=replL.t5
 a5:=replL.a5
 z5:=replL.z5
 v5:=replL.v5
 infoByte:=by kernel_rfl
 cellsByte:=by kernel_rfl
 sizeByte:=by kernel_rfl
 neB5:=by decide
theorem LV (new:List UInt8):replaceK (bl (bytes [78])) new (replaceNum (bl powT) (bl (bytes [78])) 1) (bl powT)=bl powA++new++bl powB:=by
 have I:replaceNum (bl powT) (bl (bytes [78])) 1=1:=by kernel_rfl
 have J:index (bl powT) (bl (bytes [78]))=((57:Nat):Int):=by kernel_rfl
 rw[I,replaceK_hit _ _ 0 _ 57 J];rfl
def Jk (n:Int):ByteArray:=powA++Dc n.toNat++powB
set_option maxHeartbeats 4000000 in
theorem HK (u:Nat) (h:u<=4611686018427387904):we 26 [.str powT,.str (bytes [78]),.str (Dc u),.int .i64 1] (Jk u):=λN Q hQ=>
 ⟨by kernel_rfl,λav w0 hN U _=>by
  obtain⟨c,t,fz,h1,m,V⟩:=U.g.b (replR.g 1,λc=>∃ m:Int,c[0]?=some (.int .i64 m)) (by simp[BH,replR]);have hm:w0.cell? ⟨replR.g 1,0,none⟩=some (.int .i64 m):=by simp[World.cell?,h1,V]
  have hd:=rx u h;have Y:bytes [78]≠Dc u:=λe=>by have h3:[78]=decDigits u:=oN bl e;obtain⟨c,l,e2⟩:=Be u;have h4:=wv u 78 (by rw[<-h3];simp);exact absurd h4 (by decide)
  have I:Lib.countB powT (bytes [78])=1:=by kernel_rfl
  have J:powT.size<4294967281:=by
   have:powT.size=61:=by kernel_rfl
   omega
  refine(Any.strings_Replace_some replL Nc powT (bytes [78]) (Dc u) 1 m w0 J hm (by decide) Y (by decide) (by rw[I];decide) (by
   rw[I,sT];have:powT.size=61:=by kernel_rfl
   omega)).mono λe w' ⟨he,O⟩=>?_
  subst he;subst hN;have e1:(⟨(replaceK (bytes [78]).data.toList (Dc u).data.toList (replaceNum powT.data.toList (bytes [78]).data.toList 1) powT.data.toList).toArray⟩:ByteArray)=Jk u:=zZ (by show replaceK (bl (bytes [78])) (bl (Dc u)) (replaceNum (bl powT) (bl (bytes [78])) 1) (bl powT)=_;rw[LV];unfold Jk;rw[zL,zL];rfl);rw[e1];refine⟨[.str (Jk u)],[],[],?_⟩;exact { q:=hQ _ O.size,v:=rfl,m:=⟨rfl,by simp,by simp,by simp,λk j b h=>by obtain⟨_,V,_⟩:=h;simp[Env.at]at V⟩,ok:=λp Z=>by simp at Z;subst Z;trivial,fresh:=λk b h=>by simp[Env.at]at h,size:=O.size,old:=λb hb=>O.block b hb,fz:=λ_ _ _ _ _ _=>trivial,ku:=⟨O.os,O.output⟩ }⟩
end YtldbmnklnpfpfaaGreatDoor
end Go.Proofs
set_option maxRecDepth 100000
namespace Go.Proofs.YtldbmnklnpfpfaaGreatDoor
open Go Go.Proofs Go.Proofs.Tryz Go.IntWalk
structure PW (n:Int) (o:Tm):Prop where
 yes:inB n 0 20=true->∃ b,PR (Jk n) b o
 no:inB n 0 20=false->o=Tm.mk 0 (bytes []) (bytes []) 0 tZero tZero []
theorem AP {n:Int}(h:inB n 0 20=true):(Jk n).size<=100:=by
 have I:=xv.1 h;have J:=rx n.toNat (by omega);unfold Jk;rw[oC,oC,sT];have:powA.size=57:=by kernel_rfl
 have:powB.size=3:=by kernel_rfl
 omega
theorem PW.uniq {n:Int}{o J:Tm}(h:PW n o)(O:PW n J):J=o:=by
 cases I:inB n 0 20 with
 | true=>obtain⟨b,U⟩:=h.yes I;obtain⟨b',V⟩:=O.yes I;exact(U.uniq V).2
 | false=>exact(O.no I).trans (h.no I).symm
theorem PW.cnt {n:Int}{o:Tm}(h:PW n o):o.cnt<=1000:=by
 cases I:inB n 0 20 with
 | true=>
   obtain⟨b,J⟩:=h.yes I
   have:=J.cnt
   have:=AP I
   omega
 | false=>rw[h.no I];simp[Tm.cnt,zx,tZero,Ty.cnt,zG];try omega
def Lz (f:FuncId)(n:Int)(ow:Nat->Nat->D->Prop):Prop:=∀(N:Nat) (Q:QT [.ag 9]) (_:∀ o d N',N<=N'->PW n o->o.Is d->ow N N' d->Q d N'),ACalls prog f [.ag 9] [.j n] N Q
theorem qn (n:Int):Lz 10 n (λ_ _ _=>True):=λN Q J=>
 q8 N n Q λN1 O=>th n 0 20 N1 _ λN2 U _=>Br.not (λI N3 V=>J _ _ _ (by omega) ⟨λh=>(by rw[I]at h;cases h),λ_=>rfl⟩ (wO 0 0 (by decide)) trivial) λI Y Z=>by
  have h2:=xv.1 I;have aa:=AP I;have h3:=rx n.toNat (by omega);obtain⟨u,rfl⟩:∃ u:Nat,n=u:=⟨n.toNat,by omega⟩
  have ab:powA.size=57:=by kernel_rfl
  have ac:(Dc u).size<=20:=by rw[sT];exact rx u (by omega)
  refine ys u (by omega) Y _ λN5 ae _=>⟨by omega,by show(powA++Dc u).size+3<=_;rw[oC];omega,λN6 ah=>?_⟩
  exact qm (Jk u) (by omega) N6 _ λb o d N7 ai hp hd _ _ _ N8 aj=>J o d _ (by omega) ⟨λ_=>⟨b,hp⟩,λh=>(by rw[I]at h;cases h)⟩ hd trivial
theorem vn (n:Int):Lz 11 n Own:=λN Q O=>
 qt N n Q λN1 U=>yZ n 0 20 N1 _ λN2 V _=>Br.not (λI N3 Y=>O _ _ _ (by omega) ⟨λh=>(by rw[I]at h;cases h),λ_=>rfl⟩ (wO 0 0 (by decide)) u4) λI Z aa=>by
  have h2:=xv.1 I;have ab:=AP I;obtain⟨u,rfl⟩:∃ u:Nat,n=u:=⟨n.toNat,by omega⟩
  refine vh u (by omega) Z _ λN5 ac _ N6 ae=>HK u (by omega) N6 _ λN7 ah _ N8 ai=>?_;exact ql (Jk u) (by omega) N8 _ λb o d N9 aj hp hd ho _ _ ak J=>O o d _ (by omega) ⟨λ_=>⟨b,hp⟩,λh=>(by rw[I]at h;cases h)⟩ hd (ho.mono (by omega) J)
theorem Ce (n:Int) (N:Nat) :
  ACalls prog 4 [.bool] [.j n] N (λr _=>r=true):=by
 refine vb N n _ λN2 a8=>?_;refine qn n N2 _ λo w0 N3 ba V U _ _ Y N4 bb=>?_;refine vn n N4 _ λo' g0 N5 bc Z O I _ _ N6 bd=>?_;obtain rfl:=V.uniq Z;have hc:=V.cnt;refine FN _ g0 w0 O U N6 _ λN7 bg _=>Br.of (λh=>by simp at h) λ_=>?_;refine⟨I.tree,I.low (by omega),rfl,⟨λx hx=>?_⟩,λaa al=>?_⟩
 ·simp only[oH,mu,or_false]at hx;subst hx;exact Il I (Y.mono (by omega))
 refine Ec O I.tree 1 (by omega) (by omega) aa _ λg1 bh ao ab bi _ ac aq=>?_;have bj:=MW O 1;have J:=EZ _ 1 g1 ab (by omega) (by omega);refine J ac _ λbm au _=>Br.dec (λh=>by omega) λ_=>Br.bne (λh=>absurd rfl h) λ_ ae aw=>?_;refine vn n ae _ λo2 g2 bn ax ah ai _ _ _ aj ay=>?_;obtain rfl:=V.uniq ah;refine FN _ g2 w0 ai U aj _ λbp az _=>Br.of (λh=>by simp at h) λ_ ak a1=>?_;exact J ak _ λbq a6 _=>Br.dec (λh=>by omega) λ_=>Br.bne (λh=>absurd rfl h) λ_ bt a7=>rfl
open Go
structure Snap (w:World) (cs:List Value) (xs:List D):Prop where
 cv:xs.map D.cv=cs
 cell:∀ x∈xs,x.isCell
 hold:∀ x∈xs,Holds w x
theorem Snap.one {w:World}{v:Value}{x:D}(I:x.cv=v)(J:x.isCell)(O:Holds w x):Snap w [v] [x]:=⟨by simp[I],by simpa using J,by simpa using O⟩
variable {H:Type} {enc:TypeId × Value->H} {P:Program} {w:World} {base:Nat} {spare:Nat->Bool} {held:Bool} {T:List TypeId}
open Go Go.ChangeShapes Go.WideShapes Go.ChangeAt Go.RowKit
structure Ret1 (W W':World) (e:Ending):Prop where
 e:e=.returned (.bool true)
 old:∀ b,b<W.heap.size->W'.heap[b]?=W.heap[b]?
 size:W.heap.size<=W'.heap.size
 ku:KU W W'
theorem LZ {av:Nat->Prop}{W W':World}{e:Ending}(h:Fin [.bool] (λr _=>r=true) av W e W'):Ret1 W W' e:=by
 cases e with
 | returned v=>
   obtain⟨ps,rows,e',hd⟩:=h;have I:=hd.q;have J:=hd.v;refine⟨?_,hd.old,hd.size,hd.ku⟩;cases ps with
   | nil=>simp[QT.app]at I
   | cons p ps=>
     cases p<;>simp[QT.app]at I
     cases ps<;>cases rows<;>simp[QT.app]at I
     subst I;rw[J];rfl
 | _=>exact h.elim
theorem Hy {H:Type} {enc:TypeId × Value->H} {P:Program} {fn:Func} {s:ChangeSpec} {apart fresh I:Bool} {W W':World} {args:Array Value} {ds gs:List (DataW H)} {J:List MemPlace} {tb:TypeId} {e:Ending}
  (K:Kids P (·<P.types.size)) (full:∀ t e,t<P.types.size->P.underlying t=some (.slice e)->0<P.cellsOf e)
  (V:∀ t∈fn.params.toList,t<P.types.size) (hv:s.vars=[]) (ab:fn.resultTypes=#[tb]) (ac:P.underlying tb=some .bool)
  (hs:s.fn H (ds++gs)={ results:=[.lit (.bool true)],args:=ds })
  (hW:DataW.Whole enc P fn.params.toList s.vars apart W args.toList ds gs J) (Y:Ret1 W W' e) :
  ∃ v,e=.returned v/\s.post enc P fn apart fresh I false W args v W':=by
 refine⟨_,Y.e,?_⟩;have Z:=hW;obtain⟨p,q,hA,hV,rfl,ah,_⟩:=hW;rw[hv]at hV;obtain⟨rfl,rfl⟩:=trodVars_none hV;have aa:∀ x∈p++[],x.block<W.heap.size:=Z.lt;have O:∀ {ts:List TypeId} {vs:List Value} {ds:List (DataW H)} {ps:List MemPlace},DataW.TrodAll enc P W 0 (λ_=>true) true ts vs ds ps->(∀ x∈ps,x.block<W.heap.size)->DataW.TrodAll enc P W' 0 (λ_=>true) true ts vs ds ps:=by
  intro ts
  induction ts with
  | nil=>intro vs ds ps h _;obtain⟨rfl,rfl,rfl⟩:=trodAll_nil h;exact trodAll_mk0
  | cons t ts ih=>
    intro vs ds ps h hl;obtain⟨v,ai,d,ds1,a,b,rfl,rfl,rfl,⟨n,h1⟩,h2⟩:=trodAll_cons h;refine⟨a,b,⟨n,DataW.trod_carry n _ _ _ h1 λx U=>?_⟩,ih h2 λx U=>hl x (by simp[U]),rfl⟩;have hb:=Y.old _ (hl x (by simp[U]));cases x with
    | cell b off=>simp only[World.sameAt,World.cell?,MemPlace.block]at hb ⊢;rw[hb]
    | map b=>exact hb
 have ae:=O hA λx U=>aa x (by simp[U]);refine⟨ds,[],p++[],[],p,[],Z,?_,?_,?_,⟨Y.ku.os,Y.ku.out,λi hi=>?_⟩,λh=>by cases h⟩
 ·rw[hs,ab];exact trodAll_mk1 ⟨1,by simp[DataW.trod,Value.cells,ac]⟩
 ·rw[hs];exact DataW.TrodAll.respare K full V ae λx U=>by simpa using aa x (by simp[U])
 ·rw[hs,hv];rfl
 ·rw[Y.old i hi];cases hb:W.heap[i]? with
  | none=>rfl
  | some o=>
    cases o with
    | cells c t fr=>exact⟨rfl,rfl,rfl,λ_ _=>rfl⟩
    | map es clock=>exact .inr ⟨rfl,rfl⟩
    | _=>rfl
open Go Go.Proofs Go.Proofs.Tryz Go.ChangeShapes Go.WideShapes Go.ChangeAt Go.RowKit
theorem OO:Kids prog (·<prog.types.size):=kids_rows (by kernel_rfl) (by kernel_rfl)
theorem full:∀ t e,t<prog.types.size->prog.underlying t=some (.slice e)->0<prog.cellsOf e:=slices_full_of prog (by kernel_rfl)
theorem Du:ownKnob prog.godebug=none:=by kernel_rfl
end Go.Proofs.YtldbmnklnpfpfaaGreatDoor
set_option maxRecDepth 100000
namespace Go.Proofs.YtldbmnklnpfpfaaGreatDoor
open Go Go.Proofs Go.Proofs.Tryz
end Go.Proofs.YtldbmnklnpfpfaaGreatDoor
set_option maxRecDepth 100000
namespace Go.Proofs.YtldbmnklnpfpfaaGreatDoor
open Go Go.Proofs Go.Proofs.Tryz
end Go.Proofs.YtldbmnklnpfpfaaGreatDoor
set_option maxRecDepth 100000
namespace Go.Proofs.YtldbmnklnpfpfaaGreatDoor
open Go Go.Proofs Go.Proofs.Tryz Go.ChangeShapes Go.WideShapes Go.ChangeAt Go.RowKit
/-- the list that the row bears -/
def laidAll : List (String × DataW Unit) := [("math/bits.deBruijn32tab", Rows.laid_math_bits_deBruijn32tab), ("math/bits.deBruijn64tab", Rows.laid_math_bits_deBruijn64tab), ("internal/strconv.uint64pow10", Rows.laid_internal_strconv_uint64pow10), ("unicode/utf8.acceptRanges", Rows.laid_unicode_utf8_acceptRanges), ("strconv.ErrRange", Rows.laid_strconv_ErrRange), ("strconv.ErrSyntax", Rows.laid_strconv_ErrSyntax), ("unicode.White_Space", Rows.laid_unicode_White_Space), ("strings.asciiSpace", Rows.laid_strings_asciiSpace), ("unicode/utf8.first", Rows.laid_unicode_utf8_first)]
theorem Nt : prog.globalNamed "internal/strconv.uint64pow10" = some 5 := by kernel_rfl
theorem OQ:(prog.globals[5]?).map (·.type)=some 157:=by kernel_rfl
theorem OK:prog.cellsOf 157=20:=by kernel_rfl
theorem NG:prog.cellsOf 142=1:=by kernel_rfl
theorem Nv : prog.globalNamed "strings.asciiSpace" = some 0 := by kernel_rfl
theorem OS:(prog.globals[0]?).map (·.type)=some 66:=by kernel_rfl
theorem OL:prog.cellsOf 66=256:=by kernel_rfl
theorem NH:prog.cellsOf 5=1:=by kernel_rfl
theorem Nw : prog.globalNamed "strconv.ErrSyntax" = some 6 := by kernel_rfl
theorem OT:(prog.globals[6]?).map (·.type)=some 75:=by kernel_rfl
theorem Nu : prog.globalNamed "strconv.ErrRange" = some 7 := by kernel_rfl
theorem OR:(prog.globals[7]?).map (·.type)=some 75:=by kernel_rfl
theorem Nq:prog.cellsOf 171=1:=by kernel_rfl
theorem Nr:prog.cellsOf 9=1:=by kernel_rfl
theorem Mo : "*" ++ "errors.errorString" = "*errors.errorString" := by decide
theorem Kd (u : TypeId)(h : prog.typeName? 3 u = some "*errors.errorString") : u = 169 :=
 typeName_ptr_named (nm := "errors.errorString") (by rw [Mo]; kernel_rfl) (by kernel_rfl) (by decide) u (by rw [Mo]; exact h)
theorem ux {W:World}{n:String}{g:Nat}{cs:Array Value}(J:prog.globalNamed n=some g)(h:W.var? prog n=some cs):∃ t fz,W.heap[g]?=some (.cells cs t fz):=by
 unfold World.var? at h;rw[J]at h;simp only[Option.bind]at h;cases I:W.heap[g]? with
 | none=>rw[I]at h;cases h
 | some o=>
   rw[I]at h;cases o with
   | cells c t z=>simp only[od]at h;subst h;exact⟨t,z,rfl⟩
   | _=>cases h
theorem I4 {w:World}{g:Nat}{m:Int}(h:w.cell? ⟨g,0,none⟩=some (.int .i64 m)):∃ c t fz,w.heap[g]?=some (.cells c t fz)/\∃ m:Int,c[0]?=some (.int .i64 m):=by
 unfold World.cell? at h;split at h
 ·rename_i c t fz I;exact⟨_,_,_,I,m,by simpa using h⟩
 ·cases h
theorem Hc {W:World}(h:laidMetH prog laidAll W)(hs:W.ShapedOpen prog):GlobIs W:=by
 rw [MakeChecks.laidMetH_plain _ _ _ (by kernel_rfl)] at h;have O : laidMet prog (("internal/strconv.uint64pow10", Lib.tabData .u64 Lib.pow10Tab) :: _) W := h.tail.tail;have U:=Lib.tabIs_of_head Nt OQ underlying157 underlying142 NG OK O;have J:=O.tail.tail;have Y : laidMet prog (("strings.asciiSpace", Lib.tabData .u8 Lib.asciiSpaceTab) :: _) W := J.tail.tail.tail;have V:=Lib.tabIs_of_head Nv OS underlying66 underlying5 NH OL Y;obtain ⟨a0,s0,v0,_⟩:=laid_sentinel J Nu OR underlying75 Kd underlying169 underlying171 rfl rfl underlying9 Nq Nr;obtain ⟨a1,s1,v1,_⟩:=laid_sentinel J.tail Nw OT underlying75 Kd underlying169 underlying171 rfl rfl underlying9 Nq Nr;unfold Lib.TabIs at U V;refine ⟨λx I=>?_,λx I=>?_⟩
 ·simp only[glob,oH,mu,or_false]at I;subst I;exact ux Nt U
 ·simp only[BH,oH,mu,or_false]at I;rcases I with rfl | rfl | rfl | rfl
  ·obtain⟨t,fz,e⟩:=ux Nv V;exact⟨_,t,fz,e,rfl⟩
  ·obtain⟨t,fz,e⟩:=ux Nw v1;exact⟨_,t,fz,e,_,rfl,.inr ⟨_,_,rfl⟩⟩
  ·obtain⟨t,fz,e⟩:=ux Nu v0;exact⟨_,t,fz,e,_,rfl,.inr ⟨_,_,rfl⟩⟩
  ·obtain⟨m,Z⟩:=cell_of_shapedOpen_int hs (mH (by kernel_rfl)) (zero:=#[.int .i64 0]) (t:=3) (by kernel_rfl) rfl (by kernel_rfl) (by kernel_rfl) underlying3;exact I4 Z
theorem L2 {W:World}(h:laidMetH prog laidAll W)(hs:W.ShapedOpen prog):Avl avG W []:=⟨λb I=>(Hc h hs).lt I,Hc h hs,λb I=>I,λb I=>by simp,λx J=>by simp⟩
noncomputable def ME (os:Os):World:=World.laidAll prog os laidAll
theorem JD (os:Os)(args:Array Value):laidMetH prog laidAll ((ME os).forCall (λ_ _=>0) ⟨#[],args,[]⟩).memory:=by rw[MakeChecks.laidMetH_plain _ _ _ (by kernel_rfl)];exact laidMet_laidAll args (by kernel_rfl) (by kernel_rfl)
open Go Go.Proofs Go.Proofs.Tryz Go.ChangeMaps Go.ChangeShapes Go.WideShapes Go.ChangeAt Go.RowKit
set_option maxHeartbeats 1600000 in
set_option maxRecDepth 100000 in
theorem vO (os:Os) (J:os.Started) (H:Type) (enc:TypeId × Value->H) :
  ReturnsInHanded {} checked os 4 .any (λw args=>(Rows.fnExactPowerTermSpec.pre enc prog Tryz.f4 [] false w args/\laidMetH prog laidAll w)/\sizedMet enc prog Tryz.f4 (OpenSpec.ofChange Rows.fnExactPowerTermSpec) false w args)
   (Rows.fnExactPowerTermSpec.post enc prog Tryz.f4 false true false false):=by
 refine returnsInHanded_of_calls (C:=checked) Du J (by kernel_rfl)
  (ChangeSpec.witness_shaped (enc:=enc) (C:=checked) (os:=os) (f:=4) (fn:=Tryz.f4) (s:=Rows.fnExactPowerTermSpec) (conds:=[]) (apart:=false) (X:=λw _=>laidMetH prog laidAll w) false (ME os) #[.int .i64 0] 8 rfl (World.shaped_of_ZipB (by kernel_rfl) (by kernel_rfl)) (by kernel_rfl) (by kernel_rfl) (by kernel_rfl) (JD os _)) ?_
 intro w O i _ Y _ ac Z _;obtain⟨_,_,_,ae,aa,_,_,_,_,I⟩:=ac;obtain rfl:ae=Tryz.f4:=nD (aa.symm.trans func4);obtain⟨⟨⟨ds,gs,ab,hw,_⟩,hx⟩,hz⟩:=Z;have hW:=DataW.Whole.of_heap (w':=w.forCall O i) (by rfl) hw;have hL:laidMetH prog laidAll (w.forCall O i):=hx.of_heap (by rfl);have aj:=hz.weights hw;clear hw hx hz;generalize w.forCall O i=W at I hW hL Y;generalize w.heap.size=base at I;generalize i.args=args at I hW;have U:∀(j:Nat) t v,Tryz.f4.params[j]?=some t->args[j]?=some v->Value.okWide prog W .any base t v:=I;refine(?_:Calls checked.prog 4 args W λe W'=>∃ v,e=.returned v/\Rows.fnExactPowerTermSpec.post enc checked.prog Tryz.f4 false true false false W args v W').mono λe W' ⟨v,he,hp⟩=>(by subst he;exact ChangeSpec.post_blind hp)
 have ah:=hW;obtain⟨p,q,ai,hV,rfl,ak,_⟩:=hW;have hA:DataW.TrodAll enc prog W 0 (λ_=>true) true Tryz.f4.params.toList args.toList ds p:=ai;rw[params4]at hA U;obtain⟨v0,d0,rfl,rfl,h0⟩:=trodAll_one hA;obtain⟨rfl,rfl⟩:=trodVars_none hV;obtain⟨m0,rfl,rfl,rfl,al⟩:=open_int underlying3 (U 0 3 v0 rfl rfl) h0;have hc:=(Ce m0 W.heap.size).h avG W rfl (L2 hL Y) (λp hp=>by simp only[oH,mu,or_false]at hp;subst hp;exact⟨trivial,rfl⟩);have V:([PV.int .i64 m0].map (PV.val [])).toArray=#[.int .i64 m0]:=by
  simp only[nE,mc]
  try rfl
 rw[V]at hc;refine hc.mono λe W' hf=>?_;exact Hy OO full (by rw[params4];decide) rfl (by kernel_rfl) underlying4 rfl ah (LZ hf)
theorem tI:Rows.FnExactPowerTermSaid:=
 OpenClaim.holds_of_wide 4 Tryz.f4 rfl rfl rfl rfl rfl rfl rfl ⟨rfl,rfl,rfl,rfl,rfl⟩ rfl rfl rfl rfl rfl (by kernel_rfl) func4 (by kernel_rfl)
  (mH (by kernel_rfl)) (by unfold Func.isWrapper;first | (rw[if_pos (by decide +kernel)];kernel_rfl) | (rw[if_neg (by decide +kernel)];exact⟨rfl,rfl⟩))
  (λos I H enc _=>vO os I H enc)
theorem fnExactPowerTerm_holds:Rows.FnExactPowerTermCardSaid:=
 Claim7.holds_tied_plain_at .later [] [.data,.data,.data,.data,.sentinel,.sentinel,.listed,.data,.pinned] true Rows.fnExactPowerTermCard.stood.harness true
  tI (fun _ h=>by cases h) (by kernel_rfl) (fun _ h=>by cases h) fnExactPowerTerm_row_tie rfl ⟨rfl,rfl⟩ (by kernel_rfl) rfl
  (fun f fn hf hfn=>by
   obtain rfl : f = 4 := nD ((show prog.funcNamed "loop.example/g00589/laws.FnExactPowerTerm" = some 4 by kernel_rfl).symm.trans hf) |>.symm
   obtain rfl:fn=Tryz.f4:=(nD (func4.symm.trans hfn)).symm;exact⟨by kernel_rfl,fun j t ht=>by
    rw[params4]at ht;have hm:t∈[3]:=by simpa using Array.mem_of_getElem? ht
    have hall:([3].all fun u=>!prog.wantsStandIn u)=true:=by kernel_rfl
    exact(show prog.wantsStandIn t=false by simpa using oc.1 hall t hm)⟩)
  (by kernel_rfl)
#print axioms fnExactPowerTerm_holds
end Go.Proofs.YtldbmnklnpfpfaaGreatDoor
