/- Texts put together with a text between: strings.Join, the reference's and the program's. -/
import Derived.Test.YtmfjakahanbnlaaGreatDoorC2
import Derived.Test.YtmfjakahanbnlaaGreatDoorA8
import Derived.Test.YtmfjakahanbnlaaGreatDoorKt
import Derived.Shelf.Strings.OnBuilder
import Derived.Test.YtmfjakahanbnlaaGreatDoorC4
import Derived.Test.YtmfjakahanbnlaaGreatDoorB4
import Derived.Test.YtmfjakahanbnlaaGreatDoorKr
import Derived.Test.YtmfjakahanbnlaaGreatDoorKd
import Derived.Test.YtmfjakahanbnlaaGreatDoorKu
set_option linter.unusedVariables false
set_option linter.unusedSimpArgs false
namespace Go.Proofs
namespace YtmfjakahanbnlaaGreatDoor
open Go Go.Proofs Go.Proofs.Tryz Go.RowKit Go.Shelf Go.IntWalk
def zHL (b:ByteArray):List ByteArray->ByteArray
 | []=>bytes []
 | s::l=>b++s++zHL b l
/-- texts, one behind the other, with a text between -/
def zDP (b:ByteArray):List ByteArray->ByteArray
 | []=>bytes []
 | s::l=>s++zHL b l
theorem zGT (b:ByteArray) (I:b.size<=1):∀ l:List ByteArray,(zHL b l).size<=tot l
 | []=>by simp [zHL,tot];rfl
 | x::l=>by have:=zGT b I l;simp only [zHL,tot,oJ];omega
theorem zNT (b:ByteArray) (I:b.size<=1):∀ l:List ByteArray,(zDP b l).size<=tot l
 | []=>by simp [zDP,tot];rfl
 | x::l=>by have:=zGT b I l;simp only [zDP,tot,oJ];omega
theorem b0:(bytes []).size=0:=rfl
theorem zFp (l:List Int):∀ b:ByteArray,(l.foldl (λr n=>r.push (UInt8.ofNat n.toNat)) b).data.toList=b.data.toList++l.map λn=>UInt8.ofNat n.toNat:=by
 induction l with
 | nil=>intro b;simp
 | cons x l I=>intro b;simp only [List.foldl_cons,I,ByteArray.data_push,Array.toList_push,oc,nR,List.singleton_append]
theorem zKO (s:ByteArray):bytesOf (s.data.toList.map λb=>((b.toNat:Nat):Int))=s:=uG (by
 unfold bytesOf
 rw [zFp,nl]
 show []++_=_
 rw [oX]
 conv=>rhs;rw [<-m9 s.data.toList]
 refine oq λb _=>?_
 simp)
theorem zN4 (s:ByteArray):yP s=(s.data.toList.map λb=>((b.toNat:Nat):Int)).map (λn=>D.lit (.int .u8 n)):=by simp [yP,nl,Function.comp_def]
theorem zBO (s u:ByteArray):yP (s++u)=yP s++yP u:=by simp [yP]
theorem zRn (s:ByteArray):s++bytes []=s:=uG (by rw [zGX];exact om _)
theorem zR8 (s:ByteArray):bytes []++s=s:=uG (by rw [zGX];rfl)
def zTH:Go.Shelf.Ren:=⟨λx=>match x with | 156=>159 | 165=>221 | 166=>222 | 169=>223 | 240=>265 | 241=>266 | 276=>289 | 277=>290 | n=>n,λx=>match x with | 0=>0 | 3=>3 | 4=>4 | 5=>5 | 9=>9 | 20=>20 | 31=>116 | 37=>59 | 70=>216 | 72=>218 | 75=>220 | 76=>221 | 80=>136 | 127=>248 | 164=>260 | n=>n,λn=>n⟩
theorem zRt:Lays.n156 Tryz.prog zTH where
 mixed:=by kernel_rfl
 f156:=Tryz.func159.trans (nP some (by kernel_rfl))
 f165:=Tryz.func221.trans (nP some (by kernel_rfl))
 f166:=Tryz.func222.trans (nP some (by kernel_rfl))
 f169:=Tryz.func223.trans (nP some (by kernel_rfl))
 f240:=Tryz.func265.trans (nP some (by kernel_rfl))
 f241:=Tryz.func266.trans (nP some (by kernel_rfl))
 f276:=Tryz.func289.trans (nP some (by kernel_rfl))
 f277:=Tryz.func290.trans (nP some (by kernel_rfl))
 t0:=Tryz.underlying0
 a0:=Tryz.isAgg0
 z0:=Tryz.sizeOf0
 v0:=Tryz.zeroValue0
 t3:=Tryz.underlying3
 a3:=Tryz.isAgg3
 z3:=Tryz.sizeOf3
 v3:=Tryz.zeroValue3
 t4:=Tryz.underlying4
 a4:=Tryz.isAgg4
 z4:=Tryz.sizeOf4
 v4:=Tryz.zeroValue4
 t9:=Tryz.underlying9
 a9:=Tryz.isAgg9
 z9:=Tryz.sizeOf9
 v9:=Tryz.zeroValue9
 t20:=Tryz.underlying20
 a20:=Tryz.isAgg20
 z20:=Tryz.sizeOf20
 v20:=Tryz.zeroValue20
 t31:=Tryz.underlying116
 a31:=Tryz.isAgg116
 z31:=Tryz.sizeOf116
 v31:=Tryz.zeroValue116
 t37:=Tryz.underlying59
 a37:=Tryz.isAgg59
 z37:=Tryz.sizeOf59
 v37:=Tryz.zeroValue59
 t70:=Tryz.underlying216
 a70:=Tryz.isAgg216
 z70:=Tryz.sizeOf216
 v70:=Tryz.zeroValue216
 t72:=Tryz.underlying218
 a72:=Tryz.isAgg218
 z72:=Tryz.sizeOf218
 v72:=Tryz.zeroValue218
 t75:=Tryz.underlying220
 a75:=Tryz.isAgg220
 z75:=Tryz.sizeOf220
 v75:=Tryz.zeroValue220
 t76:=Tryz.underlying221
 a76:=Tryz.isAgg221
 z76:=Tryz.sizeOf221
 v76:=Tryz.zeroValue221
 t127:=Tryz.underlying248
 a127:=Tryz.isAgg248
 z127:=Tryz.sizeOf248
 v127:=Tryz.zeroValue248
 t164:=Tryz.underlying260
 a164:=Tryz.isAgg260
 z164:=Tryz.sizeOf260
 v164:=Tryz.zeroValue260
theorem zRx:Builder.Extra Tryz.prog zTH where
 sizeBuilder:=by kernel_rfl
 liesBuilder:=by kernel_rfl
 t5:=Tryz.underlying5
 a5:=Tryz.isAgg5
 z5:=Tryz.sizeOf5
 v5:=Tryz.zeroValue5
 infoByte:=by kernel_rfl
 cellsByte:=by kernel_rfl
 sizeByte:=by kernel_rfl
 neB5:=by decide
theorem zEf (b:ByteArray):∀ l:List ByteArray,(zHL b l).data.toList=Lib.joinTail b.data.toList (l.map (·.data.toList))
 | []=>rfl
 | s::l=>by simp only [zHL,zGX,zEf b l,Lib.joinTail,oc,List.flatten_cons]
theorem zFH (b:ByteArray) (l:List ByteArray):(zDP b l).data.toList=Lib.join (l.map (·.data.toList)) b.data.toList:=by
 cases l with
 | nil=>rfl
 | cons s l=>simp only [zDP,zGX,zEf,oc,Lib.join_cons]
theorem zLQ (l:List ByteArray):zy (zA l)=zA l:=by
 induction l with
 | nil=>rfl
 | cons s l I=>simp only [zA,oc,vN,D.cells] at I ⊢;rw [I];rfl
theorem zK0 {u:ByteArray} {N:Nat} {Q:QT [.str]} {av:Nat->Prop} {w0 w:World} (hN:w0.heap.size=N) (O:∀ N',N<=N'->Q u N') (I:Below w0.heap.size w0 w):Fin [.str] Q av w0 (.returned (.string u)) w:=
 ⟨[.str u],[],[],{ q:=O _ (by have:=I.size;omega),v:=rfl,m:=⟨rfl,by simp,by simp,by simp,λk j b h=>by obtain ⟨_,U,_⟩:=h;simp [Env.at] at U⟩,ok:=λp J=>by simp at J;subst J;trivial,fresh:=λk b h=>by simp [Env.at] at h,size:=I.size,old:=I.block,fz:=λ_ _ _ _ _ _=>trivial,ku:=⟨I.os,I.output⟩ }⟩
theorem zGG (ws:List ByteArray) (I:ByteArray) (ac:I.size<=1) (h:tot ws<=140737488355328) (a:Option Addr) (c:Nat):rT 159 [.sv a 0 (zA ws) c,.str I] (zDP I ws):=λN Q hQ=>
 ⟨by kernel_rfl,λav w0 hN am Y=>by
  have hg:=(Y (.sv a 0 (zA ws) c) (by simp)).1
  simp only [PV.Ok] at hg
  have hH:=hg.1
  have hl:=zE ws
  have ao:=zEK ws
  have ae:(Lib.join (ws.map (·.data.toList)) I.data.toList).length<=140737488355328:=by
   rw [<-zFH,nK]
   exact oT (zNT I ac ws) h
  have he:(⟨(Lib.join (ws.map (·.data.toList)) I.data.toList).toArray⟩:ByteArray)=zDP I ws:=uG (by rw [zFH])
  have hv:([PV.sv a 0 (zA ws) c,.str I].map (PV.val [])).toArray=#[.slice a ws.length c,.string I]:=by simp [PV.val,PV.val1,PV.cv,hl]
  rw [hv]
  have ah:∀ es,es=zA ws->Holds w0 (.sl a 0 es c):=λes h=>h ▸ hH
  clear hH
  have key:∀ es,es=zA ws->Holds w0 (.sl a 0 es c)->(a=none/\es=[]/\c=0)\/∃ ad,a=some ad/\(es≠[]->ad.spot=none)/\es.length<=c/\Row w0 ad (zy es):=λes _ h=>by
   cases h with
   | nil=>exact .inl ⟨rfl,rfl,rfl⟩
   | sl O h2 _ _ h3=>exact .inr ⟨_,rfl,O,h2,h3⟩
  rcases key _ rfl (ah _ rfl) with ⟨rfl,ai,rfl⟩ | ⟨ad,rfl,hs,hc,J⟩
  ·have aj:ws=[]:=mV.1 (by rw [<-hl,ai];rfl)
   subst aj
   refine (Any.strings_Join_none zRt zRx none 0 I w0).mono λe w ⟨O,h2⟩=>?_
   subst O;subst h2
   exact zK0 hN hQ (Below.refl _ _)
  ·by_cases aa:ws=[]
   ·subst aa
    refine (Any.strings_Join_none zRt zRx _ c I w0).mono λe w ⟨O,h2⟩=>?_
    subst O;subst h2
    exact zK0 hN hQ (Below.refl _ _)
   have U:zA ws≠[]:=λhc=>aa (mV.1 (by rw [<-hl,hc];rfl))
   obtain ⟨ab,off,sp⟩:=ad
   have ak:sp=none:=hs U
   subst ak
   rw [zLQ] at J
   rcases J with J | ⟨cc,t,fz,O,h2⟩
   ·exact absurd J U
   have al:ab<w0.heap.size:=(oR.1 O).1
   refine (Any.strings_Join zRt zRx ab off c ws I w0 (λj x hj=>?_) al (by omega) (by rw [<-hl];exact hc) ae).mono λe w ⟨h3,h4⟩=>?_
   ·have hd:(zA ws)[j]?=some (.lit (.string x)):=by simp [zA,hj]
    rw [tN O]
    exact h2 j _ hd
   ·rw [he] at h3
    subst h3
    exact zK0 hN hQ h4⟩
theorem zKs (ws:List ByteArray) (J:ByteArray) (ab:J.size<=1) (h:tot ws<=140737488355328) (a:Option Addr) (c:Nat):rT 99 [.sv a 0 (zA ws) c,.str J] (zDP J ws):=λN Q hQ=>by
 have ac:=zE ws
 have Y:=zEK ws
 refine zD5 N a _ c J Q λ_=>?_
 refine up (yn ws) (by omega) (λi xs=>∀ (I:ByteArray) (r:List D) (q N':Nat),N<=N'->r=yP I->I.size+tot xs<=tot ws->(i=0->I=bytes []/\xs=ws)->(0<i->I++zHL J xs=zDP J ws)->xW Q N a (zA ws) c J r.length q i r q N') ?_ ?_ (bytes []) [] 0 N (oD _) rfl (by rw [b0];omega) (λ_=>⟨rfl,rfl⟩) (λh=>by omega)
 ·intro k Y hk I r q N' U hr hn h0 h1
  subst hr
  refine vm _ _ _ _ _ _ _ _ _ _ _ _ ?_
  rw [Y]
  refine ⟨oD _,_,(oi (oD _)).trans (zN4 I),λN1 ae=>Qst (hQ _ (by omega)) ?_⟩
  rw [zKO]
  by_cases aa:k=0
  ·obtain ⟨rfl,rfl⟩:=h0 aa;rfl
  ·rw [<-h1 (by omega)];exact zRn I
 ·intro k x xs O _ ih I r q N' U hr hn h0 h1
  have hb:=O.b
  simp only [tot] at hn
  have ah:r.length=I.size:=by rw [hr,wI]
  refine vm _ _ _ _ _ _ _ _ _ _ _ _ ?_
  rw [O.w,oG]
  refine Br.of (λ_=>?_) λh=>by rw [O.lt] at h;cases h
  refine Br.dec (λhk=>?_) λhk=>?_
  ·refine ⟨⟨rfl,rfl⟩,by unfold zB;rw [oH,wI];omega,λc1=>⟨hb,x,O.r,⟨by trivial,by trivial⟩,by unfold zB;simp only [oH,wI];omega,λc2=>ih (I++J++x) _ c2 N' U (by rw [hr,zBO,zBO]) (by simp only [oJ];omega) (λh=>by omega) λ_=>?_⟩⟩
   rw [<-h1 (by omega),zHL,mw,mw,mw]
  ·refine ⟨hb,x,O.r,⟨rfl,rfl⟩,by unfold zB;rw [oH,wI];omega,λc2=>ih (I++x) _ c2 N' U (by rw [hr,zBO]) (by simp only [oJ];omega) (λh=>by omega) λ_=>?_⟩
   obtain ⟨e1,e2⟩:=h0 (by omega)
   rw [e1,zR8,<-e2]
   rfl
theorem zLW (ws:List ByteArray) (I:ByteArray) (J:I.size<=1) (h:tot ws<=140737488355328) (a:Option Addr) (c:Nat):rT 97 [.sv a 0 (zA ws) c,.str I] (zDP I ws):=λN Q O=>
 zKt N a _ c I Q λ_ N1 U=>zGG ws I J h a c N1 _ λN2 Y _ N3 aa=>O _ (by omega)
end YtmfjakahanbnlaaGreatDoor
end Go.Proofs
set_option maxRecDepth 100000
namespace Go.Proofs.YtmfjakahanbnlaaGreatDoor
open Go Go.Proofs Go.Proofs.Tryz Go.IntWalk
theorem zHA:∀ (t:Tm) (d e:D),t.Is d->t.Is e->ue 41 [.dg 9 d,.dg 9 e] true:=by
 refine Tm.ind λk nm ot m ty re l ih d e hd he N Q hQ=>?_
 obtain ⟨t0,t1,r0,r1,a,es,c,rfl,hh,O,U⟩:=Tm.is_mk.1 hd
 obtain ⟨u0,u1,v0,v1,a',ai,c',rfl,Y,aa,J⟩:=Tm.is_mk.1 he
 have hl:=U.len
 have aj:=J.len
 refine zDO N _ _ Q λ_ _=>⟨k,rfl,k,rfl,Br.bne (λh=>absurd rfl h) λ_=>⟨nm,rfl,nm,rfl,Br.of (λh=>by simp at h) λ_=>⟨ot,rfl,ot,rfl,Br.of (λh=>by simp at h) λ_=>⟨m,rfl,m,rfl,Br.bne (λh=>absurd rfl h) λ_ N1 ak=>?_⟩⟩⟩⟩
 refine vV ty ty _ _ hh.ty Y.ty N1 _ λN2 al _=>Br.of (λh=>by rw [zA4] at h;cases h) λ_ N3 am=>vV re re _ _ hh.re Y.re N3 _ λN4 ao _=>Br.of (λh=>by rw [zA4] at h;cases h) λ_=>⟨_,_,_,rfl,_,_,_,rfl,Br.bne (λh=>by omega) λ_=>?_⟩
 refine up U O (λi xs=>∀ (N':Nat),N<=N'->xD Q N i _ _ N') ?_ ?_ N4 (by omega)
 ·intro i ab hi N' ac
  exact u6 _ _ _ _ _ _ ⟨_,_,_,rfl,Br.of (λh=>by rw [ab] at h;cases h) λ_ N5 ae=>hQ _ (by omega)⟩
 ·intro i x xs I _ ah N' ac
  have hb:=I.b
  refine u6 _ _ _ _ _ _ ⟨_,_,_,rfl,Br.of (λ_=>⟨_,_,_,rfl,hb,_,_,_,rfl,⟨by omega,by omega⟩,λN5 ae=>?_⟩) λh=>by rw [I.lt] at h;cases h⟩
  rw [oG,I.w]
  exact ih x I.m _ _ I.r (J.get I.g) N5 _ λN6 aq _=>Br.of (λh=>by cases h) λ_=>ah N6 (by omega)
theorem zPf {es:List D} (hb:∀ d∈es,∃ n:Int,d=.lit (.int .u8 n)) (hl:es.length<=1073741824) (a:Option Addr) (c:Nat) (N:Nat) (Q:QT [.ag 9,.int .i64])
  (hQ:∀ d n N',N<=N'->Some 2100000 d->Q d n N'):ACalls prog 79 [.ag 9,.int .i64] [.sv a 0 es c] N Q:=by
 refine zFz N a es c Q λ_ N1 ak=>zQk hb hl a c N1 _ λh N2 al U _ N3 am=>zMU U a c h N3 _ λd a1 ao c1 i1 h1 N4 aq Y hd _ _ _ N5 au=>sw Y 10 (by omega) a1 c1 h1 N5 _ λb a2 aw c2 i2 h2 N6 ax I _ _=>Br.of (λ_ N7 aa=>?_) λ_ N7 aa=>?_
 ·refine zOs I a2 c2 h2 N7 _ λd' a3 ay c3 i3 h3 N8 az ab ac _ _ _ N9 a6=>?_
  exact wv (l:=[100,60,200,3,0,201, -1]) ab (by decide) (by decide) a3 c3 h3 7 7 N9 _ λs a' ae c' i' h' ah J ai _ _ _ _ aj O=>hQ _ _ _ (by omega) (ac.mono (by omega))
 ·exact wv (l:=[100,60,200,3,0,201, -1]) I (by decide) (by decide) a2 c2 h2 7 7 N7 _ λs a' ae c' i' h' ah J ai _ _ _ _ aj O=>hQ _ _ _ (by omega) hd
theorem zRc {es:List D} (hb:∀ d∈es,∃ n:Int,d=.lit (.int .u8 n)) (hl:es.length<=1073741824) (a:Option Addr) (c:Nat) (N:Nat) (Q:QT [.ag 9,.int .i64])
  (hQ:∀ d n N',N<=N'->Some 2100000 d->Q d n N'):ACalls prog 34 [.ag 9,.int .i64] [.sv a 0 es c] N Q:=by
 refine qk N a es c Q λ_ N1 ak=>zQk hb hl a c N1 _ λh N2 al U _ N3 am=>zMU U a c h N3 _ λd a1 ao c1 i1 h1 N4 aq Y hd _ _ _ N5 au=>sw Y 8 (by omega) a1 c1 h1 N5 _ λb a2 aw c2 i2 h2 N6 ax I _ _=>Br.of (λ_ N7 aa=>?_) λ_ N7 aa=>?_
 ·refine zOs I a2 c2 h2 N7 _ λd' a3 ay c3 i3 h3 N8 az ab ac _ _ _ N9 a6=>?_
  exact wv (l:=[0,1,2,5,300, -1]) ab (by decide) (by decide) a3 c3 h3 6 6 N9 _ λs a' ae c' i' h' ah J ai _ _ _ _ aj O=>hQ _ _ _ (by omega) (ac.mono (by omega))
 ·exact wv (l:=[0,1,2,5,300, -1]) I (by decide) (by decide) a2 c2 h2 6 6 N7 _ λs a' ae c' i' h' ah J ai _ _ _ _ aj O=>hQ _ _ _ (by omega) hd
theorem zLv {es:List D} {i:Int} (aa:Cu es i) (a:Option Addr) (c:Nat) (h:Int) (N:Nat) (Q:QT [.sl 0,.sl 0,.int .i64,.int .i64])
  (hQ:∀ (l:List Int) b q a' O c' i' h' N',N<=N'->Cu O i'->l.length<=6->Q b (zL l) q a' O c' i' h' N'):BCalls prog 88 [.sl 0,.sl 0,.int .i64,.int .i64] [.pb 0 0 0 0] [.var [.sv a 0 es c,.int .i64 i,.int .i64 h]] N Q:=by
 refine zBW N a es c i h Q λE _ N1 al=>yZ aa 6 (by omega) a c h N1 _ λn a1 ab c1 i1 h1 N2 am ac n0 n6 _ _ _=>?_
 have n6:=n6 (by omega)
 have key:∀ (f:Nat) (j:Nat) (l:List Int) (q:Nat) (a2:Option Addr) (I:List D) (U:Nat) (i2 Y:Int) (N':Nat),N<=N'->Cu I i2->l.length=j->(j:Int)+f=n->xu E Q N (zL l).length q n j a2 I U i2 Y (zL l) q N':=by
  intro f
  induction f with
  | zero=>
    intro j l q a2 I U i2 Y N' ae J hl hj
    refine sR _ _ _ _ _ _ _ _ _ _ _ _ _ _ _ (Br.dec (λh=>by omega) λ_=>⟨⟨rfl,rfl⟩,⟨rfl,rfl⟩,⟨rfl,rfl⟩,λb N3 ah _=>⟨zU,λN4 ai=>hQ l _ _ _ _ _ _ _ _ (by omega) J (by omega)⟩⟩)
  | succ f ih=>
    intro j l q a2 I U i2 Y N' ae J hl hj
    have ao:=xl l
    refine sR _ _ _ _ _ _ _ _ _ _ _ _ _ _ _ (Br.dec (λ_ N3 ah=>yZ J 10 (by omega) a2 U Y N3 _ λm a3 aj c3 i3 h3 N4 ai ak _ _ _ _ _=>⟨⟨rfl,rfl⟩,by unfold zB;rw [oH];simp only [oN,oV];omega,λc4=>?_⟩) λh=>absurd (by omega) h)
    rw [zBa,i64_in _ (by omega)]
    exact ih (j+1) (l++[m]) c4 a3 aj c3 i3 h3 N4 (by omega) ak (by simp [hl]) (by omega)
 exact key n.toNat 0 [] 0 a1 ab c1 i1 h1 N2 (by omega) ac rfl (by omega)
theorem zCQ (l:List Int) (hl:l.length<=1000000) (r:Int) (a:Option Addr) (c:Nat):pc 37 [.sv a 0 (zL l) c,.int .i64 r] (uD r l):=λN Q hQ=>by
 have aa:=xl l
 have ab:=zBA r l
 refine zDD N a _ c r Q λ_=>?_
 refine up (qV l) (by omega) (λi xs=>∀ (s:Int) (N':Nat),N<=N'->0<=s->s+uD r xs=uD r l->xP Q N r s a (zL l) c (zL l).length i N') ?_ ?_ 0 N (oD _) (by omega) (by omega)
 ·intro i O hi s N' U hs J
  refine um _ _ _ _ _ _ _ _ _ _ ?_
  rw [O]
  exact Br.of (λh=>by cases h) λ_ N1 Y=>Qi (hQ _ (by omega)) (by simp only [uD] at J;omega)
 ·intro i x xs I _ ih s N' U hs J
  have hb:=I.b
  refine um _ _ _ _ _ _ _ _ _ _ ?_
  rw [I.lt,I.w]
  refine Br.of (λ_=>⟨hb,x,by rw [oG];exact I.r,λN1 Y=>zRN _ N1 _ λN2 ac _=>?_⟩) λh=>by cases h
  have e:bI (x==r)=if x=r then 1 else 0:=by
   by_cases hx:x=r<;>simp [bI,hx]
  simp only [uD] at J
  rw [e,i64_in _ (by split at J<;>split<;>omega)]
  exact ih _ N2 (by omega) (by split<;>omega) (by split at J<;>split<;>omega)
theorem zJZ (l:List Int) (hl:l.length<=1000000) (r:Int) (a:Option Addr) (c:Nat):pc 38 [.sv a 0 (zL l) c,.int .i64 r] (uD r l):=λN Q hQ=>by
 have aa:=xl l
 have ab:=zBA r l
 refine zC0 N a _ c r Q λ_=>?_
 refine up (qV l) (by omega) (λi xs=>∀ (s:Int) (N':Nat),N<=N'->0<=s->s+uD r xs=uD r l->xJ Q N a (zL l) c r s i N') ?_ ?_ 0 N (oD _) (by omega) (by omega)
 ·intro i O hi s N' U hs J
  refine tI _ _ _ _ _ _ _ _ _ ?_
  rw [O]
  exact Br.of (λh=>by cases h) λ_ N1 Y=>Qi (hQ _ (by omega)) (by simp only [uD] at J;omega)
 ·intro i x xs I _ ih s N' U hs J
  have hb:=I.b
  refine tI _ _ _ _ _ _ _ _ _ ?_
  rw [I.lt,I.w]
  refine Br.of (λ_=>⟨hb,x,by rw [oG];exact I.r,λN1 Y=>zMW _ N1 _ λN2 ac _=>?_⟩) λh=>by cases h
  have e:bI (x==r)=if x=r then 1 else 0:=by
   by_cases hx:x=r<;>simp [bI,hx]
  simp only [uD] at J
  rw [e,i64_in _ (by split at J<;>split<;>omega)]
  exact ih _ N2 (by omega) (by split<;>omega) (by split at J<;>split<;>omega)
def rules:List ByteArray:=[bytes [110,111,110,101],bytes [111,112],bytes [105,102],bytes [97,112,112],bytes [114,101,99],bytes [108,101,116],bytes [115,112,108,105,99,101],bytes [114,117,110],bytes [108,105,102,116]]
def qL (k:Int):ByteArray:=if inB k 0 8=true then rules.getD k.toNat (bytes []) else bytes [63]
theorem zNi {k:Int} (J:0<=k) (O:k<=8):(zA rules).getD (0+k.toNat) default=D.lit (.string (rules.getD k.toNat (bytes []))):=by
 have I:k.toNat<rules.length:=by show _<9;omega
 rw [o0]
 unfold zA
 rw [oA,oA,oE,oF I]
 rfl
theorem zM5 (k:Int):(qL k).size<=6:=by
 unfold qL
 split
 ·rename_i h
  have I:=yN.1 h
  obtain ⟨u,rfl⟩:=Int.eq_ofNat_of_zero_le I.1
  have:u=0\/u=1\/u=2\/u=3\/u=4\/u=5\/u=6\/u=7\/u=8:=by omega
  rcases this with rfl | rfl | rfl | rfl | rfl | rfl | rfl | rfl | rfl<;>decide
 ·decide
theorem zDg (k:Int):rT 96 [.int .i64 k] (qL k):=λN Q I=>
 zEH N k Q λN1 Y=>yX k 0 8 N1 _ λN2 aa _=>Br.not (λJ N3 O=>by rw [qL,if_neg (by rw [J];simp)] at I;exact I _ (by omega)) λJ=>by
  rw [qL,if_pos J] at I
  have U:=yN.1 J
  exact ⟨⟨by omega,by omega,by omega⟩,by omega,_,zNi U.1 U.2,λN3 O=>I _ (by omega)⟩
theorem zE0 (k:Int):rT 98 [.int .i64 k] (qL k):=λN Q I=>
 zD9 N k Q λN1 Y=>xR k 0 8 N1 _ λN2 aa _=>Br.not (λJ N3 O=>by rw [qL,if_neg (by rw [J];simp)] at I;exact I _ (by omega)) λJ=>by
  rw [qL,if_pos J] at I
  have U:=yN.1 J
  exact ⟨⟨by omega,by omega,by omega⟩,by omega,_,zNi U.1 U.2,λN3 O=>I _ (by omega)⟩
theorem zE3:∀ l:List Int,tot (l.map qL)<=7*l.length
 | []=>by simp [tot]
 | x::l=>by have:=zE3 l;have:=zM5 x;simp only [oc,tot,oN];omega
theorem zGV (l:List ByteArray) (s:ByteArray):zA l++[D.lit (.string s)]=zA (l++[s]):=by simp [zA]
theorem zCr (l:List Int) (hl:l.length<=1000000) (a:Option Addr) (c:Nat):rT 39 [.sv a 0 (zL l) c] (zDP (bytes [32]) (l.map qL)):=λN Q hQ=>by
 have ab:=xl l
 have aa:=zE3 l
 refine zDM N a _ c Q λ_=>?_
 refine up (qV l) (by omega) (λi xs=>∀ (ws:List ByteArray) (q N':Nat),N<=N'->ws.length=i->ws++xs.map qL=l.map qL->xF Q N (zA ws).length q a (zL l) c (zL l).length i (zA ws) q N') ?_ ?_ [] 0 N (oD _) rfl rfl
 ·intro i U hi ws q N' Y J O
  simp only [mb,om] at O
  subst O
  refine u7 _ _ _ _ _ _ _ _ _ _ _ _ ?_
  rw [U]
  exact Br.of (λh=>by cases h) λ_=>⟨⟨rfl,rfl⟩,λa2 _ N3 ac _=>zLW _ _ (by decide) (by omega) a2 q N3 _ λN4 ae _ N5 ah=>hQ _ (by omega)⟩
 ·intro i x xs I _ ih ws q N' Y J O
  have hb:=I.b
  have ai:=zE ws
  refine u7 _ _ _ _ _ _ _ _ _ _ _ _ ?_
  rw [I.lt,I.w]
  refine Br.of (λ_=>⟨hb,x,by rw [oG];exact I.r,λN1 aj=>zDg x N1 _ λN2 ak _=>⟨⟨rfl,rfl⟩,sG (by omega),λc2=>?_⟩⟩) λh=>by cases h
  rw [zGV]
  exact ih (ws++[qL x]) c2 N2 (by omega) (by simp [J]) (by rw [<-O];simp)
theorem zCW (l:List Int) (hl:l.length<=1000000) (a:Option Addr) (c:Nat):rT 40 [.sv a 0 (zL l) c] (zDP (bytes [32]) (l.map qL)):=λN Q hQ=>by
 have ab:=xl l
 have aa:=zE3 l
 refine zCg N a _ c Q λ_=>?_
 refine up (qV l) (by omega) (λi xs=>∀ (ws:List ByteArray) (q N':Nat),N<=N'->ws.length=i->ws++xs.map qL=l.map qL->xE Q N a (zL l) c (zA ws).length q i (zA ws) q N') ?_ ?_ [] 0 N (oD _) rfl rfl
 ·intro i U hi ws q N' Y J O
  simp only [mb,om] at O
  subst O
  refine ur _ _ _ _ _ _ _ _ _ _ _ ?_
  rw [U]
  exact Br.of (λh=>by cases h) λ_=>⟨⟨rfl,rfl⟩,λa2 _ N3 ac _=>zKs _ _ (by decide) (by omega) a2 q N3 _ λN4 ae _ N5 ah=>hQ _ (by omega)⟩
 ·intro i x xs I _ ih ws q N' Y J O
  have hb:=I.b
  have ai:=zE ws
  refine ur _ _ _ _ _ _ _ _ _ _ _ ?_
  rw [I.lt,I.w]
  refine Br.of (λ_=>⟨hb,x,by rw [oG];exact I.r,λN1 aj=>zE0 x N1 _ λN2 ak _=>⟨⟨rfl,rfl⟩,sG (by omega),λc2=>?_⟩⟩) λh=>by cases h
  rw [zGV]
  exact ih (ws++[qL x]) c2 N2 (by omega) (by simp [J]) (by rw [<-O];simp)
theorem zMk (l:List Int) (hl:l.length<=1000000) (a b:Option Addr) (c O:Nat):ue 35 [.sv a 0 (zL l) c,.sv b 0 (zL l) O] true:=λN Q hQ=>by
 have aa:=xl l
 refine zEU N a _ c b _ O Q λ_ _=>Br.bne (λh=>absurd rfl h) λ_=>?_
 refine up (qV l) (by omega) (λi xs=>∀ (N':Nat),N<=N'->xZ Q N a (zL l) c b (zL l) O i N') ?_ ?_ N (oD _)
 ·intro i U hi N' J
  refine tf _ _ _ _ _ _ _ _ _ _ ?_
  rw [U]
  exact Br.of (λh=>by cases h) λ_ N1 ab=>hQ _ (by omega)
 ·intro i x xs I _ ih N' J
  have Y:=I.b
  refine tf _ _ _ _ _ _ _ _ _ _ ?_
  rw [I.lt,I.w]
  refine Br.of (λ_=>⟨Y,x,by rw [oG];exact I.r,Y,x,by rw [oG];exact I.r,Br.bne (λh=>absurd rfl h) λ_=>ih N' J⟩) λh=>by cases h
/-- how many rules of the first so many kinds -/
def zKE (l:List Int):Nat->Nat
 | 0=>0
 | k+1=>zKE l k+uD ((k:Int)+1) l
theorem zLw (l:List Int):∀ k,zKE l k<=k*l.length
 | 0=>by simp [zKE]
 | k+1=>by
   have I:=zLw l k
   have J:=zBA ((k:Int)+1) l
   simp only [zKE]
   rw [o8];omega
theorem zNh (l:List Int) (h:∀ r∈l,1<=r/\r<=8):zKE l 8=l.length:=by
 have:=zKV l h
 simp only [zKE]
 norm_cast at *
 simp at *
 omega
theorem zP6 (e:Tm) (I:Int):(uC e I).length<=200:=by
 unfold uC
 split
 ·rename_i h
  simp only [oK] at h
  have J:=yN.1 h.2
  have O:=pZ I.toNat 0 e
  have U:=zHU I.toNat 0 e
  omega
 ·simp
theorem zNN {es:List D} (hb:∀ d∈es,∃ n:Int,d=.lit (.int .u8 n)) (a:Option Addr) (c:Nat) (N:Nat) :
  ACalls prog 7 [.bool] [.sv a 0 es c] N (λr _=>r=true):=by
 refine zEn N a es c _ λ_ N1 ae=>zM2 N1 a es c _ λ_ N2 ah _=>Br.dec (λ_ N3 _=>rfl) λbt N4 ai=>?_
 refine p9 N4 a es c _ λ_ M1 c4=>zPf hb (by omega) a c M1 _ λd I M2 c5 hd _ _ N5 aj _ _ N6 ak=>?_
 obtain ⟨t,ht,c6⟩:=hd
 have hc:t.cnt<=4000000:=by omega
 have al:=zP6 t I
 refine zFu ht hc I N6 _ λb1 q1 N7 am _ _ _ N8 ao=>pO ht hc I N8 _ λx1 N9 c7 aq _ _ au bv=>?_
 refine qo au a es c _ λ_ M3 c8=>zQk hb (by omega) a c M3 _ λh M4 c9 aw _ M5 da=>zLv aw a c h M5 _ λl1 b2 q2 a1 db c1 i1 h1 M6 de ax df _ _ _ M7 dh=>yZ ax 9 (by omega) a1 c1 h1 M7 _ λrr a2 di c2 i2 h2 M8 dj dk _ _ _ _ _ dl bw _ _ ay bz=>?_
 refine qp ay a es c _ λ_ M9 dm=>zQk hb (by omega) a c M9 _ λh3 dn b5 U _ az b6=>zLv U a c h3 az _ λl2 b3 q3 a3 dq c3 i3 h3 dr b7 dt du _ _ _ dv b8 _ _ a6 b9=>?_
 refine zRc hb (by omega) a c a6 _ λd2 m2 dw ca a7 _ _ a8 cc=>?_
 obtain ⟨t2,Y,cd⟩:=a7
 have aa:t2.cnt<=4000000:=by omega
 refine zFv ht hc I a8 _ λb4 q4 dx ce _ _ _ ba cf=>zMk _ (by omega) b1 b4 q1 q4 ba _ λdz cg _=>Br.of (λh=>by cases h) λ_=>?_
 obtain ⟨y0,y1,y2,y3,y4,y5,y6,y7,y8,rfl,hy⟩:=Rs.cells aq
 refine ⟨_,rfl,Br.bne (λh=>absurd (by rw [xl];exact zOr t I) h) λ_ bb ch=>?_⟩
 refine zCQ l1 (by omega) rr b2 q2 bb _ λd5 cj _ bc ck=>zJZ l1 (by omega) rr b2 q2 bc _ λd6 cm _=>Br.bne (λh=>absurd rfl h) λ_ bd cn=>?_
 refine zCr l2 (by omega) b3 q3 bd _ λd7 co _ bg cp=>zCW l2 (by omega) b3 q3 bg _ λd8 cq _=>Br.of (λh=>by simp at h) λ_ bh cr=>?_
 refine sg Y aa m2 bh _ λx3 d9 ct bi _ _ _ bj cw=>zDB Y aa m2 bj _ λx4 ea cx bm _ _ bn cy=>zHA _ x3 x4 bi bm bn _ λab cz _=>Br.of (λh=>by cases h) λ_=>?_
 generalize bp:uC t I=tr at *
 have J:∀ r∈tr,1<=r/\r<=8:=by rw [<-bp];exact zKl t I
 have key:∀ (f k:Nat),k+f=8->∀ N',ab<=N'->xC (λr _=>r=true) N b1 (zL tr) q1 (zKE tr k:Nat) ((k:Int)+1) d (.ag [.lit (.int .i64 (ub t I).1),y0,y1,y2,y3,y4,y5,y6,y7,y8,.lit (.int .i64 ((ub t I).2.2:Nat))]) N':=by
  intro f
  induction f with
  | zero=>
    intro k hk N' bq
    obtain rfl:k=8:=by omega
    rw [zNh tr J]
    refine uq _ _ _ _ _ _ _ _ _ _ (Br.dec (λh=>by omega) λ_=>Br.beq (λ_=>⟨_,rfl,Br.bne (λ_ _ _=>rfl) λO=>⟨_,rfl,λN4 ai=>?_⟩⟩) λh=>absurd (by rw [xl]) h)
    refine sg ht hc _ N4 _ λx5 N5 aj ac _ _ _ N6 ak=>?_
    rw [zOA O] at ac
    exact zHA _ x5 _ ac hy N6 _ λN7 am _ N8 ao=>rfl
  | succ f ih=>
    intro k hk N' bq
    have h1:=zLw tr k
    have h2:=zBA ((k:Int)+1) tr
    have h3:k*tr.length<=8*200:=Nat.mul_le_mul (by omega) al
    refine uq _ _ _ _ _ _ _ _ _ _ (Br.dec (λ_ N1 ae=>zCQ tr (by omega) _ b1 q1 N1 _ λN2 ah _=>?_) λh=>absurd (by omega) h)
    rw [i64_in _ (by omega),i64_in _ (by omega)]
    have:=ih (k+1) (by omega) N2 (by omega)
    simp only [zKE] at this
    push_cast at this
    exact this
 exact key 8 0 rfl ab (oD _)
end Go.Proofs.YtmfjakahanbnlaaGreatDoor
