/- FnTermText: a term is parsed from its representation. -/
import Derived.Test.YtidiofobanefmaaGreatDoorB6
import Derived.Test.YtidiofobanefmaaGreatDoorC1
import Derived.Test.YtidiofobanefmaaGreatDoorA9
import Derived.Test.YtidiofobanefmaaGreatDoorKd
import Derived.Test.YtidiofobanefmaaGreatDoorJh
import Derived.ProofKit
import Derived.ReadAgain
import Derived.ChangeSame
import Derived.Test.YtidiofobanefmaaGreatDoorRows
import Derived.SizedLaws
import Derived.Test.YtidiofobanefmaaGreatDoorA1
import Derived.Test.YtidiofobanefmaaGreatDoorA5
import Derived.Lib.LaidTab
import Derived.Lib.ItoaNum
import Derived.Stop.LaidErr
import Derived.LaidMore
import Derived.OpenShut
import Derived.MakeChecks
import Derived.Lib.Space
import Derived.Look8
import Derived.Lay
import Derived.Test.YtidiofobanefmaaGreatDoorCards
import Derived.Test.YtidiofobanefmaaGreatDoorTie
import Derived.SevenTiedAt
set_option linter.unusedVariables false
set_option linter.unusedSimpArgs false
set_option maxRecDepth 100000
namespace Go.Proofs.YtidiofobanefmaaGreatDoor
open Go Go.Proofs Go.Proofs.Tryz Go.IntWalk
theorem JV {es:List D} {i:Int} (hc:Cu es i) (s:ByteArray) (hs:s.size<=1000000) (l:List ByteArray) (h0:0<l.length) (hl:l.length<=4294967296) (U:∀ w∈l,w.size<=100) (a:Option Addr) (c:Nat) (h:Int) (k q:Nat) (N:Nat) (Q:QT [.str,.sl 0,.i,.i,.sl 0])
  (V:∀ z a' J c' i' h' N',N<=N'->Cu J i'->z.size<=1000100->Q z a' J c' i' h' none (zD l) q N'):BCalls prog 29 [.str,.sl 0,.i,.i,.sl 0] [.pb 0 0 0 0,.str s,.sb 1 0 0 l.length k] [.var [.sv a 0 es c,.j i,.j h],.arr 9 0 (zD l) q] N Q:=by
 refine rQ N s l.length k a es c i h (zD l) q Q λE _ _ N1 ab=>?_;rw[i64_in ((s.size:Int)+1) (by omega)];refine xj hc ((s.size:Int)+1) (by omega) a c h N1 _ λx a1 ac c1 i1 h1 N2 ae Y x0 x1 _ _ _ N3 ah=>xj Y 6 (by omega) a1 c1 h1 N3 _ λy a2 ai c2 i2 h2 N4 aj I y0 y1 _ _ _=>?_;have x1:=x1 (by omega);have s1:(ByteArray.extract s 0 x.toNat).size<=s.size:=by rw[nw];omega
 have s2:(ByteArray.extract s 0 x.toNat).size+(ByteArray.extract s x.toNat ((s.size:Int)).toNat).size<=s.size:=by rw[nw,nw];omega
 refine Br.beq (λ_=>⟨⟨by omega,by omega,by omega⟩,⟨by omega,by omega,by omega⟩,λZ O=>qZ I l h0 hl a2 c2 h2 k q Z _ λw a3 ak c3 i3 h3 N6 al aa hw _ _ _=>?_⟩) λ_=>Br.beq (λ_=>⟨⟨by omega,by omega,by omega⟩,zG,λZ O=>V _ _ _ _ _ _ _ (by omega) I (by omega)⟩) λ_=>⟨zG,λZ O=>V _ _ _ _ _ _ _ (by omega) I (by omega)⟩
 have w1:=U w hw;exact⟨by omega,by rw[oD];omega,zG,λN7 ao=>V _ _ _ _ _ _ _ (by omega) aa (by rw[oD,oD];omega)⟩
theorem GK (t:Tm):(vtx t).size<=1000000:=by
 unfold vtx;split
 ·rename_i h;obtain⟨I,J,_⟩:=rF h
  have:=Ix t I
  omega
 ·show 0<=1000000;omega
section
variable {es:List D} (hb:∀ d∈es,∃ n:Int,d=.lit (.int .u8 n)) (hl:es.length<=1073741824) (a:Option Addr) (c:Nat)
include hb hl
theorem Jf (N:Nat)(Q:QT [.ag 9])(J:∀ d N',N<=N'->Some 30000 d->Q d N'):ACalls prog 5 [.ag 9] [.sv a 0 es c] N Q:=
 ui N a es c Q λ_ N1 O=>LF hb hl a c N1 _ λh N2 U I _ N3 V=>Ek I a c h N3 _ λd a2 Y c2 i2 h2 N4 Z aa hd _ _ _ N5 ab=>J _ _ (by omega) hd
theorem Bg (N:Nat)(Q:QT [.ag 9])(J:∀ d N',N<=N'->Some 30000 d->Q d N'):ACalls prog 14 [.ag 9] [.sv a 0 es c] N Q:=
 tv N a es c Q λ_ N1 O=>LF hb hl a c N1 _ λh N2 U I _ N3 V=>Ek I a c h N3 _ λd a2 Y c2 i2 h2 N4 Z aa hd _ _ _ N5 ab=>J _ _ (by omega) hd
theorem LT (N:Nat)(Q:QT [.str])(O:∀ s N',N<=N'->s.size<=1000100->Q s N'):ACalls prog 12 [.str] [.sv a 0 es c] N Q:=
 tO N a es c Q λ_ N1 U=>LF hb hl a c N1 _ λh N2 V I _ N3 Y=>Ek I a c h N3 _ λd a2 Z c2 i2 h2 N4 aa J hd _ _ _ N5 ab=>by
  obtain⟨t,ht,hw⟩:=hd
  have:=t.cnt_wt
  exact yS ht (by omega) N5 _ λN6 ac _ N7 ae=>JV J (vtx t) (GK t) [bytes [40],bytes [41],bytes [32],bytes [60],bytes [62],bytes [126],bytes [120],bytes [43],bytes [35,116],bytes [114,117,110,32]] (by decide) (by decide) (by decide) a2 c2 h2 10 10 N7 _ λz a3 ah c3 i3 h3 N8 ai aj hz _ _ _ N9 ak=>O _ _ (by omega) hz
theorem Fm (N:Nat):ACalls prog 12 [.str] [.sv a 0 es c] N (λs N1=>N<=N1->∀ N2,N1<=N2->ACalls prog 7 [.ag 9,.bool] [.str s] N2 (λx b N3=>N2<=N3->Bel N3 x->∀ N4,N3<=N4->ACalls prog 13 [.ag 9,.bool] [.str s] N4 (λx' b' N5=>N4<=N5->Bel N5 x'->∀ Z,N5<=Z->ACalls prog 14 [.ag 9] [.sv a 0 es c] Z (λu N7=>Z<=N7->Bel N7 u->Br (b==b') (Br (!b) (∀ O,N7<=O->ACalls prog 11 [.str] [.dg 9 u] O (λs1 V=>O<=V->∀ I,V<=I->ACalls prog 15 [.str] [.dg 9 u] I (λs2 J=>I<=J->∀ U,J<=U->(s1.toList==s2.toList)=true))) (∀ O,N7<=O->ACalls prog 6 [.str] [.dg 9 x] O (λs0 V=>O<=V->Br (s0.toList==s.toList) (∀ I,V<=I->ACalls prog 11 [.str] [.dg 9 u] I (λs1 J=>I<=J->∀ U,J<=U->ACalls prog 15 [.str] [.dg 9 u] U (λs2 ac=>U<=ac->∀ ai,ac<=ai->(s1.toList==s2.toList)=true))) (∀ I,V<=I->false=true)))) (∀ O,N7<=O->false=true))))):=by
 refine LT hb hl a c N _ λs N1 ay hs _ N2 az=>?_;have tt:∀ {u:D} {t:Tm},t.Is u->t.cnt<=30000->∀ O,ACalls prog 11 [.str] [.dg 9 u] O (λs1 V=>O<=V->∀ I,V<=I->ACalls prog 15 [.str] [.dg 9 u] I (λs2 J=>I<=J->∀ U,J<=U->(s1.toList==s2.toList)=true)):=λ{u t} Y hc O=>uB Y (by omega) O _ λV aj _ I ae=>pq Y (by omega) I _ λJ aw _ U ax=>by rw[yi];exact nU rfl
 refine ve s (by omega) N2 _ (λt d N3 ak hv e hd _ _ N4 al=>vf s (by omega) N4 _ (λt' d' N5 aa ah e' ao _ _ Z ab=>Bg hb hl a c Z _ λu N7 aq Y _ _=>?_) λd' N5 aa hn _ _ Z ab=>absurd e (hn t hv)) λd N3 ak hn _ _ N4 al=>vf s (by omega) N4 _ (λt' d' N5 aa ah e' ao _ _ Z ab=>absurd e' (hn t' ah)) λd' N5 aa a1 _ _ Z ab=>Bg hb hl a c Z _ λu N7 aq Y _ _=>?_
 ·obtain⟨tu,Y,hw⟩:=Y
  have:=tu.cnt_wt
  refine Br.of (λ_=>Br.of (λh=>by cases h) λ_ O au=>xi hd ?_ O _ λV aj _=>Br.str (λ_ I ae=>tt Y (by omega) I) λh=>absurd (by rw[vtx,if_pos hv];exact e) h) λh=>by cases h
  have h2:=IS (wx true hv e);rw[xN]at h2;omega
 ·obtain⟨tu,Y,hw⟩:=Y
  have:=tu.cnt_wt
  exact Br.of (λ_=>Br.of (λ_ O au=>tt Y (by omega) O) λh=>by cases h) λh=>by cases h
end
theorem Dp {es:List D} (hb:∀ d∈es,∃ n:Int,d=.lit (.int .u8 n)) (a:Option Addr) (c:Nat) (N:Nat) :
  ACalls prog 3 [.bool] [.sv a 0 es c] N (λr _=>r=true):=by
 refine qR N a es c _ λ_ N1 a6=>G4 N1 a es c _ λ_ N2 a7 _=>Br.dec (λ_ N3 _=>rfl) λaq N4 a8=>?_;refine Jf hb (by omega) a c N4 _ λd N5 ba hd _ _ N6 bb=>?_;obtain⟨t,J,hw⟩:=hd;have hc:=t.cnt_wt;have bc:=GK t;refine xi J (by omega) N6 _ λN7 bg _ N8 bh=>ve (vtx t) (by omega) N8 _ (λt' d' N9 ac hv e ae _ _ O Y=>?_) λd' N9 ac hn _ _ O Y=>?_
 ·have hr:=wx true hv e;have I:t.vd=true:=by
   cases h:t.vd with
   | true=>rfl
   | false=>rw[vtx,if_neg (by rw[h];decide)]at hr;rw[show bl (bytes [])=[]from rfl,Ks]at hr;cases hr
  have e2:t.tx=vtx t:=by rw[vtx,if_pos I]
  have U:=wx true I e2;rw[hr]at U;simp only[oZ,mo]at U;obtain⟨rfl,_⟩:=U;refine yS J (by omega) O _ λah Z _=>Br.nstr (λh=>absurd rfl h) λ_ V aa=>xQ t' d J (by omega) V _ λai ab _=>?_;rw[hv];refine Br.of (λh=>by cases h) λ_=>Br.of (λ_ aj au=>qo t' t' d' d ae J aj _ λbi aw _=>?_) λh=>by cases h
  rw[Iq];refine Br.of (λh=>by cases h) λ_=>Br.of (λ_ ak ax=>uB J (by omega) ak _ λbj ay _=>Br.nstr (λh=>absurd (by rw[Ly,if_pos (rF hv).1];exact e) h) λ_ al az=>Fm hb (by omega) a c al) λh=>by cases h
 ·have I:t.vd=false:=by
   cases h:t.vd with
   | false=>rfl
   | true=>exact absurd (by rw[vtx,if_pos h]) (hn t h)
  refine yS J (by omega) O _ λah Z _=>Br.nstr (λh=>absurd rfl h) λ_ V aa=>xQ t d J (by omega) V _ λai ab _=>?_;rw[I];exact Br.of (λh=>by cases h) λ_=>Br.of (λh=>by cases h) λ_=>Br.of (λh=>by cases h) λ_ ao a1=>Fm hb (by omega) a c ao
open Go
def A7 (P:Program)(e:TypeId):Nat:=match P.underlying e with | some (.struct _)=>P.cellsOf e | _=>0
def qY (P:Program):List Field->Nat->Nat->Bool
 | [],o,n=>o==n
 | f::fs,o,n=>f.offset==o&&qY P fs (o+P.cellsOf f.type) n
def Fw (P:Program)(T:List TypeId)(t:TypeId):Bool:=
 match P.underlying t with
 | some .bool=>true
 | some (.int _)=>true
 | some .string=>true
 | some (.slice e)=>T.contains e&&(P.cellsOf e==ez (A7 P e))&&decide (0<P.bytesOf e)
 | some (.struct fs)=>qY P fs.toList 0 (P.cellsOf t)&&fs.toList.all λf=>T.contains f.type
 | _=>false
def NO (R:TypeId->List D->Prop):List TypeId->List D->Prop
 | [],xs=>xs=[]
 | t::ts,xs=>∃ a b,xs=a++b/\R t a/\NO R ts b
def Shp (P:Program):Nat->TypeId->List D->Prop
 | 0,_,_=>False
 | n+1,t,xs=>match P.underlying t with
   | some .bool=>∃ v,xs=[.lit (.bool v)]
   | some (.int k)=>∃ m,xs=[.lit (.int k m)]/\(Lit.int k m).wf=true
   | some .string=>∃ s:ByteArray,xs=[.t s]/\s.size<=reachBytes
   | some (.slice e)=>∃ a es c,xs=[.sl a (A7 P e) es c]/\es.length<=reachBytes/\∀ x∈es,Shp P n e x.cells
   | some (.struct fs)=>NO (Shp P n) (fs.toList.map (·.type)) xs
   | _=>False
theorem M5 {P:Program}{n:Nat}{t:TypeId}{xs:List D}{k:IntKind}(I:P.underlying t=some (.int k))(h:Shp P n t xs):∃ m,xs=[.lit (.int k m)]:=by
 cases n with
 | zero=>exact h.elim
 | succ n=>unfold Shp at h;rw[I]at h;obtain⟨m,rfl,_⟩:=h;exact⟨m,rfl⟩
theorem H7:reachBytes<=4611686018427387904:=by decide
theorem F9 {P:Program}{n:Nat}{t e:TypeId}{xs:List D}(I:P.underlying t=some (.slice e))(h:Shp P n t xs):∃ m a es c,n=m+1/\xs=[.sl a (A7 P e) es c]/\es.length<=4611686018427387904/\∀ x∈es,Shp P m e x.cells:=by
 cases n with
 | zero=>exact h.elim
 | succ n=>unfold Shp at h;rw[I]at h;obtain⟨a,es,c,rfl,hl,J⟩:=h;exact⟨n,a,es,c,rfl,rfl,o8 hl H7,J⟩
structure Snap (w:World) (cs:List Value) (xs:List D):Prop where
 cv:xs.map D.cv=cs
 cell:∀ x∈xs,x.isCell
 hold:∀ x∈xs,Holds w x
theorem Snap.one {w:World}{v:Value}{x:D}(I:x.cv=v)(J:x.isCell)(O:Holds w x):Snap w [v] [x]:=⟨by simp[I],by simpa using J,by simpa using O⟩
theorem Snap.app {w:World}{us bs:List Value}{xs ys:List D}(h:Snap w us xs)(I:Snap w bs ys):Snap w (us++bs) (xs++ys):=
 ⟨by rw[mL,h.cv,I.cv],λx J=>(oO.1 J).elim (h.cell x) (I.cell x),λx J=>(oO.1 J).elim (h.hold x) (I.hold x)⟩
theorem AM {α β γ:Type}{f:α->Option β}{Q:α->γ->Prop}:∀ {l:List α}{r:List β},l.mapM f=some r->(∀ i∈l,∀ y∈r,f i=some y->∃ x,Q i x)->∃ xs:List γ,xs.length=l.length/\∀(k:Nat)(i:α),l[k]?=some i->∃ x,xs[k]?=some x/\Q i x
 | [],r,h,U=>⟨[],rfl,λk i J=>by simp at J⟩
 | a :: l,r,h,U=>by
   rw[List.mapM_cons]at h;cases O:f a with
   | none=>simp[O]at h
   | some y=>
     cases I:l.mapM f with
     | none=>simp[O,I]at h
     | some ys=>
       have V:r=y::ys:=by simpa [O,I]using h.symm
       subst V;obtain⟨x,Y⟩:=U a (by simp) y (by simp) O;obtain⟨xs,Z,h3⟩:=AM I λi hi y hy=>U i (by simp[hi]) y (by simp[hy]);refine⟨x::xs,by simp[Z],λk i J=>?_⟩;cases k with
       | zero=>simp at J;subst J;exact⟨x,rfl,Y⟩
       | succ k=>simp at J;simpa using h3 k i J
variable {H:Type} {enc:TypeId × Value->H} {P:Program} {w:World} {base:Nat} {spare:Nat->Bool} {held:Bool} {T:List TypeId}
theorem DZ:∀ {L:List Field}{o n:Nat},qY P L o n=true->o<=n
 | [],o,n,h=>by simp[qY]at h;omega
 | f::L,o,n,h=>by
   simp only[qY,oL]at h
   have:=DZ h.2
   omega
theorem Af {g:TypeId->List Value->Option (DataW H × List MemPlace)} {R:TypeId->List D->Prop} {cs:List Value}:∀ {L:List Field} {o N:Nat} {r:List (DataW H × List MemPlace)},qY P L o N=true->N<=cs.length ->
  (L.mapM λf=>g f.type ((cs.drop f.offset).take (P.cellsOf f.type)))=some r->(∀ x∈DataW.weightsEach P (L.map (·.type)) (r.map (·.1)),x<=reachBytes)->(∀ f∈L,∀ vs y,g f.type vs=some y->(∀ x∈y.1.weights P f.type,x<=reachBytes)->∃ xs,Snap w vs xs/\R f.type xs)->∃ xs,Snap w ((cs.drop o).take (N - o)) xs/\NO R (L.map (·.type)) xs
 | [],o,N,r,hc,hN,h,U,V=>by simp[qY]at hc;subst hc;exact⟨[],⟨by simp,by simp,by simp⟩,rfl⟩
 | f :: L,o,N,r,hc,hN,h,U,V=>by
   simp only[qY,oL,mH]at hc;obtain⟨Y,O⟩:=hc;rw[List.mapM_cons]at h;cases I:g f.type ((cs.drop f.offset).take (P.cellsOf f.type))with
   | none=>simp[I]at h
   | some y=>
     cases J:(L.mapM λf=>g f.type ((cs.drop f.offset).take (P.cellsOf f.type)))with
     | none=>simp[I,J]at h
     | some ys=>
       have Z:r=y::ys:=by simpa [I,J]using h.symm
       subst Z;simp only[o7,DataW.weightsEach,oO]at U;obtain⟨us,h1,h2⟩:=V f (by simp) _ y I λx I=>U x (.inl I);obtain⟨bs,h3,h4⟩:=Af O hN J (λx I=>U x (.inr I)) λf hf=>V f (by simp[hf]);have aa:=DZ O;refine⟨us++bs,?_,us,bs,rfl,h2,h4⟩
       have:=h1.app h3
       rw[Y]at this;have e:(cs.drop o).take (N - o)=(cs.drop o).take (P.cellsOf f.type)++(cs.drop (o+P.cellsOf f.type)).take (N - (o+P.cellsOf f.type)):=by rw[show N - o=P.cellsOf f.type+(N - (o+P.cellsOf f.type)) by omega,List.take_add,List.drop_drop]
       rw[e];exact this
theorem Lx {n:Nat}{t:TypeId}{xs:List D}(h:Shp P n t xs)(hc:∀ x∈xs,x.isCell)(hs:A7 P t=0)(I:∀ fs,P.underlying t≠some (.struct fs)):∃ x,xs=[x]:=by
 cases n with
 | zero=>exact h.elim
 | succ n=>
   unfold Shp at h;split at h
   ·obtain⟨v,rfl⟩:=h;exact⟨_,rfl⟩
   ·obtain⟨v,rfl,_⟩:=h;exact⟨_,rfl⟩
   ·obtain⟨v,rfl,_⟩:=h;exact⟨_,rfl⟩
   ·obtain⟨a,es,c,rfl,_⟩:=h;exact⟨_,rfl⟩
   ·rename_i fs J;exact absurd J (I fs)
   ·exact h.elim
theorem LL {n:Nat} {e:TypeId} {cs:List Value} {xs:List D} (hs:Snap w cs xs) (h:Shp P n e xs) (hl:cs.length=P.cellsOf e) (V:P.cellsOf e=ez (A7 P e)) :
  ∃ x,x.cells=xs/\eOk (A7 P e) x/\Holds w x:=by
 have Y:xs.length=cs.length:=by rw[<-hs.cv];simp
 by_cases I:∃ fs,P.underlying e=some (.struct fs)
 ·obtain⟨fs,I⟩:=I;have J:A7 P e=P.cellsOf e:=by unfold A7;rw[I]
  have O:P.cellsOf e≠0:=by intro Z;rw[J,Z]at V;simp[ez]at V
  refine⟨.ag xs,rfl,?_,.ag hs.hold⟩;unfold eOk;rw[J,if_neg O];exact⟨xs,rfl,by omega,hs.cell⟩
 ·have J:A7 P e=0:=by
   unfold A7;split
   ·rename_i fs U;exact absurd ⟨fs,U⟩ I
   ·rfl
  obtain⟨x,rfl⟩:=Lx h hs.cell J λfs U=>I ⟨fs,U⟩;have hc:=hs.cell x (by simp);refine⟨x,?_,?_,hs.hold x (by simp)⟩
  ·cases x<;>first | exact hc.elim | rfl
  ·unfold eOk;rw[J,if_pos rfl];exact hc
theorem Ha {a:Addr}{n:Nat}{cs:List Value}(h:w.cells? base a n=some cs):cs.length=n/\∀ j u,cs[j]?=some u->w.cell? (a.add j)=some u:=by
 unfold World.cells? at h;split at h
 ·refine⟨by have:=mapM_some_length h;simpa using this,λj u J=>?_⟩;have I:j<n:=by
   have:=mapM_some_length h
   have O:=(oC.1 J).1;simp at this;omega
  have:=mapM_some_get h j j (by simp[I])
  rw[this];exact J
 ·cases h
theorem HZ {a:Addr}{u:Value}(h:w.cell? a=some u):a.spot=none/\∃ c t fz,w.heap[a.block]?=some (.cells c t fz):=by
 refine⟨World.cell?_spot h,?_⟩;unfold World.cell? at h;split at h
 ·rename_i c t fz hb;exact⟨_,_,_,hb⟩
 ·cases h
theorem My {a:Addr}{z:Nat}{es:List D}(V:∀ x∈es,eOk z x)(h:∀(k:Nat)(x:D),es[k]?=some x->∀(j:Nat)(u:D),x.cells[j]?=some u->w.cell? ((a.add (k*ez z)).add j)=some u.cv):Row w a (zg es)/\(es≠[]->a.spot=none):=by
 by_cases J:es=[]
 ·subst J;exact⟨.inl rfl,λh=>absurd rfl h⟩
 obtain⟨x,l,rfl⟩:∃ x l,es=x::l:=by cases es with | nil=>exact absurd rfl J | cons x l=>exact⟨x,l,rfl⟩
 have hx:=z7 (V x (by simp));have hp:=qa z;obtain⟨u0,Y⟩:∃ u,x.cells[0]?=some u:=⟨_,oF (by omega)⟩
 have h0:=h 0 x (by simp) 0 u0 Y;have e0:(a.add (0*ez z)).add 0=a:=by simp[Addr.add]
 rw[e0]at h0;obtain⟨hs,c,t,fz,hb⟩:=HZ h0;refine⟨.inr ⟨c,t,fz,hb,λi u hu=>?_⟩,λ_=>hs⟩;have Z:=zH V;have hi:i<(x::l).length*ez z:=by rw[<-Z];exact(oC.1 hu).1
 have hk:i / ez z<(x::l).length:=(Nat.div_lt_iff_lt_mul hp).2 hi;have hj:i % ez z<ez z:=Nat.mod_lt _ hp;have hy:=oF hk;have ab:=z7 (V _ (oB hy));have hv:=oF (l:=((x::l)[i / ez z]).cells) (i:=i % ez z) (by omega);have O:=uu V hy hv;have U:i / ez z*ez z+i % ez z=i:=by rw[Nat.mul_comm];exact Nat.div_add_mod i (ez z)
 rw[U,hu]at O;have I:=h _ _ hy _ _ hv;have aa:=o9 O;rw[<-aa]at I;obtain⟨b,o,s⟩:=a;simp only at hs hb ⊢;subst hs;rw[yL,yL,mT,U]at I
 have:=px (w:=w) (ad:=⟨b,o,none⟩) rfl hb i
 rw[yL]at this;rw[this]at I;exact I
theorem tZ {e:TypeId}{d:DataW H}:∀ {l:List (DataW H)},d∈l->∀ {x:Nat},x∈d.weights P e->x∈DataW.weightsAll P e l
 | d'::l,h,x,I=>by
   simp only[DataW.weightsAll,oO];rcases oG.1 h with rfl | h
   ·exact .inl I
   ·exact .inr (tZ h I)
theorem D6 (hT:T.all (Fw P T)=true):∀(n:Nat)(t:TypeId)(cs:List Value)(y:DataW H × List MemPlace),t∈T->DataW.trod enc P w base spare held n t cs=some y->(∀ x∈y.1.weights P t,x<=reachBytes)->∃ xs,Snap w cs xs/\Shp P n t xs:=by
 intro n
 induction n with
 | zero=>intro t cs y _ h _;simp[DataW.trod]at h
 | succ n ih=>
   intro t cs y ht h hw;have J:=oW.1 hT t ht;unfold Fw at J;unfold Shp;unfold DataW.trod at h;split at h
   ·rename_i I;rw[I];exact⟨[.lit _],.one rfl rfl .lit,_,rfl⟩
   ·rename_i I;rw[I];split at h
    ·rename_i hk;obtain⟨rfl,hk⟩:=hk;exact⟨[.lit _],.one rfl rfl .lit,_,rfl,hk⟩
    ·cases h
   ·rename_i I;rw[I]at J;simp at J
   ·rename_i I;rw[I];split at h
    ·cases h;exact⟨[.lit _],.one rfl rfl .lit,_,rfl,hw _ (by simp only[DataW.weights,nM];exact nF.symm)⟩
    ·cases h
   ·rename_i I;rw[I]at J;simp at J
   ·rename_i I;rw[I]at J;simp at J
   ·rename_i e I;rw[I];exact⟨_,.one (x:=.sl none (A7 P e) [] 0) rfl trivial .nil,_,_,_,rfl,Nat.zero_le _,λx V=>absurd V (by simp)⟩
   ·rename_i e a len cap I;rw[I]at J ⊢;simp only[oL,mH,List.contains_iff_mem]at J;obtain⟨⟨ah,hz⟩,ab⟩:=J;have ab:=mj ab;simp only at h;split at h
    rotate_left
    ·cases h
    rename_i hb;obtain⟨ay,az,a1⟩:=hb;cases hm:(List.range len).mapM λi=>(w.cells? base (a.add (i*P.cellsOf e)) (P.cellsOf e)).bind (DataW.trod enc P w base spare held n e)with
    | none=>rw[hm]at h;simp at h
    | some elems=>
      have ai:=hm;rw[hm]at h;simp only[oI]at h;obtain⟨rest,_,Y⟩:=nG.1 h;subst Y;simp only[DataW.weights,I,oG,oO]at hw;have a6:elems.length=len:=by simpa using mapM_some_length hm
      have a7:len<=reachBytes:=by have Z:=hw _ (.inl rfl);have h2:((elems.map (·.1)).length+(rest.map (·.1)).length)*1<=((elems.map (·.1)).length+(rest.map (·.1)).length)*P.bytesOf e:=Nat.mul_le_mul_left _ ab;simp only[nP,Nat.mul_one]at Z h2;omega
      have aj:∀ y∈elems,∀ x∈y.1.weights P e,x<=reachBytes:=λy Y x V=>hw x (.inr (.inl (tZ (oU.2 ⟨y,Y,rfl⟩) V)));obtain⟨es,O,ak⟩:=AM (Q:=λi (x:D)=>Shp P n e x.cells/\eOk (A7 P e) x/\Holds w x/\∀(j:Nat) (u:D),x.cells[j]?=some u->w.cell? ((a.add (i*ez (A7 P e))).add j)=some u.cv) ai λi _ y al Y=>by
       cases hc:w.cells? base (a.add (i*P.cellsOf e)) (P.cellsOf e)with
       | none=>rw[hc]at Y;simp at Y
       | some vs=>rw[hc]at Y;simp only[oI]at Y;obtain⟨xs,Z,h2⟩:=ih e vs y ah Y (aj y al);obtain⟨ao,aq⟩:=Ha hc;obtain⟨x,rfl,h3,h4⟩:=LL Z h2 ao hz;refine⟨x,h2,h3,h4,λj u I=>?_⟩;rw[<-hz];refine aq j _ ?_;rw[<-Z.cv,oE,I];rfl
      have O:es.length=len:=by simpa using O
      have aa:∀ k x,es[k]?=some x->Shp P n e x.cells/\eOk (A7 P e) x/\Holds w x/\∀(j:Nat) (u:D),x.cells[j]?=some u->w.cell? ((a.add (k*ez (A7 P e))).add j)=some u.cv:=λk x hk=>by
       have au:k<len:=by rw[<-O];exact(oC.1 hk).1
       obtain⟨x',Z,h2⟩:=ak k k (by simp[au]);rw[hk]at Z;cases Z;exact h2
      have U:∀ x∈es,Shp P n e x.cells/\eOk (A7 P e) x/\Holds w x:=λx V=>by obtain⟨k,hk⟩:=oQ.1 V;obtain⟨Z,h2,h3,_⟩:=aa k x hk;exact⟨Z,h2,h3⟩
      obtain⟨ae,ac⟩:=My (a:=a) (λx V=>(U x V).2.1) λk x hk=>(aa k x hk).2.2.2;refine⟨[.sl (some a) (A7 P e) es cap],.one (by simp[D.cv,O]) trivial (.sl ac (by omega) (λx V=>(U x V).2.1) (λx V=>(U x V).2.2) ae),_,_,_,rfl,by omega,λx V=>(U x V).1⟩
   ·rename_i cs _ cs' fs I;rw[I]at J ⊢;simp only[oL,oW,List.contains_iff_mem]at J;obtain⟨hc,aw⟩:=J;split at h
    rotate_left
    ·cases h
    rename_i hl;cases hm:fs.toList.mapM λf=>DataW.trod enc P w base spare held n f.type ((cs.drop f.offset).take (P.cellsOf f.type))with
    | none=>rw[hm]at h;simp at h
    | some r=>rw[hm]at h;simp only[oR,oZ]at h;subst h;simp only[DataW.weights,I]at hw;obtain⟨xs,Z,h2⟩:=Af (R:=Shp P n) hc (by omega) hm hw λf hf vs y Y ax=>ih f.type vs y (aw f hf) Y ax;refine⟨xs,?_,h2⟩;simpa [<-hl]using Z
   all_goals(rename_i I;first | (rw[I]at J;simp at J;done) | (exfalso;simp_all;done))
open Go Go.ChangeShapes Go.WideShapes Go.ChangeAt Go.RowKit
structure Ret1 (W W':World) (e:Ending):Prop where
 e:e=.returned (.bool true)
 old:∀ b,b<W.heap.size->W'.heap[b]?=W.heap[b]?
 size:W.heap.size<=W'.heap.size
 ku:KU W W'
theorem Ls {av:Nat->Prop}{W W':World}{e:Ending}(h:Fin [.bool] (λr _=>r=true) av W e W'):Ret1 W W' e:=by
 cases e with
 | returned v=>
   obtain⟨ps,rows,e',hd⟩:=h;have I:=hd.q;have J:=hd.v;refine⟨?_,hd.old,hd.size,hd.ku⟩;cases ps with
   | nil=>simp[QT.app]at I
   | cons p ps=>
     cases p<;>simp[QT.app]at I
     cases ps<;>cases rows<;>simp[QT.app]at I
     subst I;rw[J];rfl
 | _=>exact h.elim
theorem IH {H:Type} {enc:TypeId × Value->H} {P:Program} {fn:Func} {s:ChangeSpec} {apart fresh I:Bool} {W W':World} {args:Array Value} {ds gs:List (DataW H)} {J:List MemPlace} {tb:TypeId} {e:Ending}
  (K:Kids P (·<P.types.size)) (full:∀ t e,t<P.types.size->P.underlying t=some (.slice e)->0<P.cellsOf e)
  (V:∀ t∈fn.params.toList,t<P.types.size) (hv:s.vars=[]) (ab:fn.resultTypes=#[tb]) (ac:P.underlying tb=some .bool)
  (hs:s.fn H (ds++gs)={ results:=[.lit (.bool true)],args:=ds })
  (hW:DataW.Whole enc P fn.params.toList s.vars apart W args.toList ds gs J) (Y:Ret1 W W' e) :
  ∃ v,e=.returned v/\s.post enc P fn apart fresh I false W args v W':=by
 refine⟨_,Y.e,?_⟩;have Z:=hW;obtain⟨p,q,hA,hV,rfl,ah,_⟩:=hW;rw[hv]at hV;obtain⟨rfl,rfl⟩:=trodVars_none hV;have aa:∀ x∈p++[],x.block<W.heap.size:=Z.lt;have O:∀ {ts:List TypeId} {vs:List Value} {ds:List (DataW H)} {ps:List MemPlace},DataW.TrodAll enc P W 0 (λ_=>true) true ts vs ds ps->(∀ x∈ps,x.block<W.heap.size)->DataW.TrodAll enc P W' 0 (λ_=>true) true ts vs ds ps:=by
  intro ts
  induction ts with
  | nil=>intro vs ds ps h _;obtain⟨rfl,rfl,rfl⟩:=trodAll_nil h;exact trodAll_mk0
  | cons t ts ih=>
    intro vs ds ps h hl;obtain⟨v,ai,d,ds1,a,b,rfl,rfl,rfl,⟨n,h1⟩,h2⟩:=trodAll_cons h;refine⟨a,b,⟨n,DataW.trod_carry n _ _ _ h1 λx U=>?_⟩,ih h2 λx U=>hl x (by simp[U]),rfl⟩;have hb:=Y.old _ (hl x (by simp[U]));cases x with
    | cell b off=>simp only[World.sameAt,World.cell?,MemPlace.block]at hb ⊢;rw[hb]
    | map b=>exact hb
 have ae:=O hA λx U=>aa x (by simp[U]);refine⟨ds,[],p++[],[],p,[],Z,?_,?_,?_,⟨Y.ku.os,Y.ku.out,λi hi=>?_⟩,λh=>by cases h⟩
 ·rw[hs,ab];exact trodAll_mk1 ⟨1,by simp[DataW.trod,Value.cells,ac]⟩
 ·rw[hs];exact DataW.TrodAll.respare K full V ae λx U=>by simpa using aa x (by simp[U])
 ·rw[hs,hv];rfl
 ·rw[Y.old i hi];cases hb:W.heap[i]? with
  | none=>rfl
  | some o=>
    cases o with
    | cells c t fr=>exact⟨rfl,rfl,rfl,λ_ _=>rfl⟩
    | map es clock=>exact .inr ⟨rfl,rfl⟩
    | _=>rfl
open Go Go.Proofs Go.Proofs.Tryz Go.ChangeShapes Go.WideShapes Go.ChangeAt Go.RowKit
theorem OZ:Kids prog (·<prog.types.size):=kids_rows (by kernel_rfl) (by kernel_rfl)
theorem full:∀ t e,t<prog.types.size->prog.underlying t=some (.slice e)->0<prog.cellsOf e:=slices_full_of prog (by kernel_rfl)
def TT:List TypeId:=[9,3,4,59,22,5]
theorem J2:TT.all (Fw prog TT)=true:=by kernel_rfl
theorem Du:ownKnob prog.godebug=none:=by kernel_rfl
theorem G5 {H:Type}{P:Program}{ts:List TypeId}{ds:List (DataW H)}(h:(DataW.weightsEach P ts ds).all (·<=reachBytes)=true){j:Nat}{t:TypeId}{d:DataW H}(I:ts[j]?=some t)(hd:ds[j]?=some d):∀ n∈d.weights P t,n<=reachBytes:=λn J=>by
 have:=oW.1 h _ (DataW.weights_mem_each I hd n J)
 simpa using this
theorem KH {H:Type} {enc:TypeId × Value->H} {P:Program} {T:List TypeId} (O:T.all (Fw P T)=true) {W:World} {r:Reach} {b:Nat} {t e:TypeId} {v:Value} {d:DataW H} {ps:List MemPlace} (U:t∈T) (J:P.underlying t=some (.slice e))
  (I:Value.okWide P W r b t v) (h:DataW.Trod enc P W 0 (λ_=>true) true t v d ps) (V:∀ n∈d.weights P t,n<=reachBytes):∃(n:Nat) (a:Option Addr) (es:List D) (c:Nat),(PV.sv a (A7 P e) es c).val []=v/\Holds W (.sl a (A7 P e) es c)/\Shp P n t [.sl a (A7 P e) es c]:=by
 obtain⟨n,h⟩:=h;obtain⟨a0,len,cap,rfl⟩:=okWide_slice J I;obtain⟨xs,s,k⟩:=D6 O n t _ _ U h V;obtain⟨m,a,es,c,rfl,rfl,_,_⟩:=F9 J k;have e0:(D.sl a (A7 P e) es c).cv=.slice a0 len cap:=by
  have:=s.cv
  simpa [Value.cells]using this
 exact⟨_,a,es,c,e0,s.hold _ (by simp),k⟩
end Go.Proofs.YtidiofobanefmaaGreatDoor
set_option maxRecDepth 100000
namespace Go.Proofs.YtidiofobanefmaaGreatDoor
open Go Go.Proofs Go.Proofs.Tryz
end Go.Proofs.YtidiofobanefmaaGreatDoor
set_option maxRecDepth 100000
namespace Go.Proofs.YtidiofobanefmaaGreatDoor
open Go Go.Proofs Go.Proofs.Tryz
end Go.Proofs.YtidiofobanefmaaGreatDoor
set_option maxRecDepth 100000
namespace Go.Proofs.YtidiofobanefmaaGreatDoor
open Go Go.Proofs Go.Proofs.Tryz Go.ChangeShapes Go.WideShapes Go.ChangeAt Go.RowKit
/-- the list that the row bears -/
def laidAll : List (String × DataW Unit) := [("math/bits.deBruijn32tab", Rows.laid_math_bits_deBruijn32tab), ("math/bits.deBruijn64tab", Rows.laid_math_bits_deBruijn64tab), ("internal/strconv.uint64pow10", Rows.laid_internal_strconv_uint64pow10), ("unicode/utf8.acceptRanges", Rows.laid_unicode_utf8_acceptRanges), ("strconv.ErrRange", Rows.laid_strconv_ErrRange), ("strconv.ErrSyntax", Rows.laid_strconv_ErrSyntax), ("unicode.White_Space", Rows.laid_unicode_White_Space), ("strings.asciiSpace", Rows.laid_strings_asciiSpace), ("unicode/utf8.first", Rows.laid_unicode_utf8_first)]
theorem OK : prog.globalNamed "internal/strconv.uint64pow10" = some 4 := by kernel_rfl
theorem Ob:(prog.globals[4]?).map (·.type)=some 169:=by kernel_rfl
theorem OW:prog.cellsOf 169=20:=by kernel_rfl
theorem Na:prog.cellsOf 151=1:=by kernel_rfl
theorem OM : prog.globalNamed "strings.asciiSpace" = some 0 := by kernel_rfl
theorem Od:(prog.globals[0]?).map (·.type)=some 76:=by kernel_rfl
theorem OX:prog.cellsOf 76=256:=by kernel_rfl
theorem Nb:prog.cellsOf 5=1:=by kernel_rfl
theorem ON : prog.globalNamed "strconv.ErrSyntax" = some 6 := by kernel_rfl
theorem Oe:(prog.globals[6]?).map (·.type)=some 116:=by kernel_rfl
theorem OL : prog.globalNamed "strconv.ErrRange" = some 7 := by kernel_rfl
theorem Oc:(prog.globals[7]?).map (·.type)=some 116:=by kernel_rfl
theorem OH:prog.cellsOf 181=1:=by kernel_rfl
theorem OI:prog.cellsOf 9=1:=by kernel_rfl
theorem M6 : "*" ++ "errors.errorString" = "*errors.errorString" := by decide
theorem Kw (u : TypeId)(h : prog.typeName? 3 u = some "*errors.errorString") : u = 179 :=
 typeName_ptr_named (nm := "errors.errorString") (by rw [M6]; kernel_rfl) (by kernel_rfl) (by decide) u (by rw [M6]; exact h)
theorem uy {W:World}{n:String}{g:Nat}{cs:Array Value}(I:prog.globalNamed n=some g)(h:W.var? prog n=some cs):∃ t fz,W.heap[g]?=some (.cells cs t fz):=by
 unfold World.var? at h;rw[I]at h;simp only[Option.bind]at h;cases hb:W.heap[g]? with
 | none=>rw[hb]at h;cases h
 | some o=>
   rw[hb]at h;cases o with
   | cells c t z=>simp only[oZ]at h;subst h;exact⟨t,z,rfl⟩
   | _=>cases h
theorem Es {W:World}(h:laidMetH prog laidAll W):GlobIs W:=by
 rw [MakeChecks.laidMetH_plain _ _ _ (by kernel_rfl)] at h;have O : laidMet prog (("internal/strconv.uint64pow10", Lib.tabData .u64 Lib.pow10Tab) :: _) W := h.tail.tail;have U:=Lib.tabIs_of_head OK Ob underlying169 underlying151 Na OW O;have J:=O.tail.tail;have Y : laidMet prog (("strings.asciiSpace", Lib.tabData .u8 Lib.asciiSpaceTab) :: _) W := J.tail.tail.tail;have V:=Lib.tabIs_of_head OM Od underlying76 underlying5 Nb OX Y;obtain ⟨a0,Z,v0,_⟩:=laid_sentinel J OL Oc underlying116 Kw underlying179 underlying181 rfl rfl underlying9 OH OI;obtain ⟨a1,s1,v1,_⟩:=laid_sentinel J.tail ON Oe underlying116 Kw underlying179 underlying181 rfl rfl underlying9 OH OI;unfold Lib.TabIs at U V;refine ⟨λx I=>?_,λx I=>?_⟩
 ·simp only[glob,oG,nX,mZ]at I;subst I;exact uy OK U
 ·simp only[Dj,oG,nX,mZ]at I;rcases I with rfl | rfl | rfl
  ·obtain⟨t,fz,e⟩:=uy OM V;exact⟨_,t,fz,e,rfl⟩
  ·obtain⟨t,fz,e⟩:=uy ON v1;exact⟨_,t,fz,e,_,rfl,.inr ⟨_,_,rfl⟩⟩
  ·obtain⟨t,fz,e⟩:=uy OL v0;exact⟨_,t,fz,e,_,rfl,.inr ⟨_,_,rfl⟩⟩
theorem MO {W:World}(h:laidMetH prog laidAll W):Avl avG W []:=⟨λb hb=>(Es h).lt hb,Es h,λb hb=>hb,λb hb=>by simp,λx I=>by simp⟩
noncomputable def MY (os:Os):World:=World.laidAll prog os laidAll
theorem JZ (os:Os)(args:Array Value):laidMetH prog laidAll ((MY os).forCall (λ_ _=>0) ⟨#[],args,[]⟩).memory:=by rw[MakeChecks.laidMetH_plain _ _ _ (by kernel_rfl)];exact laidMet_laidAll args (by kernel_rfl) (by kernel_rfl)
end Go.Proofs.YtidiofobanefmaaGreatDoor
set_option maxRecDepth 100000
namespace Go.Proofs.YtidiofobanefmaaGreatDoor
open Go Go.Proofs Go.Proofs.Tryz
theorem ez5:A7 prog 5=0:=by kernel_rfl
theorem FZ {W:World}{n:Nat}{a:Option Addr}{es:List D}{c:Nat}(Y:Holds W (.sl a 0 es c))(h:Shp prog n 22 [.sl a 0 es c]):∀ d∈es,∃ k:Int,d=.lit (.int .u8 k):=by
 obtain⟨m,a',J,c',e,hs,hl,O⟩:=F9 underlying22 h;have Z:J=es:=by cases hs;rfl
 subst Z;have I:∀ x∈J,x.isCell:=by
  cases Y with
  | nil=>intro x O;simp at O
  | sl h1 h2 h3 h4 h5=>intro x O;exact h3 x O
 intro x U;obtain⟨k,V⟩:=M5 underlying5 (O x U);have hc:=I x U;refine⟨k,?_⟩;cases x<;>simp[D.isCell,D.cells]at hc V ⊢<;>exact V
end Go.Proofs.YtidiofobanefmaaGreatDoor
set_option maxRecDepth 100000
namespace Go.Proofs.YtidiofobanefmaaGreatDoor
open Go Go.Proofs Go.Proofs.Tryz
theorem E0 {W:World}(g:GlobIs W){ad:Addr}{cs:List D}{k:Int}(h:Row W ad cs)(U:cs[0]?=some (.lit (.int .u8 k))):¬avG ad.block:=by
 rintro⟨x,J,hb⟩
 obtain⟨t,fz,V⟩:=g.h x J;rw[hb]at V;rcases h with rfl | ⟨c,t',Y,I,Z⟩
 ·simp at U
 ·rw[V]at I;injection I with I
  injection I with e1 e2 e3
  have O:=Z 0 _ U;rw[<-e1]at O;simp only[glob,oG,nX,mZ]at J;subst J;simp only[mm,oE,nG,D.cv]at O;obtain⟨n,_,hn⟩:=O;cases hn
theorem Ds {W:World}(g:GlobIs W){a:Option Addr}{es:List D}{c:Nat}(h:Holds W (.sl a 0 es c))(hb:∀ d∈es,∃ n:Int,d=.lit (.int .u8 n)):∀ b∈(D.sl a 0 es c).foot,¬avG b:=by
 intro b I;have O:yF es=[]:=by
  have key:∀ l:List D,(∀ d∈l,∃ n:Int,d=.lit (.int .u8 n))->yF l=[]:=by
   intro l
   induction l with
   | nil=>intro _;rfl
   | cons d l U=>intro hl;obtain⟨n,rfl⟩:=hl d (by simp);simp only[yF,D.foot,nB];exact U λd hd=>hl d (by simp[hd])
  exact key es hb
 cases a with
 | none=>simp only[D.foot,O]at I;simp at I
 | some ad=>
   cases es with
   | nil=>simp[D.foot]at I
   | cons e es=>
     simp only[D.foot,List.isEmpty_cons,O]at I;obtain rfl:b=ad.block:=by simpa using I
     cases h with
     | sl _ _ _ _ J=>obtain⟨n,rfl⟩:=hb e (by simp);exact E0 g J (k:=n) (by simp[zg,D.cells])
open Go Go.Proofs Go.Proofs.Tryz Go.ChangeShapes Go.WideShapes Go.ChangeAt Go.RowKit
set_option maxHeartbeats 1600000 in
set_option maxRecDepth 100000 in
theorem r9 (os:Os) (I:os.Started) (H:Type) (enc:TypeId × Value->H) :
  ReturnsInHanded {} checked os 3 .any (λw args=>(Rows.fnTermTextSpec.pre enc prog Tryz.f3 [] false w args/\laidMetH prog laidAll w)/\sizedMet enc prog Tryz.f3 (OpenSpec.ofChange Rows.fnTermTextSpec) false w args)
   (Rows.fnTermTextSpec.post enc prog Tryz.f3 false true false false):=by
 refine returnsInHanded_of_change_and (C:=checked) (X:=λw _=>laidMetH prog laidAll w) (λ_ _ _ hh h=>h.of_heap hh) Du I (by kernel_rfl) func3
  (ChangeSpec.witness_shaped (enc:=enc) (C:=checked) (os:=os) (X:=λw _=>laidMetH prog laidAll w) false (MY os) #[.slice none 0 0] 8 rfl (World.shaped_of_ZipB (by kernel_rfl) (by kernel_rfl)) (by kernel_rfl) (by kernel_rfl) (by kernel_rfl) (JZ os _)) ?_
 intro W base args ds gs Z V hW _ O hL _;have U:∀(j:Nat) t v,Tryz.f3.params[j]?=some t->args[j]?=some v->Value.okWide prog W .any base t v:=V;have aa:=hW;obtain⟨p,q,ab,hV,rfl,ae,_⟩:=hW;have hA:DataW.TrodAll enc prog W 0 (λ_=>true) true Tryz.f3.params.toList args.toList ds p:=ab;have O:(DataW.weightsEach prog (Tryz.f3.params.toList++[]) (ds++gs)).all (·<=reachBytes)=true:=O;rw[params3]at hA U O;obtain⟨v0,ah,d0,ds1,p0,p1,ha,rfl,rfl,h0,hr⟩:=trodAll_cons hA;obtain⟨rfl,rfl,rfl⟩:=trodAll_nil hr;obtain rfl:args=#[v0]:=by rw[<-nJ,ha]
 obtain⟨rfl,rfl⟩:=trodVars_none hV;obtain⟨n0,aC,ac,cC,e0,J,k0⟩:=KH J2 (by decide) underlying22 (U 0 22 v0 rfl rfl) h0 (G5 O (j:=0) rfl rfl);rw[ez5]at e0 J k0;have hc:=(Dp (FZ J k0) aC cC W.heap.size).h avG W rfl (MO hL) (λp hp=>by simp only[oG,nX,mZ]at hp;subst hp;exact⟨⟨J,Ds (Es hL) J (FZ J k0)⟩,rfl⟩);have Y:([PV.sv aC 0 ac cC].map (PV.val [])).toArray=#[v0]:=by simp only[o7,mg,e0]
 rw[Y]at hc;refine hc.mono λe W' hf=>?_;exact IH OZ full (by rw[params3];decide) rfl (by kernel_rfl) underlying4 rfl aa (Ls hf)
theorem BI:Rows.FnTermTextSaid:=
 OpenClaim.holds_of_wide 3 Tryz.f3 rfl rfl rfl rfl rfl rfl rfl ⟨rfl,rfl,rfl,rfl,rfl⟩ rfl rfl rfl rfl rfl (by kernel_rfl) func3 (by kernel_rfl)
  (mj (by kernel_rfl)) (by unfold Func.isWrapper;first | (rw[if_pos (by decide +kernel)];kernel_rfl) | (rw[if_neg (by decide +kernel)];exact⟨rfl,rfl⟩))
  (λos I H enc _=>r9 os I H enc)
theorem fnTermText_holds:Rows.FnTermTextCardSaid:=
 Claim7.holds_tied_plain_at .later [] [.data,.data,.data,.data,.sentinel,.sentinel,.listed,.data,.pinned] true Rows.fnTermTextCard.stood.harness true
  BI (fun _ h=>by cases h) (by kernel_rfl) (fun _ h=>by cases h) fnTermText_row_tie rfl ⟨rfl,rfl⟩ (by kernel_rfl) rfl
  (fun f fn hf hfn=>by
   obtain rfl : f = 3 := o9 ((show prog.funcNamed "loop.example/g00589/laws.FnTermText" = some 3 by kernel_rfl).symm.trans hf) |>.symm
   obtain rfl:fn=Tryz.f3:=(o9 (func3.symm.trans hfn)).symm;exact⟨by kernel_rfl,fun j t ht=>by
    rw[params3]at ht;have hm:t∈[22]:=by simpa using Array.mem_of_getElem? ht
    have hall:([22].all fun u=>!prog.wantsStandIn u)=true:=by kernel_rfl
    exact(show prog.wantsStandIn t=false by simpa using oW.1 hall t hm)⟩)
  (by kernel_rfl)
#print axioms fnTermText_holds
end Go.Proofs.YtidiofobanefmaaGreatDoor
