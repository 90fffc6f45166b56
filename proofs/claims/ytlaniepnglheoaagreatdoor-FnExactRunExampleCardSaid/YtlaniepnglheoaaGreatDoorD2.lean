/- The names of states. -/
import Derived.Test.YtlaniepnglheoaaGreatDoorA9
import Derived.Test.YtlaniepnglheoaaGreatDoorKd
import Derived.Test.YtlaniepnglheoaaGreatDoorA5
import Derived.Test.YtlaniepnglheoaaGreatDoorB2
import Derived.Test.YtlaniepnglheoaaGreatDoorB6
import Derived.Test.YtlaniepnglheoaaGreatDoorC1
import Derived.Test.YtlaniepnglheoaaGreatDoorA1
import Derived.Test.YtlaniepnglheoaaGreatDoorJh
import Derived.ProofKit
import Derived.ReadAgain
import Derived.ChangeSame
import Derived.Test.YtlaniepnglheoaaGreatDoorRows
import Derived.SizedLaws
import Derived.Lib.LaidTab
import Derived.Lib.ItoaNum
import Derived.Stop.LaidErr
import Derived.LaidMore
import Derived.OpenShut
import Derived.MakeChecks
import Derived.Lib.Space
import Derived.Look8
import Derived.Lay
import Derived.Test.YtlaniepnglheoaaGreatDoorCards
import Derived.Test.YtlaniepnglheoaaGreatDoorTie
import Derived.SevenTiedAt
import Derived.ChangeMaps5
set_option linter.unusedVariables false
set_option linter.unusedSimpArgs false
set_option maxRecDepth 100000
namespace Go.Proofs.YtlaniepnglheoaaGreatDoor
open Go Go.Proofs Go.Proofs.Tryz Go.IntWalk
def stats:List ByteArray:=[bytes [98,97,100],bytes [100,111,110,101],bytes [102,117,101,108],bytes [108,97,114,103,101],bytes [115,116,117,99,107]]
def JO (k:Int):ByteArray:=if inB k 0 4=true then stats.getD k.toNat (bytes [])else bytes [63]
theorem RZ {k:Int}(J:0<=k)(O:k<=4):(zA stats).getD (0+k.toNat) default=D.t (stats.getD k.toNat (bytes [])):=by
 have I:k.toNat<stats.length:=by show _<5;omega
 rw[nG];unfold zA;rw[oA,oA,oF,oI I];rfl
theorem Ce (k:Int):xR 28 [.j k] (JO k):=λN Q I=>DH N k Q λN1 Y=>zn k 0 4 N1 _ λN2 aa _=>Br.not (λJ N3 O=>by rw[JO,if_neg (by rw[J];simp)]at I;exact I _ (by omega)) λJ=>by rw[JO,if_pos J]at I;have U:=yI.1 J;exact⟨⟨by omega,by omega,by omega⟩,by omega,_,RZ U.1 U.2,λN3 O=>I _ (by omega)⟩
theorem Ci (k:Int):xR 20 [.j k] (JO k):=λN Q I=>DO N k Q λN1 Y=>xU k 0 4 N1 _ λN2 aa _=>Br.not (λJ N3 O=>by rw[JO,if_neg (by rw[J];simp)]at I;exact I _ (by omega)) λJ=>by rw[JO,if_pos J]at I;have U:=yI.1 J;exact⟨⟨by omega,by omega,by omega⟩,by omega,_,RZ U.1 U.2,λN3 O=>I _ (by omega)⟩
end Go.Proofs.YtlaniepnglheoaaGreatDoor
set_option maxRecDepth 100000
namespace Go.Proofs.YtlaniepnglheoaaGreatDoor
open Go Go.Proofs Go.Proofs.Tryz Go.IntWalk
def Tm.isP (t:Tm):Bool:=(tB [] t 0).isSome&&t.vd
theorem Dt (t:Tm)(d:D)(hd:t.Is d)(hc:t.cnt<=524288000):vU 25 [.dg 9 d] t.isP:=λN Q J=>by
 refine D8 N d Q λ_ N1 O=>BH (g:=[]) ⟨by simp,rfl⟩ (by simp) hd (by omega) none 0 0 N1 _ λx N2 U _ _ _ _=>Br.of (λh N3 I=>tR t d hd (by omega) N3 _ λN4 Y _ N5 aa=>?_) λh N3 I=>?_
 ·have:=J N5 (by omega);rw[Tm.isP,h,Bool.true_and]at this;exact this
 ·have:=J N3 (by omega);rw[Tm.isP,h,Bool.false_and]at this;exact this
theorem Dx (t:Tm)(d:D)(hd:t.Is d)(hc:t.cnt<=524288000):vU 16 [.dg 9 d] t.isP:=λN Q J=>by
 refine EK N d Q λ_=>⟨⟨rfl,rfl⟩,λa N0 O _ N1 U=>BL (g:=[]) ⟨by simp,rfl⟩ (by simp) hd (by omega) a 0 0 N1 _ λx N2 Y _ _ _=>Br.of (λh N3 I=>tU t d hd (by omega) N3 _ λN4 aa _ N5 ab=>?_) λh N3 I=>?_⟩
 ·have:=J N5 (by omega);rw[Tm.isP,h,Bool.true_and]at this;exact this
 ·have:=J N3 (by omega);rw[Tm.isP,h,Bool.false_and]at this;exact this
end Go.Proofs.YtlaniepnglheoaaGreatDoor
set_option maxRecDepth 100000
namespace Go.Proofs.YtlaniepnglheoaaGreatDoor
open Go Go.Proofs Go.Proofs.Tryz Go.IntWalk
def rtx (t:Tm):ByteArray:=
 if(xA t 200).1=1 then DA ((tB [] t 0).getD tZero)++bytes [32,61,32]++TT (xA t 200).2.1++bytes [32]++PH (xA t 200).2.2
 else DA ((tB [] t 0).getD tZero)++bytes [32]++JO (xA t 200).1
/-- .. or "bad" -/
def rtv (b:Bool) (o:Tm):ByteArray:=if(b&&o.isP)=true then rtx o else bytes [98,97,100]
theorem F7 {t:Tm}(h:t.isP=true):((tB [] t 0).getD tZero).valid=true:=by
 unfold Tm.isP at h;rw[oK]at h;obtain⟨u,I⟩:=mg.1 h.1;rw[I,nB];unfold tB at I;split at I
 ·exact Tm.type_valid I
 ·cases I
end Go.Proofs.YtlaniepnglheoaaGreatDoor
set_option maxRecDepth 100000
namespace Go.Proofs.YtlaniepnglheoaaGreatDoor
open Go Go.Proofs Go.Proofs.Tryz Go.IntWalk
theorem PR.ex (s:ByteArray):∃ b o,PR s b o:=by
 by_cases h:∃ t:Tm,t.vd=true/\t.tx=s
 ·obtain⟨t,I,e⟩:=h;exact⟨true,t,⟨λ_=>⟨I,e⟩,λh=>by cases h⟩⟩
 ·exact⟨false,_,⟨λh=>(by cases h),λ_=>⟨rfl,λt I e=>h ⟨t,I,e⟩⟩⟩⟩
theorem sE {t:Ty}(I:t.valid=true){d:D}(hd:t.Is d):xR 19 [.dg 2 d] (DA t):=λN Q O=>by have h:=yM I;have J:=yJ t d hd (by omega);rw[I]at J;exact DM N d Q λ_ N1 U=>J N1 _ λN2 Y _=>Br.not (λh=>by cases h) λ_ N3 aa=>EW h.1 (by omega) hd N3 _ λN4 ab _ N5 ac=>O _ (by omega)
theorem LA (k:Int):(JO k).size<=5:=by
 unfold JO;split
 ·rename_i h;have I:=yI.1 h;have:k=0\/k=1\/k=2\/k=3\/k=4:=by omega
  rcases this with rfl | rfl | rfl | rfl | rfl<;>decide
 ·decide
theorem W9 {t:Tm}(I:t.isP=true):(DA ((tB [] t 0).getD tZero)).size<=90:=by
 have h:=yM (F7 I)
 have:=yg h.1
 omega
theorem O7 {t:Tm}(hc:t.cnt<=4000000)(h:(xA t 200).1=1):(TT (xA t 200).2.1).size<=200000:=by
 have I:=TJ hc h;rw[TT,if_pos I.1]
 have:=Rk _ I.1
 omega
theorem W5 (t:Tm):(PH (xA t 200).2.2).size<=20:=by
 have:=Me t 200 (by decide)
 rw[BT];exact Cy _ (by omega)
theorem rs3:(bytes [32,61,32]).size=3:=rfl
theorem rs1:(bytes [32]).size=1:=rfl
theorem Gs {s:ByteArray}{b:Bool}{o:Tm}(hp:PR s b o)(hs:s.size<=1048576):xR 6 [.str s] (rtv b o):=λN Q I=>by
 have hc:=hp.cnt;refine HL N s Q λN1 ax=>D3 s (by omega) N1 _ λb' o' d N2 ay ah hd _ _ _=>?_;obtain⟨rfl,rfl⟩:=hp.uniq ah;refine Br.not (λhb N3 ai=>by rw[rtv,if_neg (by simp[hb])]at I;exact I _ (by omega)) λhb N3 ai=>Dx _ d hd (by omega) N3 _ λN4 az _=>Br.not (λhi N5 aj=>by rw[rtv,if_neg (by simp[hi])]at I;exact I _ (by omega)) λhi=>?_;rw[rtv,if_pos (by rw[hb,hi];rfl)]at I;have hv:=F7 hi;have s1:=W9 hi;refine⟨⟨rfl,rfl⟩,λa N5 aj _ N6 a6=>BL (g:=[]) ⟨by simp,rfl⟩ (by simp) hd (by omega) a 0 0 N6 _ λx N7 a7 hx _ _ N8 a8=>Gr hd (by omega) 200 N8 _ λy N9 ba hy _ _=>?_⟩;obtain⟨y0,y1,y2,y3,y4,y5,y6,y7,y8,rfl,ak⟩:=Rs.cells hy;refine⟨_,rfl,Br.bne (λal=>⟨_,rfl,λJ U=>sE hv hx J _ λao Y _=>⟨by omega,λO aa=>Ci _ O _ λaq ab _=>⟨?_,λac ae=>?_⟩⟩⟩) λhe=>⟨_,rfl,λJ U=>sE hv hx J _ λao Y _=>⟨by omega,λO aa=>FC ak ?_ O _ λaq ab _=>⟨?_,?_,λac ae=>xX _ ?_ ac _ λbb au _=>⟨?_,λbc aw=>?_⟩⟩⟩⟩⟩
 ·have:=LA (xA o' 200).1
  rw[oE,rs1];omega
 ·rw[rtx,if_neg al]at I;exact I _ (by omega)
 ·have:=K4 (e:=o') (by omega) 200;omega
 ·have:=O7 (by omega) he
  rw[oE,rs3];omega
 ·have:=O7 (by omega) he
  rw[oE,oE,rs3];omega
 ·have:=Me o' 200 (by decide);omega
 ·have:=O7 (by omega) he
  have:=W5 o'
  rw[oE,oE,oE,rs3,rs1];omega
 ·rw[rtx,if_pos he]at I;exact I _ (by omega)
theorem Gl {s:ByteArray}{b:Bool}{o:Tm}(hp:PR s b o)(hs:s.size<=1048576):xR 7 [.str s] (rtv b o):=λN Q I=>by
 have hc:=hp.cnt;refine HB N s Q λN1 ax=>D2 s (by omega) N1 _ λb' o' d N2 ay ai hd _ _ _ N3 az=>?_;obtain⟨rfl,rfl⟩:=hp.uniq ai;refine BH (g:=[]) ⟨by simp,rfl⟩ (by simp) hd (by omega) none 0 0 N3 _ λx N4 a6 hx _ _ _=>Br.not (λhb N5 U=>by rw[rtv,if_neg (by simp[hb])]at I;exact I _ (by omega)) λhb=>Br.not (λhi N5 U=>by rw[rtv,if_neg (by simp[Tm.isP,hi])]at I;exact I _ (by omega)) λa7 N5 U=>Dt _ d hd (by omega) N5 _ λN6 a8 _=>Br.not (λhi N7 aj=>by rw[rtv,if_neg (by simp[hi])]at I;exact I _ (by omega)) λhi N7 aj=>?_;rw[rtv,if_pos (by rw[hb,hi];rfl)]at I;have hv:=F7 hi;have s1:=W9 hi;refine Gk hd (by omega) 200 N7 _ λy N9 ba hy _ _ _=>?_;obtain⟨y0,y1,y2,y3,y4,y5,y6,y7,y8,rfl,ak⟩:=Rs.cells hy;refine⟨_,rfl,Br.bne (λal=>⟨_,rfl,λJ Y=>vo hv hx J _ λao aa _=>⟨by omega,λO ab=>Ce _ O _ λaq ac _=>⟨?_,λae ah=>?_⟩⟩⟩) λhe=>⟨_,rfl,λJ Y=>vo hv hx J _ λao aa _=>⟨by omega,λO ab=>E7 ak ?_ O _ λaq ac _=>⟨?_,?_,λae ah=>uB _ ?_ ae _ λbb au _=>⟨?_,λbc aw=>?_⟩⟩⟩⟩⟩
 ·have:=LA (xA o' 200).1
  rw[oE,rs1];omega
 ·rw[rtx,if_neg al]at I;exact I _ (by omega)
 ·have:=K4 (e:=o') (by omega) 200;omega
 ·have:=O7 (by omega) he
  rw[oE,rs3];omega
 ·have:=O7 (by omega) he
  rw[oE,oE,rs3];omega
 ·have:=Me o' 200 (by decide);omega
 ·have:=O7 (by omega) he
  have:=W5 o'
  rw[oE,oE,oE,rs3,rs1];omega
 ·rw[rtx,if_pos he]at I;exact I _ (by omega)
end Go.Proofs.YtlaniepnglheoaaGreatDoor
set_option maxRecDepth 100000
namespace Go.Proofs.YtlaniepnglheoaaGreatDoor
open Go Go.Proofs Go.Proofs.Tryz Go.IntWalk
def exs:List ByteArray:=[bytes [60,40,92,120,58,73,46,126,40,40,114,101,99,32,112,32,110,58,73,62,60,73,62,46,40,105,102,32,40,110,61,48,41,32,60,49,62,32,60,40,120,42,126,40,112,32,40,110,45,49,41,41,41,62,41,41,32,51,41,41,62],
 bytes [40,108,101,116,32,99,61,60,40,49,43,50,41,62,32,60,40,126,99,42,126,99,41,62,41],
 bytes [60,40,92,121,58,73,46,126,40,40,92,122,58,60,73,62,46,60,40,92,121,58,73,46,40,126,122,43,121,41,41,62,41,32,60,121,62,41,41,62],
 bytes [40,40,114,117,110,32,60,40,92,120,58,73,46,40,120,43,126,40,108,105,102,116,32,40,50,42,51,41,41,41,41,62,41,32,49,41],
 bytes [40,114,117,110,32,60,40,114,117,110,32,60,53,62,41,62,41],
 bytes [40,108,101,116,32,110,61,55,32,60,126,40,105,102,32,40,110,60,53,41,32,60,48,62,32,60,40,49,43,126,40,108,105,102,116,32,110,41,41,62,41,62,41]]
end Go.Proofs.YtlaniepnglheoaaGreatDoor
set_option maxRecDepth 100000
namespace Go.Proofs.YtlaniepnglheoaaGreatDoor
open Go Go.Proofs Go.Proofs.Tryz Go.IntWalk
def exT (k:Int):ByteArray:=if inB k 1 6=true then exs.getD (k - 1).toNat (bytes [])else bytes []
theorem Xf {k:Int}(J:1<=k)(O:k<=6):(zA exs).getD (0+(k - 1).toNat) default=D.t (exs.getD (k - 1).toNat (bytes [])):=by
 have I:(k - 1).toNat<exs.length:=by show _<6;omega
 rw[nG];unfold zA;rw[oA,oA,oF,oI I];rfl
theorem NC (k:Int):(exT k).size<=1048576:=by
 unfold exT;split
 ·rename_i h;have I:=yI.1 h;have:k=1\/k=2\/k=3\/k=4\/k=5\/k=6:=by omega
  rcases this with rfl | rfl | rfl | rfl | rfl | rfl<;>decide
 ·decide
theorem tQ (k:Int):xR 14 [.j k] (exT k):=λN Q I=>B3 N k Q λN1 Y=>zn k 1 6 N1 _ λN2 aa _=>Br.not (λJ N3 O=>by rw[exT,if_neg (by rw[J];simp)]at I;exact I _ (by omega)) λJ=>by rw[exT,if_pos J]at I;have U:=yI.1 J;rw[i64_in _ (by omega)];exact⟨⟨by omega,by omega,by omega⟩,by omega,_,Xf U.1 U.2,λN3 O=>I _ (by omega)⟩
theorem tT (k:Int):xR 15 [.j k] (exT k):=λN Q J=>CD N k Q (Br.beq (λh N1 I=>by subst h;exact J _ I) λO=>Br.beq (λh N1 I=>by subst h;exact J _ I) λU=>Br.beq (λh N1 I=>by subst h;exact J _ I) λY=>Br.beq (λh N1 I=>by subst h;exact J _ I) λh4=>Br.beq (λh N1 I=>by subst h;exact J _ I) λh5=>Br.beq (λh N1 I=>by subst h;exact J _ I) λh6 N1 I=>by rw[exT,if_neg (λh=>by have:=yI.1 h;omega)]at J;exact J _ I)
def rex (k:Int)(b:Bool)(o:Tm):ByteArray:=if exT k=bytes []then bytes []else rtv b o
theorem Ch {k:Int}{b:Bool}{o:Tm}(J:PR (exT k) b o):xR 8 [.j k] (rex k b o):=λN Q I=>DN N k Q λN1 O=>tT k N1 _ λN2 U _=>Br.str (λh N3 Y=>by rw[rex,if_pos h]at I;exact I _ (by omega)) λh N4 aa=>tT k N4 _ λN5 ab _ N6 ac=>Gs J (NC k) N6 _ λN7 ae _ N8 ah=>by rw[rex,if_neg h]at I;exact I _ (by omega)
theorem Cc {k:Int}{b:Bool}{o:Tm}(J:PR (exT k) b o):xR 9 [.j k] (rex k b o):=λN Q I=>DF N k Q λN1 O=>tQ k N1 _ λN2 U _=>Br.str (λh N3 Y=>by rw[rex,if_pos h]at I;exact I _ (by omega)) λh N4 aa=>tQ k N4 _ λN5 ab _ N6 ac=>Gl J (NC k) N6 _ λN7 ae _ N8 ah=>by rw[rex,if_neg h]at I;exact I _ (by omega)
theorem Gz (k:Int)(N:Nat):ACalls prog 4 [.bool] [.j k] N (λr _=>r=true):=by obtain⟨b,o,I⟩:=PR.ex (exT k);exact sa N k _ λN2 J=>Ch I N2 _ λN3 O _ U Y=>Cc I U _ λN5 aa _=>Br.nstr (λh=>absurd rfl h) λ_ N7 ab=>rfl
open Go
structure Snap (w:World) (cs:List Value) (xs:List D):Prop where
 cv:xs.map D.cv=cs
 cell:∀ x∈xs,x.isCell
 hold:∀ x∈xs,Holds w x
theorem Snap.one {w:World}{v:Value}{x:D}(I:x.cv=v)(J:x.isCell)(O:Holds w x):Snap w [v] [x]:=⟨by simp[I],by simpa using J,by simpa using O⟩
variable {H:Type} {enc:TypeId × Value->H} {P:Program} {w:World} {base:Nat} {spare:Nat->Bool} {held:Bool} {T:List TypeId}
open Go Go.ChangeShapes Go.WideShapes Go.ChangeAt Go.RowKit
structure Ret1 (W W':World) (e:Ending):Prop where
 e:e=.returned (.bool true)
 old:∀ b,b<W.heap.size->W'.heap[b]?=W.heap[b]?
 size:W.heap.size<=W'.heap.size
 ku:KU W W'
theorem VR {av:Nat->Prop}{W W':World}{e:Ending}(h:Fin [.bool] (λr _=>r=true) av W e W'):Ret1 W W' e:=by
 cases e with
 | returned v=>
   obtain⟨ps,rows,e',hd⟩:=h;have I:=hd.q;have J:=hd.v;refine⟨?_,hd.old,hd.size,hd.ku⟩;cases ps with
   | nil=>simp[QT.app]at I
   | cons p ps=>
     cases p<;>simp[QT.app]at I
     cases ps<;>cases rows<;>simp[QT.app]at I
     subst I;rw[J];rfl
 | _=>exact h.elim
theorem Qv {H:Type} {enc:TypeId × Value->H} {P:Program} {fn:Func} {s:ChangeSpec} {apart fresh I:Bool} {W W':World} {args:Array Value} {ds gs:List (DataW H)} {J:List MemPlace} {tb:TypeId} {e:Ending}
  (K:Kids P (·<P.types.size)) (full:∀ t e,t<P.types.size->P.underlying t=some (.slice e)->0<P.cellsOf e)
  (Y:∀ t∈fn.params.toList,t<P.types.size) (hv:s.vars=[]) (ac:fn.resultTypes=#[tb]) (ae:P.underlying tb=some .bool)
  (hs:s.fn H (ds++gs)={ results:=[.lit (.bool true)],args:=ds })
  (hW:DataW.Whole enc P fn.params.toList s.vars apart W args.toList ds gs J) (hr:Ret1 W W' e) :
  ∃ v,e=.returned v/\s.post enc P fn apart fresh I false W args v W':=by
 refine⟨_,hr.e,?_⟩;have aa:=hW;obtain⟨p,q,hA,hV,rfl,ai,_⟩:=hW;rw[hv]at hV;obtain⟨rfl,rfl⟩:=trodVars_none hV;have ab:∀ x∈p++[],x.block<W.heap.size:=aa.lt;have O:∀ {ts:List TypeId} {vs:List Value} {ds:List (DataW H)} {ps:List MemPlace},DataW.TrodAll enc P W 0 (λ_=>true) true ts vs ds ps->(∀ x∈ps,x.block<W.heap.size)->DataW.TrodAll enc P W' 0 (λ_=>true) true ts vs ds ps:=by
  intro ts
  induction ts with
  | nil=>intro vs ds ps h _;obtain⟨rfl,rfl,rfl⟩:=trodAll_nil h;exact trodAll_mk0
  | cons t ts ih=>
    intro vs ds ps h hl;obtain⟨v,aj,d,ds1,a,b,rfl,rfl,rfl,⟨n,h1⟩,h2⟩:=trodAll_cons h;refine⟨a,b,⟨n,DataW.trod_carry n _ _ _ h1 λx U=>?_⟩,ih h2 λx U=>hl x (by simp[U]),rfl⟩;have hb:=hr.old _ (hl x (by simp[U]));cases x with
    | cell b off=>simp only[World.sameAt,World.cell?,MemPlace.block]at hb ⊢;rw[hb]
    | map b=>exact hb
 have ah:=O hA λx U=>ab x (by simp[U]);refine⟨ds,[],p++[],[],p,[],aa,?_,?_,?_,⟨hr.ku.os,hr.ku.out,λi hi=>?_⟩,λh=>by cases h⟩
 ·rw[hs,ac];exact trodAll_mk1 ⟨1,by simp[DataW.trod,Value.cells,ae]⟩
 ·rw[hs];exact DataW.TrodAll.respare K full Y ah λx U=>by simpa using ab x (by simp[U])
 ·rw[hs,hv];rfl
 ·rw[hr.old i hi];cases hb:W.heap[i]? with
  | none=>rfl
  | some o=>
    cases o with
    | cells c t fr=>exact⟨rfl,rfl,rfl,λ_ _=>rfl⟩
    | map es clock=>exact .inr ⟨rfl,rfl⟩
    | _=>rfl
open Go Go.Proofs Go.Proofs.Tryz Go.ChangeShapes Go.WideShapes Go.ChangeAt Go.RowKit
theorem YY:Kids prog (·<prog.types.size):=kids_rows (by kernel_rfl) (by kernel_rfl)
theorem full:∀ t e,t<prog.types.size->prog.underlying t=some (.slice e)->0<prog.cellsOf e:=slices_full_of prog (by kernel_rfl)
theorem Kw:ownKnob prog.godebug=none:=by kernel_rfl
end Go.Proofs.YtlaniepnglheoaaGreatDoor
set_option maxRecDepth 100000
namespace Go.Proofs.YtlaniepnglheoaaGreatDoor
open Go Go.Proofs Go.Proofs.Tryz
end Go.Proofs.YtlaniepnglheoaaGreatDoor
set_option maxRecDepth 100000
namespace Go.Proofs.YtlaniepnglheoaaGreatDoor
open Go Go.Proofs Go.Proofs.Tryz
end Go.Proofs.YtlaniepnglheoaaGreatDoor
set_option maxRecDepth 100000
namespace Go.Proofs.YtlaniepnglheoaaGreatDoor
open Go Go.Proofs Go.Proofs.Tryz Go.ChangeShapes Go.WideShapes Go.ChangeAt Go.RowKit
/-- the list that the row bears -/
def laidAll : List (String × DataW Unit) := [("math/bits.deBruijn32tab", Rows.laid_math_bits_deBruijn32tab), ("math/bits.deBruijn64tab", Rows.laid_math_bits_deBruijn64tab), ("internal/strconv.uint64pow10", Rows.laid_internal_strconv_uint64pow10), ("unicode/utf8.acceptRanges", Rows.laid_unicode_utf8_acceptRanges), ("strconv.ErrRange", Rows.laid_strconv_ErrRange), ("strconv.ErrSyntax", Rows.laid_strconv_ErrSyntax), ("unicode.White_Space", Rows.laid_unicode_White_Space), ("strings.asciiSpace", Rows.laid_strings_asciiSpace), ("unicode/utf8.first", Rows.laid_unicode_utf8_first)]
theorem YE : prog.globalNamed "internal/strconv.uint64pow10" = some 4 := by kernel_rfl
theorem Ya:(prog.globals[4]?).map (·.type)=some 211:=by kernel_rfl
theorem YS:prog.cellsOf 211=20:=by kernel_rfl
theorem XZ:prog.cellsOf 192=1:=by kernel_rfl
theorem YG : prog.globalNamed "strings.asciiSpace" = some 0 := by kernel_rfl
theorem Yc:(prog.globals[0]?).map (·.type)=some 107:=by kernel_rfl
theorem YT:prog.cellsOf 107=256:=by kernel_rfl
theorem Xa:prog.cellsOf 5=1:=by kernel_rfl
theorem YH : prog.globalNamed "strconv.ErrSyntax" = some 5 := by kernel_rfl
theorem Yd:(prog.globals[5]?).map (·.type)=some 169:=by kernel_rfl
theorem YF : prog.globalNamed "strconv.ErrRange" = some 6 := by kernel_rfl
theorem Yb:(prog.globals[6]?).map (·.type)=some 169:=by kernel_rfl
theorem YA:prog.cellsOf 240=1:=by kernel_rfl
theorem YB:prog.cellsOf 9=1:=by kernel_rfl
theorem XB : "*" ++ "errors.errorString" = "*errors.errorString" := by decide
theorem UA (u : TypeId)(h : prog.typeName? 3 u = some "*errors.errorString") : u = 238 :=
 typeName_ptr_named (nm := "errors.errorString") (by rw [XB]; kernel_rfl) (by kernel_rfl) (by decide) u (by rw [XB]; exact h)
theorem pM {W:World}{n:String}{g:Nat}{cs:Array Value}(J:prog.globalNamed n=some g)(h:W.var? prog n=some cs):∃ t fz,W.heap[g]?=some (.cells cs t fz):=by
 unfold World.var? at h;rw[J]at h;simp only[Option.bind]at h;cases I:W.heap[g]? with
 | none=>rw[I]at h;cases h
 | some o=>
   rw[I]at h;cases o with
   | cells c t z=>simp only[oh]at h;subst h;exact⟨t,z,rfl⟩
   | _=>cases h
theorem QO {W:World}(h:laidMetH prog laidAll W):GlobIs W:=by
 rw [MakeChecks.laidMetH_plain _ _ _ (by kernel_rfl)] at h;have O : laidMet prog (("internal/strconv.uint64pow10", Lib.tabData .u64 Lib.pow10Tab) :: _) W := h.tail.tail;have U:=Lib.tabIs_of_head YE Ya underlying211 underlying192 XZ YS O;have J:=O.tail.tail;have hA : laidMet prog (("strings.asciiSpace", Lib.tabData .u8 Lib.asciiSpaceTab) :: _) W := J.tail.tail.tail;have Y:=Lib.tabIs_of_head YG Yc underlying107 underlying5 Xa YT hA;obtain ⟨a0,s0,v0,_⟩:=laid_sentinel J YF Yb underlying169 UA underlying238 underlying240 rfl rfl underlying9 YA YB;obtain ⟨a1,s1,v1,_⟩:=laid_sentinel J.tail YH Yd underlying169 UA underlying238 underlying240 rfl rfl underlying9 YA YB;unfold Lib.TabIs at U Y;refine ⟨λx I=>?_,λx I=>?_⟩
 ·simp only[glob,oL,mn,or_false]at I;subst I;exact pM YE U
 ·simp only[Kj,oL,mn,or_false]at I;rcases I with rfl | rfl | rfl
  ·obtain⟨t,fz,e⟩:=pM YG Y;exact⟨_,t,fz,e,rfl⟩
  ·obtain⟨t,fz,e⟩:=pM YH v1;exact⟨_,t,fz,e,_,rfl,.inr ⟨_,_,rfl⟩⟩
  ·obtain⟨t,fz,e⟩:=pM YF v0;exact⟨_,t,fz,e,_,rfl,.inr ⟨_,_,rfl⟩⟩
theorem WF {W:World}(h:laidMetH prog laidAll W):Avl avG W []:=⟨λb I=>(QO h).lt I,QO h,λb I=>I,λb I=>by simp,λx J=>by simp⟩
noncomputable def WU (os:Os):World:=World.laidAll prog os laidAll
theorem SQ (os:Os)(args:Array Value):laidMetH prog laidAll ((WU os).forCall (λ_ _=>0) ⟨#[],args,[]⟩).memory:=by rw[MakeChecks.laidMetH_plain _ _ _ (by kernel_rfl)];exact laidMet_laidAll args (by kernel_rfl) (by kernel_rfl)
open Go Go.Proofs Go.Proofs.Tryz Go.ChangeMaps Go.ChangeShapes Go.WideShapes Go.ChangeAt Go.RowKit
set_option maxHeartbeats 1600000 in
set_option maxRecDepth 100000 in
theorem sI (os:Os) (J:os.Started) (H:Type) (enc:TypeId × Value->H) :
  ReturnsInHanded {} checked os 4 .any (λw args=>(Rows.fnExactRunExampleSpec.pre enc prog Tryz.f4 [] false w args/\laidMetH prog laidAll w)/\sizedMet enc prog Tryz.f4 (OpenSpec.ofChange Rows.fnExactRunExampleSpec) false w args)
   (Rows.fnExactRunExampleSpec.post enc prog Tryz.f4 false true false false):=by
 refine returnsInHanded_of_calls (C:=checked) Kw J (by kernel_rfl)
  (ChangeSpec.witness_shaped (enc:=enc) (C:=checked) (os:=os) (f:=4) (fn:=Tryz.f4) (s:=Rows.fnExactRunExampleSpec) (conds:=[]) (apart:=false) (X:=λw _=>laidMetH prog laidAll w) false (WU os) #[.int .i64 0] 8 rfl (World.shaped_of_ZipB (by kernel_rfl) (by kernel_rfl)) (by kernel_rfl) (by kernel_rfl) (by kernel_rfl) (SQ os _)) ?_
 intro w O i _ ae _ ah aa _;obtain⟨_,_,_,ai,ab,_,_,_,_,I⟩:=ah;obtain rfl:ai=Tryz.f4:=oX (ab.symm.trans func4);obtain⟨⟨⟨ds,gs,ac,hw,_⟩,hx⟩,hz⟩:=aa;have hW:=DataW.Whole.of_heap (w':=w.forCall O i) (by rfl) hw;have hL:laidMetH prog laidAll (w.forCall O i):=hx.of_heap (by rfl);have al:=hz.weights hw;clear hw hx hz;generalize w.forCall O i=W at I hW hL ae;generalize w.heap.size=base at I;generalize i.args=args at I hW;have U:∀(j:Nat) t v,Tryz.f4.params[j]?=some t->args[j]?=some v->Value.okWide prog W .any base t v:=I;refine(?_:Calls checked.prog 4 args W λe W'=>∃ v,e=.returned v/\Rows.fnExactRunExampleSpec.post enc checked.prog Tryz.f4 false true false false W args v W').mono λe W' ⟨v,he,hp⟩=>(by subst he;exact ChangeSpec.post_blind hp)
 have aj:=hW;obtain⟨p,q,ak,hV,rfl,ao,_⟩:=hW;have hA:DataW.TrodAll enc prog W 0 (λ_=>true) true Tryz.f4.params.toList args.toList ds p:=ak;rw[params4]at hA U;obtain⟨v0,d0,rfl,rfl,h0⟩:=trodAll_one hA;obtain⟨rfl,rfl⟩:=trodVars_none hV;obtain⟨m0,rfl,rfl,rfl,aq⟩:=open_int underlying3 (U 0 3 v0 rfl rfl) h0;have hc:=(Gz m0 W.heap.size).h avG W rfl (WF hL) (λp hp=>by simp only[oL,mn,or_false]at hp;subst hp;exact⟨trivial,rfl⟩);have Y:([PV.int .i64 m0].map (PV.val [])).toArray=#[.int .i64 m0]:=by
  simp only[nH,my]
  try rfl
 rw[Y]at hc;refine hc.mono λe W' hf=>?_;exact Qv YY full (by rw[params4];decide) rfl (by kernel_rfl) underlying4 rfl aj (VR hf)
theorem qK:Rows.FnExactRunExampleSaid:=
 OpenClaim.holds_of_wide 4 Tryz.f4 rfl rfl rfl rfl rfl rfl rfl ⟨rfl,rfl,rfl,rfl,rfl⟩ rfl rfl rfl rfl rfl (by kernel_rfl) func4 (by kernel_rfl)
  (of_decide_eq_true (by kernel_rfl)) (by unfold Func.isWrapper;first | (rw[if_pos (by decide +kernel)];kernel_rfl) | (rw[if_neg (by decide +kernel)];exact⟨rfl,rfl⟩))
  (λos I H enc _=>sI os I H enc)
theorem fnExactRunExample_holds:Rows.FnExactRunExampleCardSaid:=
 Claim7.holds_tied_plain_at .later [] [.data,.data,.data,.data,.sentinel,.sentinel,.listed,.data,.pinned] true Rows.fnExactRunExampleCard.stood.harness true
  qK (fun _ h=>by cases h) (by kernel_rfl) (fun _ h=>by cases h) fnExactRunExample_row_tie rfl ⟨rfl,rfl⟩ (by kernel_rfl) rfl
  (fun f fn hf hfn=>by
   obtain rfl : f = 4 := oX ((show prog.funcNamed "loop.example/g00589/laws.FnExactRunExample" = some 4 by kernel_rfl).symm.trans hf) |>.symm
   obtain rfl:fn=Tryz.f4:=(oX (func4.symm.trans hfn)).symm;exact⟨by kernel_rfl,fun j t ht=>by
    rw[params4]at ht;have hm:t∈[3]:=by simpa using Array.mem_of_getElem? ht
    have hall:([3].all fun u=>!prog.wantsStandIn u)=true:=by kernel_rfl
    exact(show prog.wantsStandIn t=false by simpa using oc.1 hall t hm)⟩)
  (by kernel_rfl)
#print axioms fnExactRunExample_holds
end Go.Proofs.YtlaniepnglheoaaGreatDoor
