/- The names of states. -/
import Derived.Test.YtlaniepnglheoaaGreatDoorA9
import Derived.Test.YtlaniepnglheoaaGreatDoorKd
import Derived.Test.YtlaniepnglheoaaGreatDoorA5
import Derived.Test.YtlaniepnglheoaaGreatDoorB2
import Derived.Test.YtlaniepnglheoaaGreatDoorB6
import Derived.Test.YtlaniepnglheoaaGreatDoorC1
import Derived.Test.YtlaniepnglheoaaGreatDoorA1
import Derived.Test.YtlaniepnglheoaaGreatDoorJh
import Derived.ProofKit
import Derived.ReadAgain
import Derived.ChangeSame
import Derived.Test.YtlaniepnglheoaaGreatDoorRows
import Derived.SizedLaws
import Derived.Lib.LaidTab
import Derived.Lib.ItoaNum
import Derived.Stop.LaidErr
import Derived.LaidMore
import Derived.OpenShut
import Derived.MakeChecks
import Derived.Lib.Space
import Derived.Look8
import Derived.Lay
import Derived.Test.YtlaniepnglheoaaGreatDoorCards
import Derived.Test.YtlaniepnglheoaaGreatDoorTie
import Derived.SevenTiedAt
import Derived.ChangeMaps5
set_option linter.unusedVariables false
set_option linter.unusedSimpArgs false
set_option maxRecDepth 100000
namespace Go.Proofs.YtlaniepnglheoaaGreatDoor
open Go Go.Proofs Go.Proofs.Tryz Go.IntWalk
def stats:List ByteArray:=[bytes [98,97,100],bytes [100,111,110,101],bytes [102,117,101,108],bytes [108,97,114,103,101],bytes [115,116,117,99,107]]
def JF (k:Int):ByteArray:=if inB k 0 4=true then stats.getD k.toNat (bytes [])else bytes [63]
theorem RQ {k:Int}(J:0<=k)(O:k<=4):(zA stats).getD (0+k.toNat) default=D.t (stats.getD k.toNat (bytes [])):=by
 have I:k.toNat<stats.length:=by show _<5;omega
 rw[nH];unfold zA;rw[oA,oA,oF,oJ I];rfl
theorem CZ (k:Int):xq 28 [.j k] (JF k):=λN Q I=>DA N k Q λN1 Y=>yF k 0 4 N1 _ λN2 aa _=>Br.not (λJ N3 O=>by rw[JF,if_neg (by rw[J];simp)]at I;exact I _ (by omega)) λJ=>by rw[JF,if_pos J]at I;have U:=ye.1 J;exact⟨⟨by omega,by omega,by omega⟩,by omega,_,RQ U.1 U.2,λN3 O=>I _ (by omega)⟩
theorem Cc (k:Int):xq 20 [.j k] (JF k):=λN Q I=>DG N k Q λN1 Y=>xT k 0 4 N1 _ λN2 aa _=>Br.not (λJ N3 O=>by rw[JF,if_neg (by rw[J];simp)]at I;exact I _ (by omega)) λJ=>by rw[JF,if_pos J]at I;have U:=ye.1 J;exact⟨⟨by omega,by omega,by omega⟩,by omega,_,RQ U.1 U.2,λN3 O=>I _ (by omega)⟩
end Go.Proofs.YtlaniepnglheoaaGreatDoor
set_option maxRecDepth 100000
namespace Go.Proofs.YtlaniepnglheoaaGreatDoor
open Go Go.Proofs Go.Proofs.Tryz Go.IntWalk
def Tm.isP (t:Tm):Bool:=(tB [] t 0).isSome&&t.vd
theorem Dl (t:Tm)(d:D)(hd:t.Is d)(hc:t.cnt<=524288000):vU 25 [.dg 9 d] t.isP:=λN Q J=>by
 refine D0 N d Q λ_ N1 O=>BE (g:=[]) ⟨by simp,rfl⟩ (by simp) hd (by omega) none 0 0 N1 _ λx N2 U _ _ _ _=>Br.of (λh N3 I=>tQ t d hd (by omega) N3 _ λN4 Y _ N5 aa=>?_) λh N3 I=>?_
 ·have:=J N5 (by omega);rw[Tm.isP,h,Bool.true_and]at this;exact this
 ·have:=J N3 (by omega);rw[Tm.isP,h,Bool.false_and]at this;exact this
theorem Do (t:Tm)(d:D)(hd:t.Is d)(hc:t.cnt<=524288000):vU 16 [.dg 9 d] t.isP:=λN Q J=>by
 refine EC N d Q λ_=>⟨⟨rfl,rfl⟩,λa N0 O _ N1 U=>BI (g:=[]) ⟨by simp,rfl⟩ (by simp) hd (by omega) a 0 0 N1 _ λx N2 Y _ _ _=>Br.of (λh N3 I=>tS t d hd (by omega) N3 _ λN4 aa _ N5 ab=>?_) λh N3 I=>?_⟩
 ·have:=J N5 (by omega);rw[Tm.isP,h,Bool.true_and]at this;exact this
 ·have:=J N3 (by omega);rw[Tm.isP,h,Bool.false_and]at this;exact this
end Go.Proofs.YtlaniepnglheoaaGreatDoor
set_option maxRecDepth 100000
namespace Go.Proofs.YtlaniepnglheoaaGreatDoor
open Go Go.Proofs Go.Proofs.Tryz Go.IntWalk
def rtx (t:Tm):ByteArray:=
 if(xA t 200).1=1 then C4 ((tB [] t 0).getD tZero)++bytes [32,61,32]++TJ (xA t 200).2.1++bytes [32]++O8 (xA t 200).2.2
 else C4 ((tB [] t 0).getD tZero)++bytes [32]++JF (xA t 200).1
/-- .. or "bad" -/
def rtv (b:Bool) (o:Tm):ByteArray:=if(b&&o.isP)=true then rtx o else bytes [98,97,100]
theorem Fy {t:Tm}(h:t.isP=true):((tB [] t 0).getD tZero).valid=true:=by
 unfold Tm.isP at h;rw[oK]at h;obtain⟨u,I⟩:=mg.1 h.1;rw[I,nB];unfold tB at I;split at I
 ·exact Tm.type_valid I
 ·cases I
end Go.Proofs.YtlaniepnglheoaaGreatDoor
set_option maxRecDepth 100000
namespace Go.Proofs.YtlaniepnglheoaaGreatDoor
open Go Go.Proofs Go.Proofs.Tryz Go.IntWalk
theorem PR.ex (s:ByteArray):∃ b o,PR s b o:=by
 by_cases h:∃ t:Tm,t.vd=true/\t.tx=s
 ·obtain⟨t,I,e⟩:=h;exact⟨true,t,⟨λ_=>⟨I,e⟩,λh=>by cases h⟩⟩
 ·exact⟨false,_,⟨λh=>(by cases h),λ_=>⟨rfl,λt I e=>h ⟨t,I,e⟩⟩⟩⟩
theorem sC {t:Ty}(I:t.valid=true){d:D}(hd:t.Is d):xq 19 [.dg 2 d] (C4 t):=λN Q O=>by have h:=yL I;have J:=yI t d hd (by omega);rw[I]at J;exact DF N d Q λ_ N1 U=>J N1 _ λN2 Y _=>Br.not (λh=>by cases h) λ_ N3 aa=>EO h.1 (by omega) hd N3 _ λN4 ab _ N5 ac=>O _ (by omega)
theorem K1 (k:Int):(JF k).size<=5:=by
 unfold JF;split
 ·rename_i h;have I:=ye.1 h;have:k=0\/k=1\/k=2\/k=3\/k=4:=by omega
  rcases this with rfl | rfl | rfl | rfl | rfl<;>decide
 ·decide
theorem W0 {t:Tm}(I:t.isP=true):(C4 ((tB [] t 0).getD tZero)).size<=90:=by
 have h:=yL (Fy I)
 have:=yg h.1
 omega
theorem Oy {t:Tm}(hc:t.cnt<=4000000)(h:(xA t 200).1=1):(TJ (xA t 200).2.1).size<=200000:=by
 have I:=S9 hc h;rw[TJ,if_pos I.1]
 have:=RZ _ I.1
 omega
theorem Ww (t:Tm):(O8 (xA t 200).2.2).size<=20:=by
 have:=MW t 200 (by decide)
 rw[BQ];exact Cs _ (by omega)
theorem rs3:(bytes [32,61,32]).size=3:=rfl
theorem rs1:(bytes [32]).size=1:=rfl
theorem Gj {s:ByteArray}{b:Bool}{o:Tm}(hp:PR s b o)(hs:s.size<=1048576):xq 6 [.str s] (rtv b o):=λN Q I=>by
 have hc:=hp.cnt;refine HC N s Q λN1 ax=>Du s (by omega) N1 _ λb' o' d N2 ay ah hd _ _ _=>?_;obtain⟨rfl,rfl⟩:=hp.uniq ah;refine Br.not (λhb N3 ai=>by rw[rtv,if_neg (by simp[hb])]at I;exact I _ (by omega)) λhb N3 ai=>Do _ d hd (by omega) N3 _ λN4 az _=>Br.not (λhi N5 aj=>by rw[rtv,if_neg (by simp[hi])]at I;exact I _ (by omega)) λhi=>?_;rw[rtv,if_pos (by rw[hb,hi];rfl)]at I;have hv:=Fy hi;have s1:=W0 hi;refine⟨⟨rfl,rfl⟩,λa N5 aj _ N6 a6=>BI (g:=[]) ⟨by simp,rfl⟩ (by simp) hd (by omega) a 0 0 N6 _ λx N7 a7 hx _ _ N8 a8=>Gi hd (by omega) 200 N8 _ λy N9 ba hy _ _=>?_⟩;obtain⟨y0,y1,y2,y3,y4,y5,y6,y7,y8,rfl,ak⟩:=Rs.cells hy;refine⟨_,rfl,Br.bne (λal=>⟨_,rfl,λJ U=>sC hv hx J _ λao Y _=>⟨by omega,λO aa=>Cc _ O _ λaq ab _=>⟨?_,λac ae=>?_⟩⟩⟩) λhe=>⟨_,rfl,λJ U=>sC hv hx J _ λao Y _=>⟨by omega,λO aa=>E4 ak ?_ O _ λaq ab _=>⟨?_,?_,λac ae=>xW _ ?_ ac _ λbb au _=>⟨?_,λbc aw=>?_⟩⟩⟩⟩⟩
 ·have:=K1 (xA o' 200).1
  rw[oE,rs1];omega
 ·rw[rtx,if_neg al]at I;exact I _ (by omega)
 ·have:=Kv (e:=o') (by omega) 200;omega
 ·have:=Oy (by omega) he
  rw[oE,rs3];omega
 ·have:=Oy (by omega) he
  rw[oE,oE,rs3];omega
 ·have:=MW o' 200 (by decide);omega
 ·have:=Oy (by omega) he
  have:=Ww o'
  rw[oE,oE,oE,rs3,rs1];omega
 ·rw[rtx,if_pos he]at I;exact I _ (by omega)
theorem Gd {s:ByteArray}{b:Bool}{o:Tm}(hp:PR s b o)(hs:s.size<=1048576):xq 7 [.str s] (rtv b o):=λN Q I=>by
 have hc:=hp.cnt;refine G2 N s Q λN1 ax=>Dt s (by omega) N1 _ λb' o' d N2 ay ai hd _ _ _ N3 az=>?_;obtain⟨rfl,rfl⟩:=hp.uniq ai;refine BE (g:=[]) ⟨by simp,rfl⟩ (by simp) hd (by omega) none 0 0 N3 _ λx N4 a6 hx _ _ _=>Br.not (λhb N5 U=>by rw[rtv,if_neg (by simp[hb])]at I;exact I _ (by omega)) λhb=>Br.not (λhi N5 U=>by rw[rtv,if_neg (by simp[Tm.isP,hi])]at I;exact I _ (by omega)) λa7 N5 U=>Dl _ d hd (by omega) N5 _ λN6 a8 _=>Br.not (λhi N7 aj=>by rw[rtv,if_neg (by simp[hi])]at I;exact I _ (by omega)) λhi N7 aj=>?_;rw[rtv,if_pos (by rw[hb,hi];rfl)]at I;have hv:=Fy hi;have s1:=W0 hi;refine Gc hd (by omega) 200 N7 _ λy N9 ba hy _ _ _=>?_;obtain⟨y0,y1,y2,y3,y4,y5,y6,y7,y8,rfl,ak⟩:=Rs.cells hy;refine⟨_,rfl,Br.bne (λal=>⟨_,rfl,λJ Y=>vo hv hx J _ λao aa _=>⟨by omega,λO ab=>CZ _ O _ λaq ac _=>⟨?_,λae ah=>?_⟩⟩⟩) λhe=>⟨_,rfl,λJ Y=>vo hv hx J _ λao aa _=>⟨by omega,λO ab=>Ez ak ?_ O _ λaq ac _=>⟨?_,?_,λae ah=>uB _ ?_ ae _ λbb au _=>⟨?_,λbc aw=>?_⟩⟩⟩⟩⟩
 ·have:=K1 (xA o' 200).1
  rw[oE,rs1];omega
 ·rw[rtx,if_neg al]at I;exact I _ (by omega)
 ·have:=Kv (e:=o') (by omega) 200;omega
 ·have:=Oy (by omega) he
  rw[oE,rs3];omega
 ·have:=Oy (by omega) he
  rw[oE,oE,rs3];omega
 ·have:=MW o' 200 (by decide);omega
 ·have:=Oy (by omega) he
  have:=Ww o'
  rw[oE,oE,oE,rs3,rs1];omega
 ·rw[rtx,if_pos he]at I;exact I _ (by omega)
theorem L8 (s:ByteArray)(N:Nat):ACalls prog 3 [.bool] [.str s] N (λr _=>r=true):=by obtain⟨b,o,I⟩:=PR.ex s;exact qx N s _ (Br.dec (λ_ N1 _=>rfl) λh N2 J=>Gj I (by omega) N2 _ λN3 O _ U Y=>Gd I (by omega) U _ λN5 aa _=>Br.nstr (λh=>absurd rfl h) λ_ N7 ab=>rfl)
open Go
structure Snap (w:World) (cs:List Value) (xs:List D):Prop where
 cv:xs.map D.cv=cs
 cell:∀ x∈xs,x.isCell
 hold:∀ x∈xs,Holds w x
theorem Snap.one {w:World}{v:Value}{x:D}(I:x.cv=v)(J:x.isCell)(O:Holds w x):Snap w [v] [x]:=⟨by simp[I],by simpa using J,by simpa using O⟩
variable {H:Type} {enc:TypeId × Value->H} {P:Program} {w:World} {base:Nat} {spare:Nat->Bool} {held:Bool} {T:List TypeId}
open Go Go.ChangeShapes Go.WideShapes Go.ChangeAt Go.RowKit
structure Ret1 (W W':World) (e:Ending):Prop where
 e:e=.returned (.bool true)
 old:∀ b,b<W.heap.size->W'.heap[b]?=W.heap[b]?
 size:W.heap.size<=W'.heap.size
 ku:KU W W'
theorem VI {av:Nat->Prop}{W W':World}{e:Ending}(h:Fin [.bool] (λr _=>r=true) av W e W'):Ret1 W W' e:=by
 cases e with
 | returned v=>
   obtain⟨ps,rows,e',hd⟩:=h;have I:=hd.q;have J:=hd.v;refine⟨?_,hd.old,hd.size,hd.ku⟩;cases ps with
   | nil=>simp[QT.app]at I
   | cons p ps=>
     cases p<;>simp[QT.app]at I
     cases ps<;>cases rows<;>simp[QT.app]at I
     subst I;rw[J];rfl
 | _=>exact h.elim
theorem Ql {H:Type} {enc:TypeId × Value->H} {P:Program} {fn:Func} {s:ChangeSpec} {apart fresh I:Bool} {W W':World} {args:Array Value} {ds gs:List (DataW H)} {J:List MemPlace} {tb:TypeId} {e:Ending}
  (K:Kids P (·<P.types.size)) (full:∀ t e,t<P.types.size->P.underlying t=some (.slice e)->0<P.cellsOf e)
  (Y:∀ t∈fn.params.toList,t<P.types.size) (hv:s.vars=[]) (ac:fn.resultTypes=#[tb]) (ae:P.underlying tb=some .bool)
  (hs:s.fn H (ds++gs)={ results:=[.lit (.bool true)],args:=ds })
  (hW:DataW.Whole enc P fn.params.toList s.vars apart W args.toList ds gs J) (hr:Ret1 W W' e) :
  ∃ v,e=.returned v/\s.post enc P fn apart fresh I false W args v W':=by
 refine⟨_,hr.e,?_⟩;have aa:=hW;obtain⟨p,q,hA,hV,rfl,ai,_⟩:=hW;rw[hv]at hV;obtain⟨rfl,rfl⟩:=trodVars_none hV;have ab:∀ x∈p++[],x.block<W.heap.size:=aa.lt;have O:∀ {ts:List TypeId} {vs:List Value} {ds:List (DataW H)} {ps:List MemPlace},DataW.TrodAll enc P W 0 (λ_=>true) true ts vs ds ps->(∀ x∈ps,x.block<W.heap.size)->DataW.TrodAll enc P W' 0 (λ_=>true) true ts vs ds ps:=by
  intro ts
  induction ts with
  | nil=>intro vs ds ps h _;obtain⟨rfl,rfl,rfl⟩:=trodAll_nil h;exact trodAll_mk0
  | cons t ts ih=>
    intro vs ds ps h hl;obtain⟨v,aj,d,ds1,a,b,rfl,rfl,rfl,⟨n,h1⟩,h2⟩:=trodAll_cons h;refine⟨a,b,⟨n,DataW.trod_carry n _ _ _ h1 λx U=>?_⟩,ih h2 λx U=>hl x (by simp[U]),rfl⟩;have hb:=hr.old _ (hl x (by simp[U]));cases x with
    | cell b off=>simp only[World.sameAt,World.cell?,MemPlace.block]at hb ⊢;rw[hb]
    | map b=>exact hb
 have ah:=O hA λx U=>ab x (by simp[U]);refine⟨ds,[],p++[],[],p,[],aa,?_,?_,?_,⟨hr.ku.os,hr.ku.out,λi hi=>?_⟩,λh=>by cases h⟩
 ·rw[hs,ac];exact trodAll_mk1 ⟨1,by simp[DataW.trod,Value.cells,ae]⟩
 ·rw[hs];exact DataW.TrodAll.respare K full Y ah λx U=>by simpa using ab x (by simp[U])
 ·rw[hs,hv];rfl
 ·rw[hr.old i hi];cases hb:W.heap[i]? with
  | none=>rfl
  | some o=>
    cases o with
    | cells c t fr=>exact⟨rfl,rfl,rfl,λ_ _=>rfl⟩
    | map es clock=>exact .inr ⟨rfl,rfl⟩
    | _=>rfl
open Go Go.Proofs Go.Proofs.Tryz Go.ChangeShapes Go.WideShapes Go.ChangeAt Go.RowKit
theorem YO:Kids prog (·<prog.types.size):=kids_rows (by kernel_rfl) (by kernel_rfl)
theorem full:∀ t e,t<prog.types.size->prog.underlying t=some (.slice e)->0<prog.cellsOf e:=slices_full_of prog (by kernel_rfl)
theorem Kn:ownKnob prog.godebug=none:=by kernel_rfl
end Go.Proofs.YtlaniepnglheoaaGreatDoor
set_option maxRecDepth 100000
namespace Go.Proofs.YtlaniepnglheoaaGreatDoor
open Go Go.Proofs Go.Proofs.Tryz
end Go.Proofs.YtlaniepnglheoaaGreatDoor
set_option maxRecDepth 100000
namespace Go.Proofs.YtlaniepnglheoaaGreatDoor
open Go Go.Proofs Go.Proofs.Tryz
end Go.Proofs.YtlaniepnglheoaaGreatDoor
set_option maxRecDepth 100000
namespace Go.Proofs.YtlaniepnglheoaaGreatDoor
open Go Go.Proofs Go.Proofs.Tryz Go.ChangeShapes Go.WideShapes Go.ChangeAt Go.RowKit
/-- the list that the row bears -/
def laidAll : List (String × DataW Unit) := [("math/bits.deBruijn32tab", Rows.laid_math_bits_deBruijn32tab), ("math/bits.deBruijn64tab", Rows.laid_math_bits_deBruijn64tab), ("internal/strconv.uint64pow10", Rows.laid_internal_strconv_uint64pow10), ("unicode/utf8.acceptRanges", Rows.laid_unicode_utf8_acceptRanges), ("strconv.ErrRange", Rows.laid_strconv_ErrRange), ("strconv.ErrSyntax", Rows.laid_strconv_ErrSyntax), ("unicode.White_Space", Rows.laid_unicode_White_Space), ("strings.asciiSpace", Rows.laid_strings_asciiSpace), ("unicode/utf8.first", Rows.laid_unicode_utf8_first)]
theorem X4 : prog.globalNamed "internal/strconv.uint64pow10" = some 4 := by kernel_rfl
theorem YQ:(prog.globals[4]?).map (·.type)=some 211:=by kernel_rfl
theorem YI:prog.cellsOf 211=20:=by kernel_rfl
theorem XQ:prog.cellsOf 192=1:=by kernel_rfl
theorem X6 : prog.globalNamed "strings.asciiSpace" = some 0 := by kernel_rfl
theorem YS:(prog.globals[0]?).map (·.type)=some 107:=by kernel_rfl
theorem YJ:prog.cellsOf 107=256:=by kernel_rfl
theorem XR:prog.cellsOf 5=1:=by kernel_rfl
theorem X7 : prog.globalNamed "strconv.ErrSyntax" = some 5 := by kernel_rfl
theorem YT:(prog.globals[5]?).map (·.type)=some 169:=by kernel_rfl
theorem X5 : prog.globalNamed "strconv.ErrRange" = some 6 := by kernel_rfl
theorem YR:(prog.globals[6]?).map (·.type)=some 169:=by kernel_rfl
theorem Xz:prog.cellsOf 240=1:=by kernel_rfl
theorem X1:prog.cellsOf 9=1:=by kernel_rfl
theorem W2 : "*" ++ "errors.errorString" = "*errors.errorString" := by decide
theorem T1 (u : TypeId)(h : prog.typeName? 3 u = some "*errors.errorString") : u = 238 :=
 typeName_ptr_named (nm := "errors.errorString") (by rw [W2]; kernel_rfl) (by kernel_rfl) (by decide) u (by rw [W2]; exact h)
theorem pJ {W:World}{n:String}{g:Nat}{cs:Array Value}(J:prog.globalNamed n=some g)(h:W.var? prog n=some cs):∃ t fz,W.heap[g]?=some (.cells cs t fz):=by
 unfold World.var? at h;rw[J]at h;simp only[Option.bind]at h;cases I:W.heap[g]? with
 | none=>rw[I]at h;cases h
 | some o=>
   rw[I]at h;cases o with
   | cells c t z=>simp only[oh]at h;subst h;exact⟨t,z,rfl⟩
   | _=>cases h
theorem QF {W:World}(h:laidMetH prog laidAll W):GlobIs W:=by
 rw [MakeChecks.laidMetH_plain _ _ _ (by kernel_rfl)] at h;have O : laidMet prog (("internal/strconv.uint64pow10", Lib.tabData .u64 Lib.pow10Tab) :: _) W := h.tail.tail;have U:=Lib.tabIs_of_head X4 YQ underlying211 underlying192 XQ YI O;have J:=O.tail.tail;have hA : laidMet prog (("strings.asciiSpace", Lib.tabData .u8 Lib.asciiSpaceTab) :: _) W := J.tail.tail.tail;have Y:=Lib.tabIs_of_head X6 YS underlying107 underlying5 XR YJ hA;obtain ⟨a0,s0,v0,_⟩:=laid_sentinel J X5 YR underlying169 T1 underlying238 underlying240 rfl rfl underlying9 Xz X1;obtain ⟨a1,s1,v1,_⟩:=laid_sentinel J.tail X7 YT underlying169 T1 underlying238 underlying240 rfl rfl underlying9 Xz X1;unfold Lib.TabIs at U Y;refine ⟨λx I=>?_,λx I=>?_⟩
 ·simp only[glob,oL,mn,or_false]at I;subst I;exact pJ X4 U
 ·simp only[Ka,oL,mn,or_false]at I;rcases I with rfl | rfl | rfl
  ·obtain⟨t,fz,e⟩:=pJ X6 Y;exact⟨_,t,fz,e,rfl⟩
  ·obtain⟨t,fz,e⟩:=pJ X7 v1;exact⟨_,t,fz,e,_,rfl,.inr ⟨_,_,rfl⟩⟩
  ·obtain⟨t,fz,e⟩:=pJ X5 v0;exact⟨_,t,fz,e,_,rfl,.inr ⟨_,_,rfl⟩⟩
theorem V6 {W:World}(h:laidMetH prog laidAll W):Avl avG W []:=⟨λb I=>(QF h).lt I,QF h,λb I=>I,λb I=>by simp,λx J=>by simp⟩
noncomputable def WL (os:Os):World:=World.laidAll prog os laidAll
theorem SH (os:Os)(args:Array Value):laidMetH prog laidAll ((WL os).forCall (λ_ _=>0) ⟨#[],args,[]⟩).memory:=by rw[MakeChecks.laidMetH_plain _ _ _ (by kernel_rfl)];exact laidMet_laidAll args (by kernel_rfl) (by kernel_rfl)
open Go Go.Proofs Go.Proofs.Tryz Go.ChangeMaps Go.ChangeShapes Go.WideShapes Go.ChangeAt Go.RowKit
set_option maxHeartbeats 1600000 in
set_option maxRecDepth 100000 in
theorem qG (os:Os) (J:os.Started) (H:Type) (enc:TypeId × Value->H) :
  ReturnsInHanded {} checked os 3 .any (λw args=>(Rows.fnExactRunTextSpec.pre enc prog Tryz.f3 [] false w args/\laidMetH prog laidAll w)/\sizedMet enc prog Tryz.f3 (OpenSpec.ofChange Rows.fnExactRunTextSpec) false w args)
   (Rows.fnExactRunTextSpec.post enc prog Tryz.f3 false true false false):=by
 refine returnsInHanded_of_calls (C:=checked) Kn J (by kernel_rfl)
  (ChangeSpec.witness_shaped (enc:=enc) (C:=checked) (os:=os) (f:=3) (fn:=Tryz.f3) (s:=Rows.fnExactRunTextSpec) (conds:=[]) (apart:=false) (X:=λw _=>laidMetH prog laidAll w) false (WL os) #[.string ⟨#[]⟩] 8 rfl (World.shaped_of_ZipB (by kernel_rfl) (by kernel_rfl)) (by kernel_rfl) (by kernel_rfl) (by kernel_rfl) (SH os _)) ?_
 intro w O i _ ae _ ah aa _;obtain⟨_,_,_,ai,ab,_,_,_,_,I⟩:=ah;obtain rfl:ai=Tryz.f3:=oX (ab.symm.trans func3);obtain⟨⟨⟨ds,gs,ac,hw,_⟩,hx⟩,hz⟩:=aa;have hW:=DataW.Whole.of_heap (w':=w.forCall O i) (by rfl) hw;have hL:laidMetH prog laidAll (w.forCall O i):=hx.of_heap (by rfl);have al:=hz.weights hw;clear hw hx hz;generalize w.forCall O i=W at I hW hL ae;generalize w.heap.size=base at I;generalize i.args=args at I hW;have U:∀(j:Nat) t v,Tryz.f3.params[j]?=some t->args[j]?=some v->Value.okWide prog W .any base t v:=I;refine(?_:Calls checked.prog 3 args W λe W'=>∃ v,e=.returned v/\Rows.fnExactRunTextSpec.post enc checked.prog Tryz.f3 false true false false W args v W').mono λe W' ⟨v,he,hp⟩=>(by subst he;exact ChangeSpec.post_blind hp)
 have aj:=hW;obtain⟨p,q,ak,hV,rfl,ao,_⟩:=hW;have hA:DataW.TrodAll enc prog W 0 (λ_=>true) true Tryz.f3.params.toList args.toList ds p:=ak;rw[params3]at hA U;obtain⟨v0,d0,rfl,rfl,h0⟩:=trodAll_one hA;obtain⟨rfl,rfl⟩:=trodVars_none hV;obtain⟨m0,rfl,rfl,rfl,aq⟩:=open_string underlying9 (U 0 9 v0 rfl rfl) h0;have hc:=(L8 m0 W.heap.size).h avG W rfl (V6 hL) (λp hp=>by simp only[oL,mn,or_false]at hp;subst hp;exact⟨trivial,rfl⟩);have Y:([PV.str m0].map (PV.val [])).toArray=#[.string m0]:=by
  simp only[nG,my]
  try rfl
 rw[Y]at hc;refine hc.mono λe W' hf=>?_;exact Ql YO full (by rw[params3];decide) rfl (by kernel_rfl) underlying4 rfl aj (VI hf)
theorem BT:Rows.FnExactRunTextSaid:=
 OpenClaim.holds_of_wide 3 Tryz.f3 rfl rfl rfl rfl rfl rfl rfl ⟨rfl,rfl,rfl,rfl,rfl⟩ rfl rfl rfl rfl rfl (by kernel_rfl) func3 (by kernel_rfl)
  (of_decide_eq_true (by kernel_rfl)) (by unfold Func.isWrapper;first | (rw[if_pos (by decide +kernel)];kernel_rfl) | (rw[if_neg (by decide +kernel)];exact⟨rfl,rfl⟩))
  (λos I H enc _=>qG os I H enc)
theorem fnExactRunText_holds:Rows.FnExactRunTextCardSaid:=
 Claim7.holds_tied_plain_at .later [] [.data,.data,.data,.data,.sentinel,.sentinel,.listed,.data,.pinned] true Rows.fnExactRunTextCard.stood.harness true
  BT (fun _ h=>by cases h) (by kernel_rfl) (fun _ h=>by cases h) fnExactRunText_row_tie rfl ⟨rfl,rfl⟩ (by kernel_rfl) rfl
  (fun f fn hf hfn=>by
   obtain rfl : f = 3 := oX ((show prog.funcNamed "loop.example/g00589/laws.FnExactRunText" = some 3 by kernel_rfl).symm.trans hf) |>.symm
   obtain rfl:fn=Tryz.f3:=(oX (func3.symm.trans hfn)).symm;exact⟨by kernel_rfl,fun j t ht=>by
    rw[params3]at ht;have hm:t∈[9]:=by simpa using Array.mem_of_getElem? ht
    have hall:([9].all fun u=>!prog.wantsStandIn u)=true:=by kernel_rfl
    exact(show prog.wantsStandIn t=false by simpa using oc.1 hall t hm)⟩)
  (by kernel_rfl)
#print axioms fnExactRunText_holds
end Go.Proofs.YtlaniepnglheoaaGreatDoor
