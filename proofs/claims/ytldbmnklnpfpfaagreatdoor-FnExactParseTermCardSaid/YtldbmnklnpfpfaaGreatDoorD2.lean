/- ParseTerm: the law. -/
import Derived.Test.YtldbmnklnpfpfaaGreatDoorB6
import Derived.Test.YtldbmnklnpfpfaaGreatDoorA1
import Derived.Test.YtldbmnklnpfpfaaGreatDoorKa
import Derived.Test.YtldbmnklnpfpfaaGreatDoorJh
import Derived.ProofKit
import Derived.ReadAgain
import Derived.ChangeSame
import Derived.Test.YtldbmnklnpfpfaaGreatDoorRows
import Derived.SizedLaws
import Derived.Test.YtldbmnklnpfpfaaGreatDoorA5
import Derived.Lib.LaidTab
import Derived.Lib.ItoaNum
import Derived.Stop.LaidErr
import Derived.LaidMore
import Derived.OpenShut
import Derived.MakeChecks
import Derived.Lib.Space
import Derived.Look8
import Derived.Lay
import Derived.Shelf.Vars
import Derived.Test.YtldbmnklnpfpfaaGreatDoorCards
import Derived.Test.YtldbmnklnpfpfaaGreatDoorTie
import Derived.SevenTiedAt
import Derived.ChangeMaps5
set_option linter.unusedVariables false
set_option linter.unusedSimpArgs false
set_option maxRecDepth 100000
namespace Go.Proofs.YtldbmnklnpfpfaaGreatDoor
open Go Go.Proofs Go.Proofs.Tryz Go.IntWalk
structure PR (s:ByteArray) (b:Bool) (o:Tm):Prop where
 yes:b=true->o.vd=true/\o.tx=s
 no:b=false->o=Tm.mk 0 (bytes []) (bytes []) 0 tZero tZero []/\∀ t:Tm,t.vd=true->t.tx≠s
theorem PR.uniq {s:ByteArray}{b b':Bool}{o O:Tm}(h:PR s b o)(I:PR s b' O):b'=b/\O=o:=by
 cases b<;>cases b'
 ·exact⟨rfl,(I.no rfl).1.trans (h.no rfl).1.symm⟩
 ·exact absurd (I.yes rfl).2 ((h.no rfl).2 _ (I.yes rfl).1)
 ·exact absurd (h.yes rfl).2 ((I.no rfl).2 _ (h.yes rfl).1)
 ·have U:=wl true (h.yes rfl).1 (h.yes rfl).2;have J:=wl true (I.yes rfl).1 (I.yes rfl).2;rw[U]at J;simp only[od,mv]at J;exact⟨rfl,J.1.symm⟩
theorem PR.cnt {s:ByteArray}{b:Bool}{o:Tm}(h:PR s b o):o.cnt<=3*s.size+5:=by
 cases b with
 | true=>
   have:=H2 (wl true (h.yes rfl).1 (h.yes rfl).2)
   rw[xK]at this;omega
 | false=>rw[(h.no rfl).1];simp[Tm.cnt,yH,tZero,Ty.cnt,zI];try omega
def Mw (f:FuncId)(s:ByteArray)(ow:Nat->Nat->D->Prop):Prop:=∀(N:Nat) (Q:QT [.ag 9,.bool]) (_:∀ b o d N',N<=N'->PR s b o->o.Is d->ow N N' d->Q d b N'),ACalls prog f [.ag 9,.bool] [.str s] N Q
theorem RetP.q {f:FuncId}{s:ByteArray}{ow:Nat->Nat->D->Prop}(h:RetP f s ow)(J:∀ N N',ow N N' zD):Mw f s ow:=λN Q I=>h N Q (λt d N' hN O e hd U=>I true t d N' hN ⟨λ_=>⟨O,e⟩,λh=>by cases h⟩ hd U) λd N' hN e V=>by subst e;exact I false _ zD N' hN ⟨λh=>(by cases h),λ_=>⟨rfl,V⟩⟩ (vP 0 0 (by decide)) (J N N')
theorem vm (s:ByteArray)(hs:s.size<=300000000):Mw 6 s Own:=(qa s hs).q λ_ _=>sd
theorem qi (s:ByteArray)(hs:s.size<=300000000):Mw 5 s (λ_ _ _=>True):=(qb s hs).q λ_ _=>trivial
theorem Br.same {v:Bool}{A B:Prop}(h:B):Br (!(v==v)) A B:=Br.not (λh=>by simp at h) λ_=>h
theorem MN {t:Tm}{d:D}(h:t.Is d)(k:Int):k<=t.mkk k/\t.mkk k<=k+4*t.cnt:=t.mkk_k k
theorem CW (s:ByteArray) (N:Nat) :
  ACalls prog 3 [.bool] [.str s] N (λr _=>r=true):=by
 refine vb N s _ (Br.dec (λ_ N1 _=>rfl) λal N2 ba=>?_);refine qi s (by omega) N2 _ λb o w0 N3 bb V U _ _ Y N4 bc=>?_;refine vm s (by omega) N4 _ λb' o' g0 N5 bd Z O I _ _ N6 bg=>?_;obtain⟨rfl,rfl⟩:=V.uniq Z;have hc:=V.cnt;refine FF _ g0 w0 O U N6 _ λN7 bh _=>Br.of (λh=>by simp at h) λ_=>Br.same ?_;refine⟨I.tree,I.low (by omega),rfl,⟨λx hx=>?_⟩,λaa ao=>?_⟩
 ·simp only[oH,mu,or_false]at hx;subst hx;exact Ie I (Y.mono (by omega))
 refine EU O I.tree 1 (by omega) (by omega) aa _ λg1 bi aq ab bj _ ac au=>?_;have bm:=MN O 1;have J:=ER _ 1 g1 ab (by omega) (by omega);refine J ac _ λbn aw _=>Br.dec (λh=>by omega) λ_=>Br.bne (λh=>absurd rfl h) λ_ ae ax=>?_;refine vm s (by omega) ae _ λb2 o2 g2 bp ay ah ai _ _ _ aj az=>?_;obtain⟨rfl,rfl⟩:=V.uniq ah;refine FF _ g2 w0 ai U aj _ λbq a1 _=>Br.of (λh=>by simp at h) λ_=>Br.same λak a6=>?_;exact J ak _ λbt a7 _=>Br.dec (λh=>by omega) λ_=>Br.bne (λh=>absurd rfl h) λ_ bv a8=>rfl
open Go
structure Snap (w:World) (cs:List Value) (xs:List D):Prop where
 cv:xs.map D.cv=cs
 cell:∀ x∈xs,x.isCell
 hold:∀ x∈xs,Holds w x
theorem Snap.one {w:World}{v:Value}{x:D}(I:x.cv=v)(J:x.isCell)(O:Holds w x):Snap w [v] [x]:=⟨by simp[I],by simpa using J,by simpa using O⟩
variable {H:Type} {enc:TypeId × Value->H} {P:Program} {w:World} {base:Nat} {spare:Nat->Bool} {held:Bool} {T:List TypeId}
open Go Go.ChangeShapes Go.WideShapes Go.ChangeAt Go.RowKit
structure Ret1 (W W':World) (e:Ending):Prop where
 e:e=.returned (.bool true)
 old:∀ b,b<W.heap.size->W'.heap[b]?=W.heap[b]?
 size:W.heap.size<=W'.heap.size
 ku:KU W W'
theorem LR {av:Nat->Prop}{W W':World}{e:Ending}(h:Fin [.bool] (λr _=>r=true) av W e W'):Ret1 W W' e:=by
 cases e with
 | returned v=>
   obtain⟨ps,rows,e',hd⟩:=h;have I:=hd.q;have J:=hd.v;refine⟨?_,hd.old,hd.size,hd.ku⟩;cases ps with
   | nil=>simp[QT.app]at I
   | cons p ps=>
     cases p<;>simp[QT.app]at I
     cases ps<;>cases rows<;>simp[QT.app]at I
     subst I;rw[J];rfl
 | _=>exact h.elim
theorem Hr {H:Type} {enc:TypeId × Value->H} {P:Program} {fn:Func} {s:ChangeSpec} {apart fresh I:Bool} {W W':World} {args:Array Value} {ds gs:List (DataW H)} {J:List MemPlace} {tb:TypeId} {e:Ending}
  (K:Kids P (·<P.types.size)) (full:∀ t e,t<P.types.size->P.underlying t=some (.slice e)->0<P.cellsOf e)
  (V:∀ t∈fn.params.toList,t<P.types.size) (hv:s.vars=[]) (ab:fn.resultTypes=#[tb]) (ac:P.underlying tb=some .bool)
  (hs:s.fn H (ds++gs)={ results:=[.lit (.bool true)],args:=ds })
  (hW:DataW.Whole enc P fn.params.toList s.vars apart W args.toList ds gs J) (Y:Ret1 W W' e) :
  ∃ v,e=.returned v/\s.post enc P fn apart fresh I false W args v W':=by
 refine⟨_,Y.e,?_⟩;have Z:=hW;obtain⟨p,q,hA,hV,rfl,ah,_⟩:=hW;rw[hv]at hV;obtain⟨rfl,rfl⟩:=trodVars_none hV;have aa:∀ x∈p++[],x.block<W.heap.size:=Z.lt;have O:∀ {ts:List TypeId} {vs:List Value} {ds:List (DataW H)} {ps:List MemPlace},DataW.TrodAll enc P W 0 (λ_=>true) true ts vs ds ps->(∀ x∈ps,x.block<W.heap.size)->DataW.TrodAll enc P W' 0 (λ_=>true) true ts vs ds ps:=by
  intro ts
  induction ts with
  | nil=>intro vs ds ps h _;obtain⟨rfl,rfl,rfl⟩:=trodAll_nil h;exact trodAll_mk0
  | cons t ts ih=>
    intro vs ds ps h hl;obtain⟨v,ai,d,ds1,a,b,rfl,rfl,rfl,⟨n,h1⟩,h2⟩:=trodAll_cons h;refine⟨a,b,⟨n,DataW.trod_carry n _ _ _ h1 λx U=>?_⟩,ih h2 λx U=>hl x (by simp[U]),rfl⟩;have hb:=Y.old _ (hl x (by simp[U]));cases x with
    | cell b off=>simp only[World.sameAt,World.cell?,MemPlace.block]at hb ⊢;rw[hb]
    | map b=>exact hb
 have ae:=O hA λx U=>aa x (by simp[U]);refine⟨ds,[],p++[],[],p,[],Z,?_,?_,?_,⟨Y.ku.os,Y.ku.out,λi hi=>?_⟩,λh=>by cases h⟩
 ·rw[hs,ab];exact trodAll_mk1 ⟨1,by simp[DataW.trod,Value.cells,ac]⟩
 ·rw[hs];exact DataW.TrodAll.respare K full V ae λx U=>by simpa using aa x (by simp[U])
 ·rw[hs,hv];rfl
 ·rw[Y.old i hi];cases hb:W.heap[i]? with
  | none=>rfl
  | some o=>
    cases o with
    | cells c t fr=>exact⟨rfl,rfl,rfl,λ_ _=>rfl⟩
    | map es clock=>exact .inr ⟨rfl,rfl⟩
    | _=>rfl
open Go Go.Proofs Go.Proofs.Tryz Go.ChangeShapes Go.WideShapes Go.ChangeAt Go.RowKit
theorem OE:Kids prog (·<prog.types.size):=kids_rows (by kernel_rfl) (by kernel_rfl)
theorem full:∀ t e,t<prog.types.size->prog.underlying t=some (.slice e)->0<prog.cellsOf e:=slices_full_of prog (by kernel_rfl)
theorem Dm:ownKnob prog.godebug=none:=by kernel_rfl
end Go.Proofs.YtldbmnklnpfpfaaGreatDoor
set_option maxRecDepth 100000
namespace Go.Proofs.YtldbmnklnpfpfaaGreatDoor
open Go Go.Proofs Go.Proofs.Tryz
end Go.Proofs.YtldbmnklnpfpfaaGreatDoor
set_option maxRecDepth 100000
namespace Go.Proofs.YtldbmnklnpfpfaaGreatDoor
open Go Go.Proofs Go.Proofs.Tryz
end Go.Proofs.YtldbmnklnpfpfaaGreatDoor
set_option maxRecDepth 100000
namespace Go.Proofs.YtldbmnklnpfpfaaGreatDoor
open Go Go.Proofs Go.Proofs.Tryz Go.ChangeShapes Go.WideShapes Go.ChangeAt Go.RowKit
/-- the list that the row bears -/
def laidAll : List (String × DataW Unit) := [("math/bits.deBruijn32tab", Rows.laid_math_bits_deBruijn32tab), ("math/bits.deBruijn64tab", Rows.laid_math_bits_deBruijn64tab), ("internal/strconv.uint64pow10", Rows.laid_internal_strconv_uint64pow10), ("unicode/utf8.acceptRanges", Rows.laid_unicode_utf8_acceptRanges), ("strconv.ErrRange", Rows.laid_strconv_ErrRange), ("strconv.ErrSyntax", Rows.laid_strconv_ErrSyntax), ("unicode.White_Space", Rows.laid_unicode_White_Space), ("strings.asciiSpace", Rows.laid_strings_asciiSpace), ("unicode/utf8.first", Rows.laid_unicode_utf8_first)]
theorem Ni : prog.globalNamed "internal/strconv.uint64pow10" = some 5 := by kernel_rfl
theorem OG:(prog.globals[5]?).map (·.type)=some 157:=by kernel_rfl
theorem OA:prog.cellsOf 157=20:=by kernel_rfl
theorem M7:prog.cellsOf 142=1:=by kernel_rfl
theorem Nk : prog.globalNamed "strings.asciiSpace" = some 0 := by kernel_rfl
theorem OI:(prog.globals[0]?).map (·.type)=some 66:=by kernel_rfl
theorem OB:prog.cellsOf 66=256:=by kernel_rfl
theorem M8:prog.cellsOf 5=1:=by kernel_rfl
theorem Nl : prog.globalNamed "strconv.ErrSyntax" = some 6 := by kernel_rfl
theorem OJ:(prog.globals[6]?).map (·.type)=some 75:=by kernel_rfl
theorem Nj : prog.globalNamed "strconv.ErrRange" = some 7 := by kernel_rfl
theorem OH:(prog.globals[7]?).map (·.type)=some 75:=by kernel_rfl
theorem Nf:prog.cellsOf 171=1:=by kernel_rfl
theorem Ng:prog.cellsOf 9=1:=by kernel_rfl
theorem Me : "*" ++ "errors.errorString" = "*errors.errorString" := by decide
theorem KW (u : TypeId)(h : prog.typeName? 3 u = some "*errors.errorString") : u = 169 :=
 typeName_ptr_named (nm := "errors.errorString") (by rw [Me]; kernel_rfl) (by kernel_rfl) (by decide) u (by rw [Me]; exact h)
theorem uw {W:World}{n:String}{g:Nat}{cs:Array Value}(J:prog.globalNamed n=some g)(h:W.var? prog n=some cs):∃ t fz,W.heap[g]?=some (.cells cs t fz):=by
 unfold World.var? at h;rw[J]at h;simp only[Option.bind]at h;cases I:W.heap[g]? with
 | none=>rw[I]at h;cases h
 | some o=>
   rw[I]at h;cases o with
   | cells c t z=>simp only[od]at h;subst h;exact⟨t,z,rfl⟩
   | _=>cases h
theorem Ix {w:World}{g:Nat}{m:Int}(h:w.cell? ⟨g,0,none⟩=some (.int .i64 m)):∃ c t fz,w.heap[g]?=some (.cells c t fz)/\∃ m:Int,c[0]?=some (.int .i64 m):=by
 unfold World.cell? at h;split at h
 ·rename_i c t fz I;exact⟨_,_,_,I,m,by simpa using h⟩
 ·cases h
theorem HU {W:World}(h:laidMetH prog laidAll W)(hs:W.ShapedOpen prog):GlobIs W:=by
 rw [MakeChecks.laidMetH_plain _ _ _ (by kernel_rfl)] at h;have O : laidMet prog (("internal/strconv.uint64pow10", Lib.tabData .u64 Lib.pow10Tab) :: _) W := h.tail.tail;have U:=Lib.tabIs_of_head Ni OG underlying157 underlying142 M7 OA O;have J:=O.tail.tail;have Y : laidMet prog (("strings.asciiSpace", Lib.tabData .u8 Lib.asciiSpaceTab) :: _) W := J.tail.tail.tail;have V:=Lib.tabIs_of_head Nk OI underlying66 underlying5 M8 OB Y;obtain ⟨a0,s0,v0,_⟩:=laid_sentinel J Nj OH underlying75 KW underlying169 underlying171 rfl rfl underlying9 Nf Ng;obtain ⟨a1,s1,v1,_⟩:=laid_sentinel J.tail Nl OJ underlying75 KW underlying169 underlying171 rfl rfl underlying9 Nf Ng;unfold Lib.TabIs at U V;refine ⟨λx I=>?_,λx I=>?_⟩
 ·simp only[glob,oH,mu,or_false]at I;subst I;exact uw Ni U
 ·simp only[CS,oH,mu,or_false]at I;rcases I with rfl | rfl | rfl | rfl
  ·obtain⟨t,fz,e⟩:=uw Nk V;exact⟨_,t,fz,e,rfl⟩
  ·obtain⟨t,fz,e⟩:=uw Nl v1;exact⟨_,t,fz,e,_,rfl,.inr ⟨_,_,rfl⟩⟩
  ·obtain⟨t,fz,e⟩:=uw Nj v0;exact⟨_,t,fz,e,_,rfl,.inr ⟨_,_,rfl⟩⟩
  ·obtain⟨m,Z⟩:=cell_of_shapedOpen_int hs (mH (by kernel_rfl)) (zero:=#[.int .i64 0]) (t:=3) (by kernel_rfl) rfl (by kernel_rfl) (by kernel_rfl) underlying3;exact Ix Z
theorem Lt {W:World}(h:laidMetH prog laidAll W)(hs:W.ShapedOpen prog):Avl avG W []:=⟨λb I=>(HU h hs).lt I,HU h hs,λb I=>I,λb I=>by simp,λx J=>by simp⟩
noncomputable def L4 (os:Os):World:=World.laidAll prog os laidAll
theorem I7 (os:Os)(args:Array Value):laidMetH prog laidAll ((L4 os).forCall (λ_ _=>0) ⟨#[],args,[]⟩).memory:=by rw[MakeChecks.laidMetH_plain _ _ _ (by kernel_rfl)];exact laidMet_laidAll args (by kernel_rfl) (by kernel_rfl)
open Go Go.Proofs Go.Proofs.Tryz Go.ChangeMaps Go.ChangeShapes Go.WideShapes Go.ChangeAt Go.RowKit
set_option maxHeartbeats 1600000 in
set_option maxRecDepth 100000 in
theorem vM (os:Os) (J:os.Started) (H:Type) (enc:TypeId × Value->H) :
  ReturnsInHanded {} checked os 3 .any (λw args=>(Rows.fnExactParseTermSpec.pre enc prog Tryz.f3 [] false w args/\laidMetH prog laidAll w)/\sizedMet enc prog Tryz.f3 (OpenSpec.ofChange Rows.fnExactParseTermSpec) false w args)
   (Rows.fnExactParseTermSpec.post enc prog Tryz.f3 false true false false):=by
 refine returnsInHanded_of_calls (C:=checked) Dm J (by kernel_rfl)
  (ChangeSpec.witness_shaped (enc:=enc) (C:=checked) (os:=os) (f:=3) (fn:=Tryz.f3) (s:=Rows.fnExactParseTermSpec) (conds:=[]) (apart:=false) (X:=λw _=>laidMetH prog laidAll w) false (L4 os) #[.string ⟨#[]⟩] 8 rfl (World.shaped_of_ZipB (by kernel_rfl) (by kernel_rfl)) (by kernel_rfl) (by kernel_rfl) (by kernel_rfl) (I7 os _)) ?_
 intro w O i _ Y _ ac Z _;obtain⟨_,_,_,ae,aa,_,_,_,_,I⟩:=ac;obtain rfl:ae=Tryz.f3:=nD (aa.symm.trans func3);obtain⟨⟨⟨ds,gs,ab,hw,_⟩,hx⟩,hz⟩:=Z;have hW:=DataW.Whole.of_heap (w':=w.forCall O i) (by rfl) hw;have hL:laidMetH prog laidAll (w.forCall O i):=hx.of_heap (by rfl);have aj:=hz.weights hw;clear hw hx hz;generalize w.forCall O i=W at I hW hL Y;generalize w.heap.size=base at I;generalize i.args=args at I hW;have U:∀(j:Nat) t v,Tryz.f3.params[j]?=some t->args[j]?=some v->Value.okWide prog W .any base t v:=I;refine(?_:Calls checked.prog 3 args W λe W'=>∃ v,e=.returned v/\Rows.fnExactParseTermSpec.post enc checked.prog Tryz.f3 false true false false W args v W').mono λe W' ⟨v,he,hp⟩=>(by subst he;exact ChangeSpec.post_blind hp)
 have ah:=hW;obtain⟨p,q,ai,hV,rfl,ak,_⟩:=hW;have hA:DataW.TrodAll enc prog W 0 (λ_=>true) true Tryz.f3.params.toList args.toList ds p:=ai;rw[params3]at hA U;obtain⟨v0,d0,rfl,rfl,h0⟩:=trodAll_one hA;obtain⟨rfl,rfl⟩:=trodVars_none hV;obtain⟨m0,rfl,rfl,rfl,al⟩:=open_string underlying9 (U 0 9 v0 rfl rfl) h0;have hc:=(CW m0 W.heap.size).h avG W rfl (Lt hL Y) (λp hp=>by simp only[oH,mu,or_false]at hp;subst hp;exact⟨trivial,rfl⟩);have V:([PV.str m0].map (PV.val [])).toArray=#[.string m0]:=by
  simp only[nE,mc]
  try rfl
 rw[V]at hc;refine hc.mono λe W' hf=>?_;exact Hr OE full (by rw[params3];decide) rfl (by kernel_rfl) underlying4 rfl ah (LR hf)
theorem tG:Rows.FnExactParseTermSaid:=
 OpenClaim.holds_of_wide 3 Tryz.f3 rfl rfl rfl rfl rfl rfl rfl ⟨rfl,rfl,rfl,rfl,rfl⟩ rfl rfl rfl rfl rfl (by kernel_rfl) func3 (by kernel_rfl)
  (mH (by kernel_rfl)) (by unfold Func.isWrapper;first | (rw[if_pos (by decide +kernel)];kernel_rfl) | (rw[if_neg (by decide +kernel)];exact⟨rfl,rfl⟩))
  (λos I H enc _=>vM os I H enc)
theorem fnExactParseTerm_holds:Rows.FnExactParseTermCardSaid:=
 Claim7.holds_tied_plain_at .later [] [.data,.data,.data,.data,.sentinel,.sentinel,.listed,.data,.pinned] true Rows.fnExactParseTermCard.stood.harness true
  tG (fun _ h=>by cases h) (by kernel_rfl) (fun _ h=>by cases h) fnExactParseTerm_row_tie rfl ⟨rfl,rfl⟩ (by kernel_rfl) rfl
  (fun f fn hf hfn=>by
   obtain rfl : f = 3 := nD ((show prog.funcNamed "loop.example/g00589/laws.FnExactParseTerm" = some 3 by kernel_rfl).symm.trans hf) |>.symm
   obtain rfl:fn=Tryz.f3:=(nD (func3.symm.trans hfn)).symm;exact⟨by kernel_rfl,fun j t ht=>by
    rw[params3]at ht;have hm:t∈[9]:=by simpa using Array.mem_of_getElem? ht
    have hall:([9].all fun u=>!prog.wantsStandIn u)=true:=by kernel_rfl
    exact(show prog.wantsStandIn t=false by simpa using oc.1 hall t hm)⟩)
  (by kernel_rfl)
#print axioms fnExactParseTerm_holds
end Go.Proofs.YtldbmnklnpfpfaaGreatDoor
