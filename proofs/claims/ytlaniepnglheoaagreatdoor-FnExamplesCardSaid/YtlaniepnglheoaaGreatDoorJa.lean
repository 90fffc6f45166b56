/- Ghost data (snapshots of values with the memory behind them), and what memory says of them. No program in sight. -/
import Derived.WalkKit
import Derived.Lib.ItoaNum
import Derived.Lib.Space
import Derived.Laws.BytesString
set_option linter.unusedVariables false
set_option linter.unusedSimpArgs false
namespace Go.Proofs.YtlaniepnglheoaaGreatDoor
open Go
theorem aA {p:Prop}(h:p:=by omega):p:=h
theorem aB {p:Prop}(h:p:=by simp):p:=h
theorem aD {p:Prop}(h:p:=by decide):p:=h
theorem aE {p:Prop}(h:p:=by assumption):p:=h
theorem aF {p:Prop}(h:p:=by simp;omega):p:=h
abbrev aG:=ByteArray
abbrev aH:=Option Addr
abbrev aI:=List Nat
abbrev aJ:=List Value
abbrev aK:=TypeId
abbrev aL:=FuncId
abbrev oA:=@List.getD_eq_getElem?_getD
abbrev oB:=@List.mem_of_getElem?
abbrev oC:=@Nat.le_refl
abbrev oD:=@List.getElem?_eq_some_iff
abbrev oE:=@ByteArray.size_append
abbrev oF:=@List.getElem?_map
abbrev oG:=@List.length_append
abbrev oH:=@List.getElem?_eq_getElem
abbrev oI:=@Int.toNat_natCast
abbrev oJ:=@List.length_cons
abbrev oK:=@List.mem_cons
abbrev oL:=@Bool.and_eq_true
abbrev oM:=@List.mem_append
abbrev oN:=@List.length_nil
abbrev oO:=@Option.bind_some
abbrev oP:=@List.append_assoc
abbrev oQ:=@List.getElem?_append_left
abbrev oR:=@Nat.le_trans
abbrev oS:=@List.mem_iff_getElem?
abbrev oT:=@List.mem_map
abbrev oU:=@List.getElem?_append_right
abbrev oV:=@List.eq_nil_of_length_eq_zero
abbrev oW:=@Array.getElem?_eq_some_iff
abbrev oX:=@Option.map_some
abbrev oY:=@congrArg
abbrev oZ:=@Option.some.inj
abbrev oa:=@List.nil_append
abbrev ob:=@List.all_eq_true
abbrev oc:=@List.getElem?_eq_none
abbrev od:=@Option.some.injEq
abbrev oe:=@Option.bind_eq_some_iff
abbrev oh:=@decide_eq_true_eq
abbrev oi:=@List.mem_singleton
abbrev ol:=@Nat.mul_le_mul_right
abbrev om:=@List.getElem?_take
abbrev oq:=@List.cons_append
abbrev ou:=@List.mem_of_mem_take
abbrev o3:=@List.take_of_length_le
abbrev o5:=@List.mem_append_left
abbrev o6:=@Array.getElem?_eq_getElem
abbrev o7:=@Nat.lt_of_lt_of_le
abbrev o8:=@List.append_nil
abbrev o9:=@List.map_cons
abbrev nA:=@Option.getD_some
abbrev nB:=@Array.mem_toList_iff
abbrev nC:=@Array.getD_eq_getD_getElem?
abbrev nD:=@List.getElem?_set_self
abbrev nE:=@List.length_map
abbrev nF:=@List.map_congr_left
abbrev nG:=@List.mem_of_mem_drop
abbrev nH:=@List.getElem?_set_ne
abbrev nI:=@Nat.zero_add
abbrev nJ:=@Nat.add_mul
abbrev nK:=@Nat.eq_of_beq_eq_true
abbrev nL:=@List.ext_getElem?
abbrev nM:=@Bool.not_eq_true'
abbrev nN:=@Option.map_eq_some_iff
abbrev nO:=@List.length_take
abbrev nP:=@List.not_mem_nil
abbrev nQ:=@List.mem_or_eq_of_mem_set
abbrev nR:=@Array.getElem?_toList
abbrev nS:=@List.mem_append_right
abbrev nT:=@List.getElem?_drop
abbrev nU:=@List.getElem?_set
abbrev nV:=@List.nodup_append
abbrev nW:=@List.mem_cons_self
abbrev nX:=@decide_eq_false
abbrev nY:=@Array.length_toList
abbrev nZ:=@List.eq_of_mem_replicate
abbrev na:=@List.eq_nil_iff_forall_not_mem
abbrev nc:=@Array.toList_inj
abbrev nf:=@List.length_set
abbrev nh:=@decide_eq_true
abbrev ni:=@if_false
abbrev nj:=@List.mem_cons_of_mem
abbrev nk:=@List.mem_filterMap
abbrev nl:=@decide_eq_true_iff
abbrev np:=@List.take_append_drop
abbrev nq:=@List.getElem?_cons_succ
abbrev nu:=@Int.tmod_eq_emod_of_nonneg
abbrev nw:=@decide_eq_false_iff_not
abbrev ny:=@List.size_toArray
abbrev mA:=@List.nodup_cons
abbrev mB:=@Bool.or_eq_true
abbrev mC:=@Bool.eq_iff_iff
abbrev mD:=@List.filterMap_cons
abbrev mE:=@List.length_singleton
abbrev mF:=@Bool.false_eq_true
abbrev mG:=@beq_iff_eq
abbrev mH:=@Nat.pow_le_pow_right
abbrev mI:=@if_true
abbrev mJ:=@List.mem_flatMap
abbrev mK:=@List.getElem?_eq_none_iff
abbrev mL:=@List.getD_cons_zero
abbrev mM:=@List.mem_filter
abbrev mN:=@List.getElem_mem
abbrev mO:=@List.map_map
abbrev mP:=@not_true_eq_false
abbrev mQ:=@List.drop_eq_nil_of_le
abbrev mR:=@List.nodup_nil
abbrev mS:=@Decidable.not_not
abbrev mT:=@ByteArray.size_extract
abbrev mU:=@List.length_replicate
abbrev mV:=@List.length_filter_le
abbrev mW:=@Array.size_append
abbrev mX:=@Option.map_none
abbrev mY:=@Nat.add_zero
abbrev mZ:=@Nat.le_of_succ_le_succ
abbrev ma:=@List.length_drop
abbrev mb:=@List.mem_reverse
abbrev mc:=@forall_eq_or_imp
abbrev md:=@Nat.eq_zero_or_pos
abbrev me:=@Option.isSome_none
abbrev mf:=@List.set_cons_zero
abbrev mg:=@List.append_of_mem
abbrev mi:=@Option.isSome_some
abbrev mj:=@Nat.le_of_ble_eq_true
abbrev ml:=@List.drop_eq_getElem_cons
abbrev mm:=@List.map_append
abbrev mn:=@or_false
abbrev mo:=@Nat.pow_succ
abbrev mq:=@Option.isSome_iff_exists
abbrev mr:=@List.getD_cons_succ
abbrev ms:=@List.length_eq_zero_iff
abbrev mt:=@List.getElem?_replicate
abbrev mu:=@Nat.one_mul
abbrev mv:=@List.take_append_of_le_length
abbrev mw:=@List.set_cons_succ
abbrev my:=@Nat.add_assoc
abbrev mz:=@List.length_filter_lt_length_iff_exists
abbrev m7:=@List.getElem?_append
abbrev lA:=@List.take_zero
abbrev lB:=@Nat.zero_mul
abbrev lC:=@List.map_nil
abbrev lD:=@List.length_pos_iff
abbrev lE:=@Nat.mul_le_mul_left
abbrev lF:=@List.set_eq_of_length_le
abbrev lG:=@Bool.not_true
abbrev lH:=@Prod.mk.injEq
abbrev lI:=@List.getElem?_cons_zero
abbrev lJ:=@Nat.le_mul_of_pos_right
abbrev lK:=@List.set_eq_take_append_cons_drop
abbrev lL:=@Iff.rfl
abbrev lM:=@Bool.and_false
abbrev lN:=@of_decide_eq_true
abbrev lO:=@Bool.not_false
abbrev lP:=@ByteArray.append_assoc
abbrev lQ:=@List.getElem?_toArray
abbrev lR:=@List.set_append_right
abbrev lS:=@List.singleton_append
abbrev lT:=@Nat.lt_of_not_le
abbrev lU:=@List.any_cons
abbrev lV:=@List.map_id
inductive D where
 | lit (x:Value)
 | ag (cs:List D)
 | sl (a:aH) (z:Nat) (es:List D) (cap:Nat)
 | pt (ad:Addr) (z:Nat) (x:D)
 | fn (f:aL) (caps:List D)
 | mp (b:Nat) (es:Array MapEntry) (clock:Nat)
abbrev aM:=List D
instance:Inhabited D:=⟨.lit undef⟩
mutual
def D.cv:D->Value
 | .lit x=>x
 | .sl a _ es cap=>.slice a es.length cap
 | .ag _=>undef
 | .pt ad _ _=>.pointer (some ad)
 | .fn f caps=>.func (.func f) #[] (D.cvL caps).toArray
 | .mp b _ _=>.map (some b)
def D.cvL:aM->aJ
 | []=>[]
 | d::ds=>d.cv::D.cvL ds
end
theorem D.cvL_eq:∀ l:aM,D.cvL l=l.map D.cv
 | []=>rfl
 | d::ds=>by simp only[D.cvL,o9,D.cvL_eq ds]
def D.cells:D->aM
 | .ag cs=>cs
 | .lit x=>[.lit x]
 | .sl a z es cap=>[.sl a z es cap]
 | .pt ad z x=>[.pt ad z x]
 | .fn f caps=>[.fn f caps]
 | .mp b es c=>[.mp b es c]
def D.val (d:D):Value:=match d with
 | .ag cs=>.agg (cs.map D.cv).toArray
 | d=>d.cv
def D.isCell:D->Prop
 | .ag _=>False
 | .lit x=>x.oneCell'=true
 | .sl ..=>True
 | .pt ..=>True
 | .fn ..=>True
 | .mp ..=>True
def D.cell (x:D)(i:Nat):D:=x.cells.getD i default
def D.sub (x:D)(o n:Nat):D:=.ag ((x.cells.drop o).take n)
def IsAg n(x:D):=∃ cs,x=.ag cs/\cs.length=n/\∀ c∈cs,c.isCell
def ez (z:Nat):Nat:=if z=0 then 1 else z
def eOk z e:=if z=0 then e.isCell else IsAg z e
def yM (es:aM):aM:=es.flatMap D.cells
mutual
def D.foot:D->aI
 | .lit _=>[]
 | .ag cs=>zC cs
 | .sl none _ es _=>zC es
 | .sl (some ad) _ es _=>if es.isEmpty then []else ad.block::zC es
 | .pt ad _ x=>ad.block::x.foot
 | .fn _ caps=>zC caps
 | .mp b _ _=>[b]
def zC:aM->aI
 | []=>[]
 | d::ds=>d.foot++zC ds
end
def Row (w:World)(ad:Addr)(cs:aM):Prop:=
 cs=[]\/∃ c t fz,w.heap[ad.block]?=some (.cells c t fz)/\∀ i u,cs[i]?=some u->c[ad.off+i]?=some u.cv
abbrev z00:Nat × Nat:=(0,0)
inductive Holds (w:World):D->Prop
 | lit {x:Value}:Holds w (.lit x)
 | ag {cs:aM}:(∀ c∈cs,Holds w c)->Holds w (.ag cs)
 | nil {z:Nat}:Holds w (.sl none z [] 0)
 | sl {ad:Addr} {z:Nat} {es:aM} {cap:Nat}:(es≠[]->ad.spot=none)->es.length<=cap->(∀ e∈es,eOk z e)->(∀ e∈es,Holds w e)->Row w ad (yM es)->Holds w (.sl (some ad) z es cap)
 | pt {ad:Addr} {z:Nat} {x:D}:ad.spot=none->eOk z x->Row w ad x.cells->Holds w x->Holds w (.pt ad z x)
 | fn {f:aL} {caps:aM}:(∀ c∈caps,c.isCell)->(∀ c∈caps,Holds w c)->Holds w (.fn f caps)
 | mp {b:Nat} {es:Array MapEntry} {c:Nat}:w.heap[b]?=some (.map es c)->Holds w (.mp b es c)
theorem zJ {b ds}:b∈zC ds↔∃ d∈ds,b∈d.foot:=by
 induction ds with
 | nil=>simp[zC]
 | cons d ds I=>simp[zC,I]
theorem zF a b:zC (a++b)=zC a++zC b:=by
 induction a with
 | nil=>simp[zC]
 | cons d ds I=>simp[zC,I]
theorem wA a b:yM (a++b)=yM a++yM b:=by simp[yM]
theorem uZ a b:yM (a::b)=a.cells++yM b:=by simp[yM]
theorem xS {z e}(h:eOk z e):e.cells.length=ez z:=by
 unfold eOk at h;unfold ez;split at h
 ·rename_i I;simp only[I,mI];cases e<;>simp[D.cells,D.isCell]at h ⊢
 ·rename_i I;simp only[I,ni];obtain⟨cs,rfl,hl,_⟩:=h;exact hl
theorem D7 {z e}(h:eOk z e):∀ c∈e.cells,c.isCell:=by
 unfold eOk at h;split at h
 ·cases e<;>simp[D.cells,D.isCell]at h ⊢<;>exact h
 ·obtain⟨cs,rfl,_,h⟩:=h;exact h
theorem zU {z es}(h:∀ e∈es,eOk z e):(yM es).length=es.length*ez z:=by
 induction es with
 | nil=>simp[yM]
 | cons e es I=>rw[uZ,oG,xS (h e aB),I (λx J=>h x (by simp[J])),oJ];rw[nJ];omega
theorem Oe {z es}(h:∀ e∈es,eOk z e):∀ c∈yM es,c.isCell:=by intro c hc;obtain⟨e,J,I⟩:=mJ.1 hc;exact D7 (h e J) c I
theorem AY {z es}(h:∀ e∈es,eOk z e){j e}(I:es[j]?=some e){i u}(hi:e.cells[i]?=some u) :
  (yM es)[j*ez z+i]?=some u:=by
 induction es generalizing j with
 | nil=>simp at I
 | cons x es U=>
   rw[uZ];have O:=xS (h x aB);cases j with
   | zero=>simp at I;subst I;have J:i<x.cells.length:=(oD.1 hi).1;rw[lB,nI,oQ J];exact hi
   | succ j=>simp at I;rw[oU (by rw[O,nJ];omega),O];rw[show(j+1)*ez z+i - ez z=j*ez z+i by rw[nJ];omega];exact U (λy Y=>h y (by simp[Y])) I
theorem xz {c:D}(h:c.isCell):c.cv.oneCell'=true:=by
 cases c<;>simp[D.isCell,D.cv,Value.oneCell']at h ⊢
 exact h
theorem Ey z:0<ez z:=by unfold ez;split<;>omega
theorem Row.mono {w w' ad cs}(h:Row w ad cs)(hb:cs≠[]->w'.heap[ad.block]?=w.heap[ad.block]?):Row w' ad cs:=by
 rcases h with h | ⟨c,t,fz,I,J⟩
 ·exact .inl h
 ·by_cases hc:cs=[]
  ·exact .inl hc
  ·exact .inr ⟨c,t,fz,(hb hc).trans I,J⟩
theorem X1 {es}(h:yM es≠[]):es≠[]:=by intro e;subst e;exact h rfl
theorem Holds.mono {w w' d}(h:Holds w d):(∀ b∈d.foot,w'.heap[b]?=w.heap[b]?)->Holds w' d:=by
 induction h with
 | lit=>intro _;exact .lit
 | ag _ I=>intro hb;refine .ag λc hc=>I c hc λb J=>hb b ?_;simp only[D.foot];exact zJ.2 ⟨c,hc,J⟩
 | nil=>intro _;exact .nil
 | @sl ad z es cap O Y h3 _ h5 I=>
   intro hb;by_cases U:es=[]
   ·subst U;exact .sl O Y aB aB (.inl rfl)
   ·have hf:(D.sl (some ad) z es cap).foot=ad.block::zC es:=by simp[D.foot,U]
    rw[hf]at hb;refine .sl O Y h3 (λe he=>I e he λb aa=>hb b ?_) (h5.mono λ_=>hb _ aB);exact nj _ (zJ.2 ⟨e,he,aa⟩)
 | pt O Y h3 _ I=>intro hb;simp only[D.foot]at hb;exact .pt O Y (h3.mono λ_=>hb _ aB) (I λb ab=>hb b (by simp[ab]))
 | fn O _ I=>intro hb;simp only[D.foot]at hb;exact .fn O λc hc=>I c hc λb J=>hb b (zJ.2 ⟨c,hc,J⟩)
 | mp h=>intro hb;exact .mp ((hb _ (by simp[D.foot])).trans h)
theorem Holds.lt {w d}(h:Holds w d):∀ b∈d.foot,b<w.heap.size:=by
 induction h with
 | lit=>simp[D.foot]
 | ag _ J=>intro b hb;simp only[D.foot]at hb;obtain⟨c,hc,I⟩:=zJ.1 hb;exact J c hc b I
 | nil=>simp[D.foot,zC]
 | mp h=>intro b hb;simp only[D.foot,oi]at hb;subst hb;exact(oW.1 h).1
 | @sl ad z es cap h1 h2 U _ Y J=>
   intro b hb;by_cases O:es=[]
   ·subst O;simp[D.foot]at hb
   ·have hf:(D.sl (some ad) z es cap).foot=ad.block::zC es:=by simp[D.foot,O]
    rw[hf]at hb;rcases oK.1 hb with rfl | hb
    ·rcases Y with Y | ⟨c,t,fz,h6,_⟩
     ·exfalso
      have:=zU U
      rw[Y]at this;have hp:=Ey z;have:0<es.length:=lD.2 O
      have:=Nat.mul_pos this hp
      simp at *;omega
     ·exact(oW.1 h6).1
    ·obtain⟨c,hc,I⟩:=zJ.1 hb;exact J c hc b I
 | @pt ad z x h1 h2 U _ J=>
   intro b hb;simp only[D.foot]at hb;rcases oK.1 hb with rfl | hb
   ·rcases U with U | ⟨c,t,fz,h6,_⟩
    ·exfalso;have h4:=xS h2
     have:=Ey z
     rw[U]at h4;simp at h4;omega
    ·exact(oW.1 h6).1
   ·exact J b hb
 | @fn f caps h1 _ J=>intro b hb;simp only[D.foot]at hb;obtain⟨c,hc,I⟩:=zJ.1 hb;exact J c hc b I
def Good w(live:Nat->Prop) d:=Holds w d/\∀ b∈d.foot,¬live b
theorem Good.elem {w live a z es cap}(h:Good w live (.sl a z es cap)){e}(I:e∈es):Good w live e:=by
 obtain⟨O,U⟩:=h;cases O with
 | nil=>simp at I
 | sl _ _ _ Y _=>
   refine⟨Y e I,λb hb=>U b ?_⟩;have J:es≠[]:=λh=>by subst h;simp at I
   simp[D.foot,J];exact .inr (zJ.2 ⟨e,I,hb⟩)
theorem Good.part {w live cs}(h:Good w live (.ag cs)){c}(hc:c∈cs):Good w live c:=by
 obtain⟨I,J⟩:=h;cases I with
 | ag h=>exact⟨h c hc,λb hb=>J b (by simp only[D.foot];exact zJ.2 ⟨c,hc,hb⟩)⟩
theorem Good.ag {w live cs}(h:∀ c∈cs,Good w live c):Good w live (.ag cs):=
 ⟨.ag λc hc=>(h c hc).1,λb hb=>by simp only[D.foot]at hb;obtain⟨c,hc,hb⟩:=zJ.1 hb;exact(h c hc).2 b hb⟩
theorem Good.lit {w live x}:Good w live (.lit x):=⟨.lit,by simp[D.foot]⟩
theorem Good.cells {w live d}(h:Good w live d):∀ c∈d.cells,Good w live c:=by
 cases d with
 | lit x=>simp[D.cells];exact h
 | ag cs=>exact λc hc=>h.part hc
 | sl a z es cap=>simp[D.cells];exact h
 | pt ad z x=>simp[D.cells];exact h
 | fn f caps=>simp[D.cells];exact h
 | mp b es c=>simp[D.cells];exact h
theorem Good.default {w:World}{live:Nat->Prop}:Good w live default:=Good.lit
theorem Good.cell {w live d}(h:Good w live d) i:Good w live (d.cell i):=by
 unfold D.cell;rw[oA];cases hc:d.cells[i]? with
 | none=>exact Good.default
 | some c=>exact h.cells c (oB hc)
theorem Good.sub {w live d}(h:Good w live d) o n:Good w live (d.sub o n):=
 Good.ag λc hc=>h.cells c (nG (ou hc))
theorem Good.mono {w w' live live' d}(h:Good w live d)(J:∀ b,b<w.heap.size->¬live b->w'.heap[b]?=w.heap[b]?)(hl:∀ b,b<w.heap.size->live' b->live b):Good w' live' d:=
 ⟨h.1.mono λb hb=>J b (h.1.lt b hb) (h.2 b hb),λb hb I=>h.2 b hb (hl b (h.1.lt b hb) I)⟩
set_option linter.unusedSectionVars false
inductive PV where
 | any
 | int (k:IntKind) (n:Int)
 | bool (v:Bool)
 | str (v:aG)
 | lit (x:Value)
 | sv (a:aH) (z:Nat) (es:aM) (cap:Nat)
 | d (x:D)
 | dc (x:D)
 | dg (n:Nat) (x:D)
 | pb (k z i o:Nat)
 | pd (ad:Addr) (z:Nat) (x:D)
 | sb (k z lo n c:Nat)
 | fn (f:aL) (caps:List PV)
 | pg (cs:List PV)
 | tp (l:List PV)
abbrev aN:=List PV
instance:Inhabited PV:=⟨.any⟩
abbrev Env:=List (Option Nat)
def Env.at (e:Env)(k:Nat):Option Nat:=e.getD k none
mutual
def PV.cv (e:Env):PV->Value
 | .any=>undef
 | .int k n=>.int k n
 | .bool v=>.bool v
 | .str v=>.string v
 | .lit x=>x
 | .sv a _ es cap=>.slice a es.length cap
 | .d x=>x.cv
 | .dc x=>x.cv
 | .dg _ _=>undef
 | .pb k z i o=>.pointer (some ⟨(e.at k).getD 0,i*ez z+o,none⟩)
 | .pd ad _ _=>.pointer (some ad)
 | .sb k z lo n c=>match e.at k with
   | none=>.slice none n c
   | some b=>.slice (some ⟨b,lo*ez z,none⟩) n c
 | .fn f caps=>.func (.func f) #[] (PV.cvs e caps).toArray
 | .pg _=>undef
 | .tp _=>undef
def PV.cvs (e:Env):aN->aJ
 | []=>[]
 | p::ps=>p.cv e::PV.cvs e ps
end
def PV.val1 (e:Env):PV->Value
 | .pg cs=>.agg (PV.cvs e cs).toArray
 | .d x=>x.val
 | .dg _ x=>x.val
 | p=>p.cv e
def PV.val (e:Env):PV->Value
 | .tp l=>.tuple (l.map (PV.val1 e)).toArray
 | p=>p.val1 e
mutual
def PV.refs:PV->aI
 | .pb k _ _ _=>[k]
 | .sb k _ _ _ _=>[k]
 | .fn _ caps=>PV.refsL caps
 | .pg cs=>PV.refsL cs
 | .tp l=>PV.refsL l
 | _=>[]
def PV.refsL:aN->aI
 | []=>[]
 | p::ps=>p.refs++PV.refsL ps
end
def PV.isC:PV->Prop
 | .any=>False
 | .pg _=>False
 | .tp _=>False
 | .dg _ _=>False
 | .d x=>x.isCell
 | .lit x=>x.oneCell'=true
 | _=>True
def PV.notAny:PV->Bool
 | .any=>false
 | _=>true
def PV.cellsL (cs:aN):Prop:=∀ p∈cs,p=.any\/p.isC
mutual
def PV.Ok (w:World) (live:Nat->Prop):PV->Prop
 | .lit x=>x.oneCell'=true
 | .sv a z es cap=>Good w live (.sl a z es cap)
 | .d x=>Good w live x
 | .dc x=>Good w live x/\x.isCell
 | .dg n x=>Good w live x/\IsAg n x
 | .pd ad z x=>Good w live x/\eOk z x/\ad.spot=none/\Row w ad x.cells/\¬live ad.block/\ad.block<w.heap.size
 | .fn _ caps=>PV.OkL w live caps
 | .pg cs=>PV.OkL w live cs/\∀ p∈cs,p.isC
 | .tp l=>PV.OkL w live l
 | _=>True
def PV.OkL (w:World) (live:Nat->Prop):aN->Prop
 | []=>True
 | p::ps=>p.Ok w live/\PV.OkL w live ps
end
theorem PV.OkL_iff {w live l}:PV.OkL w live l↔∀ p∈l,p.Ok w live:=by
 induction l with
 | nil=>simp[PV.OkL]
 | cons p ps I=>simp[PV.OkL,I]
theorem PV.refsL_mem {k l}:k∈PV.refsL l↔∃ p∈l,k∈p.refs:=by
 induction l with
 | nil=>simp[PV.refsL]
 | cons p ps I=>simp[PV.refsL,I]
theorem PV.cvs_eq {e l}:PV.cvs e l=l.map (PV.cv e):=by
 induction l with
 | nil=>rfl
 | cons p ps I=>simp[PV.cvs,I]
inductive Bx where
 | var (cs:aN)
 | vd (x:D) (n:Nat)
 | arr (t:aK) (z:Nat) (es:aM) (c:Nat)
 | gone
abbrev aO:=List Bx
instance:Inhabited Bx:=⟨.gone⟩
def Wc (c:Array Value)(i:Nat) e(p:PV):=p=.any\/c[i]?=some (p.cv e)
def Bx.Rel (w:World)(e:Env)(at_:Option Nat):Bx->Prop
 | .var cs=>∃ b c t,at_=some b/\w.heap[b]?=some (.cells c t (0,0))/\c.size=cs.length/\∀ i p,cs[i]?=some p->Wc c i e p
 | .vd x n=>∃ b c t,at_=some b/\w.heap[b]?=some (.cells c t (0,0))/\c.size=n/\IsAg n x/\∀(i:Nat) (u:D),x.cells[i]?=some u->c[i]?=some u.cv
 | .arr t z es n=>(at_=none/\es=[]/\n=0)\/∃ b c,at_=some b/\w.heap[b]?=some (.cells c t (0,0))/\n*ez z<=c.size/\es.length<=n/\n<=maxLen /\
  (∀ x∈es,eOk z x)/\∀(i:Nat) (u:D),(yM es)[i]?=some u->c[i]?=some u.cv
 | .gone=>True
def Bx.Ok (w:World)(live:Nat->Prop):Bx->Prop
 | .var cs=>PV.OkL w live cs/\PV.cellsL cs
 | .vd x _=>Good w live x
 | .arr _ _ es _=>∀ x∈es,Good w live x
 | .gone=>True
def Bx.refs:Bx->aI
 | .var cs=>PV.refsL cs
 | _=>[]
def Bx.isArr:Bx->Bool
 | .arr ..=>true
 | .gone=>true
 | _=>false
def Lives (pB:aI)(e:Env)(bx:aO) k b:=k∉pB/\e.at k=some b/\∃ B,bx[k]?=some B/\B≠.gone
def za (av:Nat->Prop) pB e bx b:=av b\/∃ k,Lives pB e bx k b
structure Mem (av:Nat->Prop) (pB:aI) (w:World) (e:Env) (bx:aO):Prop where
 el:e.length=bx.length
 br:∀ k B,bx[k]?=some B->k∉pB->B.Rel w e (e.at k)
 bo:∀(k:Nat) (B:Bx),bx[k]?=some B->k∉pB->B.Ok w (za av pB e bx)
 bf:∀(k:Nat) (B:Bx),bx[k]?=some B->k∉pB->∀ j∈B.refs,j∉pB/\j<bx.length
 inj:∀ k j b,Lives pB e bx k b->Lives pB e bx j b->k=j
structure KU (w0 w:World):Prop where
 os:w.os=w0.os
 out:w.output=w0.output
theorem KU.rfl {w}:KU w w:=⟨Eq.refl _,Eq.refl _⟩
theorem KU.trans {w0 w w'}(h:KU w0 w)(I:KU w w'):KU w0 w':=⟨I.os.trans h.os,I.out.trans h.out⟩
def Fz (z:Nat × Nat):Prop:=True
theorem fz0:Fz (0,0):=trivial
theorem Fz.of {z:Nat × Nat}(h:z=(0,0)):Fz z:=h ▸ fz0
structure Fram (w0:World) (e0:Env) (w:World):Prop where
 ku:KU w0 w
 size:w0.heap.size<=w.heap.size
 old:∀ b,b<w0.heap.size->some b∉e0->w.heap[b]?=w0.heap[b]?
 fz:∀(b:Nat) (c:Array Value) (t:aK) (z:Nat × Nat),(w0.heap.size<=b\/some b∈e0)->w.heap[b]?=some (.cells c t z)->Fz z
structure St where
 sl:aN
 bx:aO
 N:Nat
 pin:Option (List (Option Nat) × aI):=none
def St.pins (st:St):List (Option Nat):=match st.pin with
 | some (L,_)=>L
 | none=>[]
def glob:List (Nat × Array Value):=[(4,(Lib.pow10Tab.map λn=>Value.int .u64 n).toArray)]
def avG b:=∃ x∈glob,x.1=b
def Mn:List (Nat × (Array Value->Prop)):=[(0,λc=>c=(Lib.asciiSpaceTab.map λn=>Value.int .u8 n).toArray),(5,λc=>∃ v,c=#[v]/\(v=.nilIface\/∃ I J,v=.iface I J)),(6,λc=>∃ v,c=#[v]/\(v=.nilIface\/∃ I J,v=.iface I J))]
structure GlobIs (w:World):Prop where
 h:∀ x∈glob,∃ t fz,w.heap[x.1]?=some (.cells x.2 t fz)
 b:∀ x∈Mn,∃ c t fz,w.heap[x.1]?=some (.cells c t fz)/\x.2 c
theorem GlobIs.keep {w w'}(h:GlobIs w)(O:∀ b,avG b->w'.heap[b]?=w.heap[b]?)(hb:∀ x∈Mn,w'.heap[x.1]?=w.heap[x.1]?):GlobIs w':=⟨λx I=>by
 obtain⟨t,fz,J⟩:=h.h x I;exact⟨t,fz,(O x.1 ⟨x,I,rfl⟩).trans J⟩,λx I=>by
 obtain⟨c,t,fz,J,U⟩:=h.b x I;exact⟨c,t,fz,(hb x I).trans J,U⟩⟩
theorem GlobIs.ltb {w}(h:GlobIs w){x:Nat × (Array Value->Prop)}(I:x∈Mn):x.1<w.heap.size:=by obtain⟨c,t,fz,J,_⟩:=h.b x I;exact(oW.1 J).1
theorem GlobIs.lt {w}(h:GlobIs w){b}(hb:avG b):b<w.heap.size:=by obtain⟨x,I,rfl⟩:=hb;obtain⟨t,fz,J⟩:=h.h x I;exact(oW.1 J).1
structure Avl (av:Nat->Prop) (w0:World) (e0:Env):Prop where
 lt:∀ b,av b->b<w0.heap.size
 g:GlobIs w0
 ga:∀ b,avG b->av b
 ge:∀ b,avG b->some b∉e0
 gb:∀ x∈Mn,some x.1∉e0
class Dfs where
 on:Option (List Deferred)
structure Rel [Dfs] (av:Nat->Prop) (w0:World) (e0:Env) (pS pB:aI) (a:Act) (w:World) (e:Env) (st:St):Prop extends Mem av pB w e st.bx,Fram w0 e0 w where
 nd:a.defers=Dfs.on.getD []
 sz:st.sl.length<=a.tmps.size
 hN:st.N<=w.heap.size
 hs:∀(i:Nat) (p:PV),st.sl[i]?=some p->i∉pS->p=.any\/a.tmps.getD i undef=p.val e
 so:∀(i:Nat) (p:PV),st.sl[i]?=some p->i∉pS->p.Ok w (za av pB e st.bx)
 sr:∀(i:Nat) (p:PV),st.sl[i]?=some p->i∉pS->∀ k∈p.refs,k∉pB/\k<st.bx.length
 own:∀ k b,Lives pB e st.bx k b->w0.heap.size<=b\/(some b∈e0/\k<st.pins.length)
 avl:Avl av w0 e0
 avn:∀ k b,Lives pB e st.bx k b->¬av b
 pin:∀ k b,st.pins[k]?=some (some b)->e.at k=some b/\k∉pB
 pit:∀ L T,st.pin=some (L,T)->∀ x∈T,some x∈e0
theorem Rel.glob [Dfs]{av w0 w e0 e pS pB a st}(h:Rel av w0 e0 pS pB a w e st):GlobIs w:=
 h.avl.g.keep (λb hb=>h.old b (h.avl.lt b (h.avl.ga b hb)) (h.avl.ge b hb)) λx I=>h.old x.1 (h.avl.g.ltb I) (h.avl.gb x I)
theorem PV.Ok.mono {w w' live live'}(I:∀ b,b<w.heap.size->¬live b->w'.heap[b]?=w.heap[b]?)(J:w.heap.size<=w'.heap.size)(hl:∀ b,b<w.heap.size->live' b->live b):∀ p:PV,p.Ok w live->p.Ok w' live'
 | .sv a z es cap,h=>by simp only[PV.Ok]at h ⊢;exact h.mono I hl
 | .d x,h=>by simp only[PV.Ok]at h ⊢;exact h.mono I hl
 | .dc x,h=>by simp only[PV.Ok]at h ⊢;exact⟨h.1.mono I hl,h.2⟩
 | .dg n x,h=>by simp only[PV.Ok]at h ⊢;exact⟨h.1.mono I hl,h.2⟩
 | .pd ad z x,h=>by simp only[PV.Ok]at h ⊢;obtain⟨Y,h0,h2,h3,O,U⟩:=h;exact⟨Y.mono I hl,h0,h2,h3.mono λ_=>I _ U O,λh=>O (hl _ U h),aA⟩
 | .fn f caps,h=>by simp only[PV.Ok]at h ⊢;exact go caps h
 | .pg cs,h=>by simp only[PV.Ok]at h ⊢;exact⟨go cs h.1,h.2⟩
 | .tp l,h=>by simp only[PV.Ok]at h ⊢;exact go l h
 | .any,_=>trivial
 | .int ..,_=>trivial
 | .bool ..,_=>trivial
 | .str ..,_=>trivial
 | .lit x,h=>by simp only[PV.Ok]at h ⊢;exact h
 | .pb ..,_=>trivial
 | .sb ..,_=>trivial
 where go:∀ l:aN,PV.OkL w live l->PV.OkL w' live' l
 | [],_=>trivial
 | p::ps,h=>⟨PV.Ok.mono I J hl p h.1,go ps h.2⟩
theorem PV.OkL.mono {w w' live live'}(J:∀ b,b<w.heap.size->¬live b->w'.heap[b]?=w.heap[b]?)(I:w.heap.size<=w'.heap.size)(hl:∀ b,b<w.heap.size->live' b->live b) l(h:PV.OkL w live l):PV.OkL w' live' l:=
 PV.OkL_iff.2 λp O=>PV.Ok.mono J I hl p (PV.OkL_iff.1 h p O)
theorem Bx.Ok.mono {w w' live live'}(I:∀ b,b<w.heap.size->¬live b->w'.heap[b]?=w.heap[b]?)(J:w.heap.size<=w'.heap.size)(hl:∀ b,b<w.heap.size->live' b->live b){B:Bx}(h:B.Ok w live):B.Ok w' live':=by
 cases B with
 | var cs=>exact⟨PV.OkL.mono I J hl cs h.1,h.2⟩
 | vd x n=>exact Good.mono h I hl
 | arr t z es c=>exact λx O=>(h x O).mono I hl
 | gone=>trivial
theorem PV.cv_congr {e e'}:∀ p:PV,(∀ k∈p.refs,e'.at k=e.at k)->p.cv e'=p.cv e
 | .pb k z i o,h=>by simp[PV.cv,h k (by simp[PV.refs])]
 | .sb k z lo n c,h=>by simp[PV.cv,h k (by simp[PV.refs])]
 | .fn f caps,h=>by simp only[PV.cv];rw[go caps (by simpa [PV.refs]using h)]
 | .any,_=>rfl
 | .int ..,_=>rfl
 | .bool ..,_=>rfl
 | .str ..,_=>rfl
 | .lit ..,_=>rfl
 | .sv ..,_=>rfl
 | .d ..,_=>rfl
 | .dc ..,_=>rfl
 | .dg ..,_=>rfl
 | .pd ..,_=>rfl
 | .pg ..,_=>rfl
 | .tp ..,_=>rfl
 where go:∀ l:aN,(∀ k∈PV.refsL l,e'.at k=e.at k)->PV.cvs e' l=PV.cvs e l
 | [],_=>rfl
 | p::ps,h=>by simp only[PV.cvs];rw[PV.cv_congr p λk I=>h k (by simp[PV.refsL,I]),go ps λk I=>h k (by simp[PV.refsL,I])]
theorem PV.val1_congr {e e'}(p:PV)(h:∀ k∈p.refs,e'.at k=e.at k):p.val1 e'=p.val1 e:=by
 cases p with
 | pg cs=>simp only[PV.val1];rw[PV.cv_congr.go cs (by simpa [PV.refs]using h)]
 | d x=>rfl
 | dg n x=>rfl
 | _=>exact PV.cv_congr _ h
theorem PV.val_congr {e e'}(p:PV)(h:∀ k∈p.refs,e'.at k=e.at k):p.val e'=p.val e:=by
 cases p with
 | tp l=>simp only[PV.val];congr 2;exact nF λq I=>PV.val1_congr q λk J=>h k (by simp only[PV.refs];exact PV.refsL_mem.2 ⟨q,I,J⟩)
 | pg cs=>exact PV.val1_congr _ h
 | _=>exact PV.val1_congr _ h
theorem Bx.Rel.congr {w w' e e' at_}{B:Bx}(h:B.Rel w e at_)(U:∀ b,at_=some b->w'.heap[b]?=w.heap[b]?)(he:∀ k∈B.refs,e'.at k=e.at k):B.Rel w' e' at_:=by
 cases B with
 | var cs=>
   obtain⟨b,c,t,I,J,O,h4⟩:=h;refine⟨b,c,t,I,(U b I).trans J,O,λi p Y=>?_⟩;rcases h4 i p Y with h5 | h5
   ·exact .inl h5
   ·exact .inr (by rw[PV.cv_congr p λk hk=>he k (by simp only[Bx.refs];exact PV.refsL_mem.2 ⟨p,oB Y,hk⟩)];exact h5)
 | vd x n=>obtain⟨b,c,t,I,J,O⟩:=h;exact⟨b,c,t,I,(U b I).trans J,O⟩
 | arr t z es n=>
   rcases h with h | ⟨b,c,I,J,O⟩
   ·exact .inl h
   ·exact .inr ⟨b,c,I,(U b I).trans J,O⟩
 | gone=>exact True.intro
theorem Lives.lt {av pB w e bx}(h:Mem av pB w e bx){k b}(hl:Lives pB e bx k b):b<w.heap.size:=by
 obtain⟨U,Y,B,h3,h4⟩:=hl;have O:=h.br k B h3 U;rw[Y]at O;cases B with
 | var cs=>obtain⟨b',c,t,I,J,_⟩:=O;cases I;exact(oW.1 J).1
 | vd x n=>obtain⟨b',c,t,I,J,_⟩:=O;cases I;exact(oW.1 J).1
 | arr t z es n=>
   rcases O with⟨I,_⟩ | ⟨b',c,I,J,_⟩
   ·cases I
   ·cases I;exact(oW.1 J).1
 | gone=>exact absurd rfl h4
theorem Env.at_append_lt {e:Env}{k x}(h:k<e.length):Env.at (e++[x]) k=e.at k:=by simp[Env.at,oA,oQ h]
theorem Env.at_append_eq {e x}:Env.at (e++[x]) e.length=x:=by simp[Env.at,oA]
theorem Env.at_set_ne {e:Env}{k j x}(h:k≠j):Env.at (e.set j x) k=e.at k:=by simp[Env.at,oA,nH (Ne.symm h)]
theorem Env.at_set_eq {e:Env}{k x}(h:k<e.length):Env.at (e.set k x) k=x:=by simp[Env.at,oA,h]
theorem Env.at_ge {e:Env}{k}(h:e.length<=k):e.at k=none:=by simp[Env.at,oA,oc h]
def kz (P:Program)(t:aK):Option Nat:=
 match P.info? t,P.underlying t with
 | some i,some (.struct _)=>if i.size=0 then none else some i.size
 | some _,some (.array ..)=>none
 | some i,some _=>if i.size=1 then some 0 else none
 | _,_=>none
def zsh (P:Program):Nat->aK->aI
 | 0,_=>[]
 | n+1,t=>match P.underlying t with
   | some (.struct fs)=>fs.toList.flatMap λf=>zsh P n f.type
   | some (.slice e)=>[(kz P e).getD 0]
   | _=>[0]
def uf (z:Nat):PV->PV
 | .sv a z' es c=>match Nat.beq z' 1000003 with
   | true=>match a,es,c with
     | none,[],0=>.sv none z [] 0
     | a,es,c=>.sv a z' es c
   | false=>.sv a z' es c
 | p=>p
def BY:aI->aN->aN
 | z::I,p::ps=>uf z p::BY I ps
 | _,ps=>ps
def retag (P:Program)(t:aK)(p:PV):PV:=
 match p with
 | .pg cs=>.pg (BY (zsh P 8 t) cs)
 | p=>uf ((zsh P 1 t).getD 0 0) p
def u7:Value->PV
 | .int k n=>.int k n
 | .bool b=>.bool b
 | .string s=>.str s
 | .slice none 0 0=>.sv none 1000003 [] 0
 | .agg _=>.any
 | .tuple _=>.any
 | x=>.lit x
def RV:Value->PV
 | .agg cs=>if cs.toList.all (·.oneCell')then .pg (cs.toList.map u7)else .any
 | v=>u7 v
def opd (sl:aN):Operand->PV
 | .tmp t=>sl.getD t .any
 | .const v=>RV v
 | .global _=>.any
 | .func f=>.fn f []
def frc (P:Program)(t:aK)(p:PV)(R:PV->Prop):Prop:=
 match p with
 | .dc x=>match P.underlying t with
   | some (.int k)=>∃ n,x=.lit (.int k n)/\R (.int k n)
   | some .bool=>∃ v,x=.lit (.bool v)/\R (.bool v)
   | some .string=>∃ v,x=.lit (.string v)/\R (.str v)
   | some (.slice el)=>match kz P el with
     | some z=>∃ a es cap,x=.sl a z es cap/\R (.sv a z es cap)
     | none=>False
   | _=>False
 | p=>R p
def Ug (p:PV)(R:Int->Prop):Prop:=
 match p with
 | .int _ n=>R n
 | .dc x=>∃ k n,x=.lit (.int k n)/\R n
 | _=>False
def Zt (p:PV)(R:Bool->Prop):Prop:=
 match p with
 | .bool v=>R v
 | .dc x=>∃ v,x=.lit (.bool v)/\R v
 | _=>False
def VR (p:Option PV)(I:Int)(R:Int->Prop):Prop:=
 match p with
 | none=>R I
 | some p=>Ug p R
def AX (P:Program)(t:aK)(f:Nat):Option (Nat × Nat):=
 match P.underlying t with
 | some (.struct fs)=>match fs[f]? with
   | some I=>match kz P I.type with
     | some z=>some (I.offset,z)
     | none=>none
   | none=>none
 | _=>none
def Z1 (op:BinOp)(k:IntKind)(a b:Int)(R:PV->Prop):Prop:=
 match op with
 | .add=>R (.int k (k.wrap (a+b)))
 | .sub=>R (.int k (k.wrap (a - b)))
 | .mul=>R (.int k (k.wrap (a*b)))
 | .quo=>b≠0/\R (.int k (k.wrap (a.tdiv b)))
 | .rem=>b≠0/\R (.int k (a.tmod b))
 | .and=>R (.int k (k.wrap (BitVec.ofInt k.bits a &&& BitVec.ofInt k.bits b).toNat))
 | .xor=>R (.int k (k.wrap (BitVec.ofInt k.bits a ^^^ BitVec.ofInt k.bits b).toNat))
 | .eql=>R (.bool (a==b))
 | .neq=>R (.bool (a != b))
 | .lss=>R (.bool (decide (a<b)))
 | .leq=>R (.bool (decide (a<=b)))
 | .gtr=>R (.bool (decide (a>b)))
 | .geq=>R (.bool (decide (a≥b)))
 | _=>False
def zAl (op:BinOp)(a b:aG)(R:PV->Prop):Prop:=
 match op with
 | .add=>a.size+b.size<=maxLen/\R (.str (a++b))
 | .eql=>R (.bool (a.toList==b.toList))
 | .neq=>R (.bool (!(a.toList==b.toList)))
 | .lss=>R (.bool (Op.bytesLess a.toList b.toList))
 | .leq=>R (.bool (Op.bytesLess a.toList b.toList||a.toList==b.toList))
 | .geq=>R (.bool (!Op.bytesLess a.toList b.toList))
 | _=>False
def U2 (op:BinOp)(a b:Bool)(R:PV->Prop):Prop:=
 match op with
 | .eql=>R (.bool (a==b))
 | .neq=>R (.bool (!(a==b)))
 | _=>False
def zAh (P:Program)(op:BinOp)(t:aK)(a b:aH)(I:Nat)(J:aM)(cb:Nat)(R:PV->Prop):Prop:=
 match Nat.beq I 1000003,P.underlying t with
 | true,some (.slice _)=>match b,J,cb with
   | none,[],0=>match op with
     | .eql=>R (.bool a.isNone)
     | .neq=>R (.bool (!a.isNone))
     | _=>False
   | _,_,_=>False
 | _,_=>False
def ZX (P:Program)(op:BinOp)(t:aK)(p q:PV)(R:PV->Prop):Prop:=
 match p,q with
 | .int k a,.int I b=>
   match op with
   | .shr=>0<=b/\R (.int k (a.fdiv (2 ^ (min b.toNat k.bits))))
   | .shl=>0<=b/\R (.int k (k.wrap (a*2 ^ (min b.toNat k.bits))))
   | _=>if k=I then Z1 op k a b R else False
 | .str a,.str b=>zAl op a b R
 | .bool a,.bool b=>match P.underlying t with
   | some .bool=>U2 op a b R
   | _=>False
 | .sv a _ _ _,.sv b J O cb=>zAh P op t a b J O cb R
 | _,_=>False
def pgR cs(R:PV->Prop):=if cs.all PV.notAny=true then R (.pg cs)else R .any
def O1 (z zz:Nat) (B:Bx) (i o:Nat) (R:PV->Prop):Prop:=
 match B with
 | .var cs=>match i with
   | 0 => if z=0 then(if o<cs.length then R (cs.getD o .any)else False)
          else if o+z<=cs.length then pgR ((cs.drop o).take z) R else False
   | _+1=>False
 | .vd x n=>match i with
   | 0 => if z=0 then(if o<n then R (.dc (x.cell o))else False)
          else if o=0/\z=n then R (.dg n x)else if o+z<=n then R (.dg z (x.sub o z))else False
   | _+1=>False
 | .arr _ z' es _=>if zz=z' then i<es.length /\
  (if z'=0 then(if z=0/\o=0 then R (.dc (es.getD i default))else False)
   else if z=0 then(if o<z' then R (.dc ((es.getD i default).cell o))else False)
   else if o=0/\z=z' then R (.dg z (es.getD i default))else if o+z<=z' then R (.dg z ((es.getD i default).sub o z))else False)else False
 | .gone=>False
def PV.isCap:PV->Bool
 | .pb ..=>true
 | .int ..=>true
 | .bool ..=>true
 | .str ..=>true
 | .sb ..=>true
 | .sv ..=>true
 | .fn ..=>true
 | .pd ..=>true
 | .dc ..=>true
 | .lit ..=>true
 | _=>false
def bytesOf (ns:List Int):aG:=ns.foldl (λr n=>r.push (UInt8.ofNat n.toNat)) ByteArray.empty
def Gg (rb:Nat->Option Bx)(p:PV)(R:PV->Prop):Prop:=
 match p with
 | .sv _ z es _=>match z with
   | 0=>∃ ns:List Int,es=ns.map (λn=>D.lit (.int .u8 n))/\R (.str (bytesOf ns))
   | _+1=>False
 | .sb k z lo n _=>match rb k with
   | some (.arr _ z' es _)=>match z,z',lo with
     | 0,0,0=>n<=es.length/\∃ ns:List Int,es.take n=ns.map (λn=>D.lit (.int .u8 n))/\R (.str (bytesOf ns))
     | _,_,_=>False
   | _=>False
 | _=>False
def loC (z:Nat)(l:Int)(c:Nat):Prop:=match z with
 | 0=>l<(c:Int)
 | _+1=>True
def loN (z c:Nat)(l:Int):Nat:=match z with
 | 0=>l.toNat
 | _+1=>if(c:Int)=l then 0 else l.toNat
theorem Vn {z c l}(I:0<=l)(hc:loC z l c):(c=l.toNat/\loN z c l=0)\/(c≠l.toNat/\loN z c l=l.toNat):=by
 cases z with
 | zero=>simp only[loC]at hc;exact .inr ⟨aA,rfl⟩
 | succ n=>
   by_cases h:(c:Int)=l
   ·exact .inl ⟨aA,by simp[loN,h]⟩
   ·exact .inr ⟨aA,by simp[loN,h]⟩
def ZL P t es c s(o:Option aG):=∀(w:World) (b:Nat),w.heap[b]?=some (.map es c)->(Instr.lookup t (.map (some b)) (.string s) true).run P w=.ok (.tuple #[.string (o.getD ByteArray.empty),.bool o.isSome]) w
def Cz (P:Program) (ρ:Operand->PV) (rb:Nat->Option Bx) (op:Op) (ty:aK) (R:PV->Prop):Prop:=
 match op with
 | .move x=>R (retag P ty (ρ x))
 | .assign x=>R (retag P ty (ρ x))
 | .pick c a b=>Zt (ρ c) λv=>if v=true then R (ρ a)else R (ρ b)
 | .load t x=>match kz P t with
   | none=>False
   | some z=>match ρ x with
     | .pb k zz i o=>match rb k with
       | some B=>O1 z zz B i o R
       | none=>False
     | .pd _ z' y=>if z'=z then R (if z=0 then .dc y else .dg z y)else False
     | _=>False
 | .nilCheck x=>match ρ x with
   | .pb k z i o=>R (.pb k z i o)
   | .pd ad z y=>R (.pd ad z y)
   | .fn f caps=>R (.fn f caps)
   | _=>False
 | .binOp op t x y O=>frc P t (ρ x) λp=>frc P O (ρ y) λq=>ZX P op t p q R
 | .unOp op t x=>match op with
   | .not=>frc P t (ρ x) λp=>match p with
     | .bool v=>R (.bool (!v))
     | _=>False
   | .neg=>frc P t (ρ x) λp=>match p with
     | .int k n=>R (.int k (k.wrap (0 - n)))
     | _=>False
   | _=>False
 | .convert s d x=>match P.underlying d with
   | some (.int k)=>match P.underlying s with
     | some (.int _)=>frc P s (ρ x) λp=>match p with
       | .int _ n=>R (.int k (k.wrap n))
       | _=>False
     | _=>False
   | some .string=>match P.underlying s with
     | some (.slice el)=>match kz P el,P.underlying el with
       | some 0,some (.int .u8)=>frc P s (ρ x) λp=>Gg rb p R
       | _,_=>False
     | _=>False
   | _=>False
 | .fieldAddr t x f=>match AX P t f with
   | none=>False
   | some (o,z)=>match ρ x with
     | .pb k z' i U=>R (.pb k z' i (U+o))
     | .pd ad n y=>if o+ez z<=n then R (.pd (ad.add o) z (if z=0 then y.cell o else y.sub o z))else False
     | _=>False
 | .indexAddr t x i=>match P.underlying t with
   | some (.slice el)=>match kz P el with
     | none=>False
     | some z=>Ug (ρ i) λn=>frc P t (ρ x) λp=>match p with
       | .sv a z' es _=>if z'=z then(0<=n/\n<(es.length:Int))/\R (.pd ((a.getD default).add (n.toNat*ez z)) z (es.getD n.toNat default))else False
       | .sb k z' lo m _=>match rb k with
         | some (.arr _ J es _)=>if z'=z/\J=z then(0<=n/\n<(m:Int)/\lo+n.toNat<es.length)/\R (.pb k z' (lo+n.toNat) 0)else False
         | _=>False
       | _=>False
   | _=>False
 | .index t x i=>match P.underlying t with
   | some .string=>Ug (ρ i) λn=>frc P t (ρ x) λp=>match p with
     | .str s=>(0<=n/\n<(s.size:Int))/\R (.int .u8 ((s.data.getD n.toNat 0).toNat:Int))
     | _=>False
   | _=>False
 | .slice t x lo hi Y=>match Y,P.underlying t with
   | none,some .string=>frc P t (ρ x) λp=>match p with
     | .str s=>VR (lo.map ρ) 0 λl=>VR (hi.map ρ) (s.size:Int) λh=>(0<=l/\l<=h/\h<=(s.size:Int))/\R (.str (s.extract l.toNat h.toNat))
     | _=>False
   | none,some (.slice el)=>match kz P el with
     | none=>False
     | some z=>frc P t (ρ x) λp=>match p with
       | .sv a z' es cap=>if z'=z then VR (lo.map ρ) 0 λl=>VR (hi.map ρ) (es.length:Int) λh=>(0<=l/\l<=h/\h<=(es.length:Int)) /\
        R (.sv (if(cap:Int)=l then a else a.map (·.add (l.toNat*ez z))) z ((es.take h.toNat).drop l.toNat) (cap - l.toNat))else False
       | .sb k z' I n c=>match lo with
         | none=>VR (hi.map ρ) (n:Int) λh=>(0<=h/\h<=(c:Int))/\R (.sb k z' I h.toNat c)
         | some y=>if z'=z then Ug (ρ y) λl=>VR (hi.map ρ) (n:Int) λh=>(0<=l/\l<=h/\h<=(c:Int)/\loC z l c)/\R (.sb k z' (I+loN z c l) (h.toNat - l.toNat) (c - l.toNat))else False
       | _=>False
   | _,_=>False
 | .field t x f=>match AX P t f with
   | none=>False
   | some (o,z)=>match ρ x with
     | .pg cs=>if z=0 then(if o<cs.length then R (cs.getD o .any)else False)else if o+z<=cs.length then pgR ((cs.drop o).take z) R else False
     | .dg n y=>if z=0 then(if o<n then R (.dc (y.cell o))else False)else if o+z<=n then R (.dg z (y.sub o z))else False
     | _=>False
 | .extract x i=>match ρ x with
   | .tp l=>match l[i]? with
     | some (.tp _)=>False
     | some p=>R p
     | none=>False
   | _=>False
 | .lookup t m x ok=>match ok,P.underlying t with
   | true,some (.map k _)=>frc P k (ρ x) λp=>match p,ρ m with
     | .str s,.dc y=>∃ b es c,y=.mp b es c/\∃ o:Option aG,ZL P t es c s o/\R (.tp [.str (o.getD ByteArray.empty),.bool o.isSome])
     | _,_=>False
   | _,_=>False
 | .makeFunc f first caps=>match f,first.toList with
   | .func f,[]=>if(caps.toList.map ρ).all PV.isCap=true then R (.fn f (caps.toList.map ρ))else False
   | _,_=>False
 | .call c=>match c.callee,c.args.toList,c.argTypes.toList with
   | .builtin .len,[x],[t]=>match P.underlying t with
     | some (.slice _)=>frc P t (ρ x) λp=>match p with
       | .sv _ _ es _=>R (.int .i64 (es.length:Int))
       | .sb _ _ _ n _=>R (.int .i64 (n:Int))
       | _=>False
     | some .string=>frc P t (ρ x) λp=>match p with
       | .str s=>R (.int .i64 (s.size:Int))
       | _=>False
     | _=>False
   | .builtin .max,[x,y],[s,t]=>frc P s (ρ x) λp=>frc P t (ρ y) λq=>match p,q with
     | .int k a,.int _ b=>R (.int k (if b>a then b else a))
     | _,_=>False
   | .builtin .min,[x,y],[s,t]=>frc P s (ρ x) λp=>frc P t (ρ y) λq=>match p,q with
     | .int k a,.int _ b=>R (.int k (if b<a then b else a))
     | _,_=>False
   | _,_,_=>False
 | _=>False
variable {P:Program}
theorem EH {t z}(h:kz P t=some z):∃ i,P.info? t=some i/\i.size=ez z:=by
 unfold kz at h;cases hi:P.info? t with
 | none=>simp[hi]at h
 | some i=>
   refine⟨i,rfl,?_⟩;simp only[hi]at h;unfold ez;split at h
   ·split at h
    ·cases h
    ·rename_i hs;cases h;simp_all
   ·cases h
   ·split at h
    ·rename_i hs;cases h;simp_all
    ·cases h
   ·cases h
theorem PC {t i}(h:P.info? t=some i) w:(sizeOf t).run P w=.ok i.size w:=by simp[sizeOf,typeInfo,h]
theorem vg {t z}(h:kz P t=some z) w:(sizeOf t).run P w=.ok (ez z) w:=by obtain⟨i,hi,hs⟩:=EH h;rw[PC hi,hs]
theorem K4 {t z}(h:kz P t=some z) w:(isAgg t).run P w=.ok (decide (z≠0)) w:=by
 unfold kz at h;cases hi:P.info? t with
 | none=>simp[hi]at h
 | some i=>
   cases I:P.underlying t with
   | none=>simp[hi,I]at h
   | some d=>
     simp only[hi,I]at h;unfold isAgg;rw[Sem.run_bind,run_underlying I w];cases d<;>simp at h ⊢
     case struct fs=>obtain⟨O,J⟩:=h;subst J;simp[O]
     all_goals(obtain⟨_,J⟩:=h;exact J.symm)
theorem sx {w:World}{b off c t}{fz:Nat × Nat}(h:w.heap[b]?=some (.cells c t fz)):w.cell? ⟨b,off,none⟩=c[off]?:=by simp[World.cell?,h]
theorem xr b o n:Addr.add ⟨b,o,none⟩ n=⟨b,o+n,none⟩:=by unfold Addr.add;split<;>simp_all
theorem vu {t}(h:kz P t=some 0){w ad v}(hc:w.cell? ad=some v):(loadVar t ad).run P w=.ok v w:=by simp[loadVar,K4 h,hc]
theorem qG {t z}(h:kz P t=some z)(I:z≠0){w ad}{cs:aJ}(hl:cs.length=z)(hc:∀ j v,cs[j]?=some v->w.cell? (ad.add j)=some v):(loadVar t ad).run P w=.ok (.agg cs.toArray) w:=by
 have J:=run_loadCells_list (P:=P) w ad cs hc;rw[hl]at J;have O:ez z=z:=by simp[ez,I]
 simp[loadVar,K4 h,I,vg h,O,J]
structure OpdOk (av:Nat->Prop) (a:Act) (w:World) (e:Env) (pB:aI) (bx:aO) (x:Operand) (p:PV):Prop where
 h:p=.any\/a.eval x=p.val e
 ok:p.Ok w (za av pB e bx)
 rf:∀ k∈p.refs,k∉pB/\k<bx.length
theorem O9 z p:uf z p=p\/(p=.sv none 0 [] 0/\uf z p=.sv none z [] 0)\/(∃ y,p=.sv none y [] 0/\uf z p=.sv none z [] 0):=by
 unfold uf;split
 ·split
  ·split
   ·exact .inr (.inr ⟨_,rfl,rfl⟩)
   ·exact .inl rfl
  ·exact .inl rfl
 ·exact .inl rfl
theorem Cj {w live z}:Good w live (.sl none z [] 0):=⟨.nil,by simp[D.foot,zC]⟩
theorem E6 z p w live e(h:p.Ok w live) :
  (uf z p).Ok w live/\(uf z p).refs=p.refs/\(uf z p).cv e=p.cv e/\(uf z p).val e=p.val e/\(uf z p=.any↔p=.any)/\((uf z p).isC↔p.isC):=by
 rcases O9 z p with I | ⟨rfl,I⟩ | ⟨y,rfl,I⟩
 ·rw[I];exact⟨h,rfl,rfl,rfl,lL,lL⟩
 ·rw[I];exact⟨Cj,rfl,rfl,rfl,aB,lL⟩
 ·rw[I];exact⟨Cj,rfl,rfl,rfl,aB,lL⟩
theorem AF I ps w live e(h:PV.OkL w live ps) :
  PV.OkL w live (BY I ps)/\PV.refsL (BY I ps)=PV.refsL ps/\PV.cvs e (BY I ps)=PV.cvs e ps/\((∀ p∈ps,p.isC)->∀ p∈BY I ps,p.isC):=by
 induction ps generalizing I with
 | nil=>cases I<;>exact⟨h,rfl,rfl,id⟩
 | cons p ps J=>
   cases I with
   | nil=>exact⟨h,rfl,rfl,id⟩
   | cons z I=>
     obtain⟨O,U⟩:=h;obtain⟨a1,a2,a3,_,a5,Y⟩:=E6 z p w live e O;obtain⟨b1,b2,b3,b4⟩:=J I U;refine⟨⟨a1,b1⟩,by simp[BY,PV.refsL,a2,b2],by simp[BY,PV.cvs,a3,b3],λhc q hq=>?_⟩;simp only[BY,oK]at hq;rcases hq with rfl | hq
     ·exact Y.2 (hc p aB)
     ·exact b4 (λx hx=>hc x (by simp[hx])) q hq
theorem Hc t p w live e(h:p.Ok w live) :
  (retag P t p).Ok w live/\(retag P t p).refs=p.refs/\(retag P t p).val e=p.val e/\(retag P t p=.any↔p=.any):=by
 have one:∀ z,(uf z p).Ok w live/\(uf z p).refs=p.refs/\(uf z p).val e=p.val e/\(uf z p=.any↔p=.any):=λz=>let⟨a,b,_,c,d,_⟩:=E6 z p w live e h;⟨a,b,c,d⟩
 cases p with
 | pg cs=>
   simp only[PV.Ok]at h;obtain⟨a,b,c,d⟩:=AF (zsh P 8 t) cs w live e h.1;refine⟨⟨a,d h.2⟩,?_,?_,by simp[retag]⟩
   ·simp[retag,PV.refs,b]
   ·simp[retag,PV.val,PV.val1,c]
 | _=>exact one ((zsh P 1 t).getD 0 0)
theorem zw x w live e:(u7 x).Ok w live/\(u7 x).refs=[]/\(u7 x=.any\/(u7 x).val e=x)/\(x.oneCell'=true->(u7 x).cv e=x/\(u7 x).isC):=by unfold u7;split<;>simp_all[PV.Ok,PV.refs,PV.val,PV.val1,PV.cv,PV.isC,Value.oneCell',Cj]
theorem Oy x w live e:(RV x).Ok w live/\(RV x).refs=[]/\(RV x=.any\/(RV x).val e=x):=by
 unfold RV;split
 ·rename_i cs;split
  ·rename_i I;rw[ob]at I;refine⟨⟨PV.OkL_iff.2 λp J=>?_,λp J=>?_⟩,?_,.inr ?_⟩
   ·obtain⟨v,_,rfl⟩:=oT.1 J;exact(zw v w live e).1
   ·obtain⟨v,U,rfl⟩:=oT.1 J;exact((zw v w live e).2.2.2 (I v U)).2
   ·have:∀ k,k∉PV.refsL (cs.toList.map u7):=λk O=>by obtain⟨p,J,O⟩:=PV.refsL_mem.1 O;obtain⟨v,_,rfl⟩:=oT.1 J;rw[(zw v w live e).2.1]at O;simp at O
    exact na.2 this
   ·simp only[PV.val,PV.val1,PV.cvs_eq,mO];have:cs.toList.map (PV.cv e∘u7)=cs.toList:=by
     conv=>rhs;rw[<-lV cs.toList]
     exact nF λv U=>((zw v w live e).2.2.2 (I v U)).1
    rw[this]
  ·exact⟨trivial,rfl,.inl rfl⟩
 ·exact⟨(zw x w live e).1,(zw x w live e).2.1,(zw x w live e).2.2.1⟩
def ValOk (av:Nat->Prop)(w:World)(e:Env)(pB:aI)(bx:aO)(v:Value)(p:PV):Prop:=
 (p=.any\/v=p.val e)/\p.Ok w (za av pB e bx)/\∀ k∈p.refs,k∉pB/\k<bx.length
section
variable {av:Nat->Prop} {w:World} {e:Env} {pB:aI} {bx:aO} {a:Act}
theorem OpdOk.valOk {x p}(h:OpdOk av a w e pB bx x p):ValOk av w e pB bx (a.eval x) p:=⟨h.h,h.ok,h.rf⟩
theorem DC {v}:ValOk av w e pB bx v .any:=⟨.inl rfl,trivial,by simp[PV.refs]⟩
theorem zo {k n}:ValOk av w e pB bx (.int k n) (.int k n):=⟨.inr rfl,trivial,by simp[PV.refs]⟩
theorem zq {b}:ValOk av w e pB bx (.bool b) (.bool b):=⟨.inr rfl,trivial,by simp[PV.refs]⟩
theorem Hx {s}:ValOk av w e pB bx (.string s) (.str s):=⟨.inr rfl,trivial,by simp[PV.refs]⟩
theorem DD {x}(h:Good w (za av pB e bx) x)(hc:x.isCell):ValOk av w e pB bx x.cv (.dc x):=⟨.inr rfl,⟨h,hc⟩,by simp[PV.refs]⟩
theorem Au {n x}(h:Good w (za av pB e bx) x)(hc:IsAg n x):ValOk av w e pB bx x.val (.dg n x):=⟨.inr rfl,⟨h,hc⟩,by simp[PV.refs]⟩
theorem ValOk.retag {v:Value}{p:PV}(h:ValOk av w e pB bx v p)(t:aK):ValOk av w e pB bx v (retag P t p):=by obtain⟨I,J,O⟩:=h;obtain⟨a1,a2,a3,a4⟩:=Hc (P:=P) t p w (za av pB e bx) e J;exact⟨I.imp a4.2 (λh=>h.trans a3.symm),a1,λk U=>O k (a2 ▸ U)⟩
theorem yK {t v p R}(J:ValOk av w e pB bx v p)(h:frc P t p R):∃ q,R q/\ValOk av w e pB bx v q/\(q=.any->p=.any):=by
 unfold frc at h;split at h
 ·rename_i x;obtain⟨I,O,U⟩:=J;have I:=I.resolve_left aB;simp only[PV.Ok]at O;split at h
  ·obtain⟨n,rfl,h⟩:=h;exact⟨_,h,⟨.inr (by rw[I];rfl),trivial,by simp[PV.refs]⟩,aB⟩
  ·obtain⟨n,rfl,h⟩:=h;exact⟨_,h,⟨.inr (by rw[I];rfl),trivial,by simp[PV.refs]⟩,aB⟩
  ·obtain⟨n,rfl,h⟩:=h;exact⟨_,h,⟨.inr (by rw[I];rfl),trivial,by simp[PV.refs]⟩,aB⟩
  ·split at h
   ·obtain⟨a,es,cap,rfl,h⟩:=h;exact⟨_,h,⟨.inr (by rw[I];rfl),O.1,by simp[PV.refs]⟩,aB⟩
   ·exact h.elim
  ·exact h.elim
 ·exact⟨_,h,J,id⟩
theorem tJ {v p R}(I:ValOk av w e pB bx v p)(h:Ug p R):∃ k n,R n/\v=.int k n:=by
 unfold Ug at h;split at h
 ·exact⟨_,_,h,by have:=I.1.resolve_left aB;exact this⟩
 ·obtain⟨k,n,rfl,h⟩:=h;exact⟨_,_,h,by have:=I.1.resolve_left aB;exact this⟩
 ·exact h.elim
theorem RJ {v p R}(I:ValOk av w e pB bx v p)(h:Zt p R):∃ n,R n/\v=.bool n:=by
 unfold Zt at h;split at h
 ·exact⟨_,h,by have:=I.1.resolve_left aB;exact this⟩
 ·obtain⟨n,rfl,h⟩:=h;exact⟨_,h,by have:=I.1.resolve_left aB;exact this⟩
 ·exact h.elim
theorem RO {op k x y R t}(h:Z1 op k x y R) :
  ∃ v q,(binOp op t (.int k x) (.int k y)).run P w=.ok v w/\R q/\ValOk av w e pB bx v q:=by
 cases op<;>simp only[Z1]at h
 case quo=>obtain⟨I,h⟩:=h;exact⟨_,_,by simp[binOp,Op.intDiv,I],h,zo⟩
 case rem=>obtain⟨I,h⟩:=h;exact⟨_,_,by simp[binOp,Op.intDiv,I],h,zo⟩
 case add=>exact⟨_,_,by simp[binOp,Op.intArith],h,zo⟩
 case sub=>exact⟨_,_,by simp[binOp,Op.intArith],h,zo⟩
 case mul=>exact⟨_,_,by simp[binOp,Op.intArith],h,zo⟩
 case and=>exact⟨_,_,by simp only[binOp,Op.intBits,ne_eq,mP,ni,Sem.run_pure],h,zo⟩
 case xor=>exact⟨_,_,by simp only[binOp,Op.intBits,ne_eq,mP,ni,Sem.run_pure],h,zo⟩
 case eql=>exact⟨_,_,by simp[binOp,Op.intCmp],h,zq⟩
 case neq=>exact⟨_,_,by simp only[binOp,Op.intCmp,ne_eq,mP,ni,Sem.run_pure],h,zq⟩
 case lss=>exact⟨_,_,by simp only[binOp,Op.intCmp,ne_eq,mP,ni,Sem.run_pure],h,zq⟩
 case leq=>exact⟨_,_,by simp only[binOp,Op.intCmp,ne_eq,mP,ni,Sem.run_pure],h,zq⟩
 case gtr=>exact⟨_,_,by simp only[binOp,Op.intCmp,ne_eq,mP,ni,Sem.run_pure],h,zq⟩
 case geq=>exact⟨_,_,by simp only[binOp,Op.intCmp,ne_eq,mP,ni,Sem.run_pure],h,zq⟩
theorem Q3 {op v1 v2 p q R t x y}(U:ValOk av w e pB bx v1 p)(Y:ValOk av w e pB bx v2 q)(h:ZX P op t p q R) :
  ∃ v r,(do eqGuard op t x y v1 v2;binOp op t v1 v2:Sem Value).run P w=.ok v w/\R r/\ValOk av w e pB bx v r:=by
 unfold ZX at h;split at h
 ·rename_i k a k' b;have e1:v1=.int k a:=U.1.resolve_left aB;have I:v2=.int k' b:=Y.1.resolve_left aB;subst e1;subst I;have J:eqGuard op t x y (.int k a) (.int k' b)=pure ():=by cases op<;>rfl
  rw[J];split at h
  ·obtain⟨O,h⟩:=h;exact⟨_,_,by simp[binOp,Op.shift,Int.not_lt.2 O],h,zo⟩
  ·obtain⟨O,h⟩:=h;exact⟨_,_,by simp[binOp,Op.shift,Int.not_lt.2 O],h,zo⟩
  ·split at h
   ·rename_i hk;subst hk;obtain⟨v,r,h3,h4⟩:=RO (P:=P) (w:=w) (e:=e) (pB:=pB) (bx:=bx) (t:=t) h;exact⟨v,r,by simpa using h3,h4⟩
   ·exact h.elim
 ·rename_i a b;have e1:v1=.string a:=U.1.resolve_left aB;have I:v2=.string b:=Y.1.resolve_left aB;subst e1;subst I;have J:eqGuard op t x y (.string a) (.string b)=pure ():=by cases op<;>rfl
  rw[J];cases op<;>simp only[zAl]at h
  case add=>
   obtain⟨O,h⟩:=h;refine⟨_,_,?_,h,Hx⟩;have:¬(((a.size+b.size:Nat):Int)>IntKind.i64.max):=by unfold maxLen at O;simp;omega
   simp only[binOp,Op.stringOp,this,ni,Sem.run_bind,Sem.run_pure,Result.andThen_ok]
  case eql=>exact⟨_,_,by simp only[binOp,Op.stringOp,Sem.run_bind,Sem.run_pure,Result.andThen_ok],h,zq⟩
  case neq=>exact⟨_,_,by simp only[binOp,Op.stringOp,Sem.run_bind,Sem.run_pure,Result.andThen_ok],h,zq⟩
  case lss=>exact⟨_,_,by simp only[binOp,Op.stringOp,Sem.run_bind,Sem.run_pure,Result.andThen_ok],h,zq⟩
  case leq=>exact⟨_,_,by simp only[binOp,Op.stringOp,Sem.run_bind,Sem.run_pure,Result.andThen_ok],h,zq⟩
  case geq=>exact⟨_,_,by simp only[binOp,Op.stringOp,Sem.run_bind,Sem.run_pure,Result.andThen_ok],h,zq⟩
 ·rename_i a b;have e1:v1=.bool a:=U.1.resolve_left aB;have I:v2=.bool b:=Y.1.resolve_left aB;subst e1;subst I;have J:eqGuard op t x y (.bool a) (.bool b)=pure ():=by cases op<;>rfl
  rw[J];split at h
  ·rename_i hu;have heq:(Op.equal t (.bool a) (.bool b)).run P w=.ok (a==b) w:=by have:Op.maxDepth=9999+1:=rfl;rw[Op.equal,this,Op.equalIn];simp[run_underlying hu]
   cases op<;>simp only[U2]at h
   case eql=>exact⟨_,_,by simp[binOp,heq],h,zq⟩
   case neq=>exact⟨_,_,by simp[binOp,heq],h,zq⟩
  ·exact h.elim
 ·rename_i a z es c b zb eb cb;have e1:v1=.slice a es.length c:=U.1.resolve_left aB;have I:v2=.slice b eb.length cb:=Y.1.resolve_left aB;unfold zAh at h;split at h
  ·rename_i hu;split at h
   ·subst e1;subst I;have heq:(Op.equal t (.slice a es.length c) (.slice none ([]:aM).length 0)).run P w=.ok a.isNone w:=by have:Op.maxDepth=9999+1:=rfl;rw[Op.equal,this,Op.equalIn];cases a<;>simp[run_underlying hu]
    have J:eqGuard op t x y (.slice a es.length c) (.slice none ([]:aM).length 0)=pure ():=by cases op<;>rfl
    rw[J];cases op<;>simp only at h
    case eql=>exact⟨_,_,by simp[binOp]at heq ⊢;simp[heq],h,zq⟩
    case neq=>exact⟨_,_,by simp[binOp]at heq ⊢;simp[heq],h,zq⟩
   ·exact h.elim
  ·exact h.elim
 ·exact h.elim
theorem PV.val_isC {p:PV}(h:p.isC):p.val e=p.cv e:=by
 cases p<;>simp[PV.isC]at h<;>try rfl
 rename_i x;cases x<;>simp[D.isCell]at h<;>rfl
theorem PV.notAny_iff {p:PV}:p.notAny=true↔p≠.any:=by cases p<;>simp[PV.notAny]
theorem D.val_isCell {x:D}(h:x.isCell):x.val=x.cv:=by cases x<;>simp[D.isCell]at h<;>rfl
theorem IsAg.cell {n x}(h:IsAg n x){i}(hi:i<n):(x.cell i).isCell/\x.cells[i]?=some (x.cell i):=by obtain⟨cs,rfl,hl,hc⟩:=h;have:cs[i]?=some (cs[i]' aA):=oH aA;simp only[D.cell,D.cells,oA,this,nA];exact⟨hc _ (mN _),trivial⟩
theorem IsAg.sub {n x}(h:IsAg n x){o z}(hi:o+z<=n):IsAg z (x.sub o z):=by obtain⟨cs,rfl,hl,hc⟩:=h;exact⟨_,rfl,by simp[D.cells];omega,λc I=>hc c (nG (ou I))⟩
theorem IsAg.val {n x}(h:IsAg n x):x.val=.agg (x.cells.map D.cv).toArray:=by obtain⟨cs,rfl,hl,hc⟩:=h;rfl
theorem IsAg.length {n x}(h:IsAg n x):x.cells.length=n:=by obtain⟨cs,rfl,hl,hc⟩:=h;exact hl
theorem HW {cs R}{vs:aJ}(hl:cs.length=vs.length)(hc:∀(i:Nat) (p:PV),cs[i]?=some p->p=.any\/vs[i]?=some (p.cv e))(U:∀ p∈cs,p.Ok w (za av pB e bx)/\(p=.any\/p.isC)/\∀ k∈p.refs,k∉pB/\k<bx.length)(h:pgR cs R):∃ q,R q/\ValOk av w e pB bx (.agg vs.toArray) q:=by
 unfold pgR at h;split at h
 ·rename_i I;rw[ob]at I;refine⟨_,h,.inr ?_,⟨PV.OkL_iff.2 λp O=>(U p O).1,λp O=>(U p O).2.1.resolve_left (PV.notAny_iff.1 (I p O))⟩,λk J=>?_⟩
  ·simp only[PV.val,PV.val1,PV.cvs_eq];congr 2;apply nL;intro i;rw[oF];cases hi:cs[i]? with
   | none=>simp at hi ⊢;omega
   | some p=>exact(hc i p hi).resolve_left (PV.notAny_iff.1 (I p (oB hi)))
  ·simp only[PV.refs]at J;obtain⟨p,O,J⟩:=PV.refsL_mem.1 J;exact(U p O).2.2 k J
 ·exact⟨_,h,DC⟩
theorem O2 {t z zz k i o B R}(hm:Mem av pB w e bx)(hB:bx[k]?=some B)(hk:k∉pB)(hz:kz P t=some z)(h:O1 z zz B i o R):∃ v q,(loadVar t ⟨(e.at k).getD 0,i*ez zz+o,none⟩).run P w=.ok v w/\R q/\ValOk av w e pB bx v q:=by
 have hr:=hm.br k B hB hk;have ac:=hm.bo k B hB hk;have ai:=hm.bf k B hB hk;cases B with
 | gone=>exact h.elim
 | var cs=>
   simp only[O1]at h;obtain⟨b,c,t',h1,h2,h3,h4⟩:=hr;obtain⟨aj,al⟩:=ac;rw[PV.OkL_iff]at aj;simp only[Bx.refs]at ai;rw[h1];split at h
   ·simp only[nA,lB,nI];split at h
    ·rename_i J;subst J;split at h
     ·rename_i ae;have hp:cs[o]?=some (cs.getD o .any):=by rw[oA];simp[ae]
      have hc:c[o]?=some (c[o]' aA):=o6 aA;refine⟨_,_,vu hz ((sx h2).trans hc),h,?_,aj _ (oB hp),λj I=>ai j (PV.refsL_mem.2 ⟨_,oB hp,I⟩)⟩;rcases h4 o _ hp with h5 | h5
      ·exact .inl h5
      ·rcases al _ (oB hp)with h6 | h6
       ·exact .inl h6
       ·rw[hc]at h5;exact .inr ((oZ h5).trans (PV.val_isC h6).symm)
     ·exact h.elim
    ·rename_i J;split at h
     ·rename_i aa;have ao:((c.toList.drop o).take z).length=z:=aF
      have:=qG hz J (w:=w) (ad:=⟨b,o,none⟩) (cs:=(c.toList.drop o).take z) ao (λj v I=>by
       rw[xr,sx h2];simp only[om,nT]at I;split at I
       ·simpa using I
       ·cases I)
      obtain⟨q,hq,hv⟩:=HW (w:=w) (e:=e) (pB:=pB) (bx:=bx) (vs:=(c.toList.drop o).take z) (by rw[ao];simp;omega)
       (λi p hp=>by
        simp only[om,nT]at hp ⊢;split at hp
        ·rename_i hi;rcases h4 _ _ hp with h5 | h5
         ·exact .inl h5
         ·exact .inr (by simpa [hi]using h5)
        ·cases hp)
       (λp hp=>by have U:=nG (ou hp);exact⟨aj _ U,al _ U,λj I=>ai j (PV.refsL_mem.2 ⟨_,U,I⟩)⟩) h
      exact⟨_,q,this,hq,hv⟩
     ·exact h.elim
   ·exact h.elim
 | vd x n=>
   simp only[O1]at h;obtain⟨b,c,t',h1,h2,h3,h4,h5⟩:=hr;rw[h1];split at h
   ·simp only[nA,lB,nI];split at h
    ·rename_i J;subst J;split at h
     ·rename_i ae;obtain⟨h6,h7⟩:=h4.cell ae;exact⟨_,_,vu hz ((sx h2).trans (h5 _ _ h7)),h,DD (ac.cell _) h6⟩
     ·exact h.elim
    ·rename_i J;have O:∀ o,o+z<=n->(loadVar t ⟨b,o,none⟩).run P w=.ok (x.sub o z).val w:=λo aa=>by
      have hl:=h4.length
      have:=qG hz J (w:=w) (ad:=⟨b,o,none⟩) (cs:=((x.cells.drop o).take z).map D.cv) aF (λj v I=>by
       rw[xr,sx h2];simp only[oF,om,nT]at I;split at I
       ·cases hu:x.cells[o+j]? with
        | none=>simp[hu]at I
        | some u=>rw[hu]at I;simp at I;subst I;exact h5 _ _ hu
       ·cases I)
      exact this
     split at h
     ·rename_i h6;obtain⟨rfl,rfl⟩:=h6;refine⟨_,_,O 0 aA,h,?_⟩;have hx:x.sub 0 z=x:=by obtain⟨cs,rfl,hl,_⟩:=h4;simp[D.sub,D.cells,<-hl]
      rw[hx];exact Au ac h4
     ·split at h
      ·rename_i aa;exact⟨_,_,O o aa,h,Au (ac.sub o z) (h4.sub aa)⟩
      ·exact h.elim
   ·exact h.elim
 | arr t' z' es n=>
   simp only[O1]at h;split at h
   ·rename_i aq;subst aq;obtain⟨hi,h⟩:=h;rcases hr with⟨_,rfl,_⟩ | ⟨b,c,h1,h2,h3,h4,h5,h6,h7⟩
    ·simp at hi
    ·rw [h1];simp only[nA];have hx:es[i]?=some (es.getD i default):=by rw[oA];simp[hi]
     have U:=oB hx;have Y:=h6 _ U;have ah:=ac _ U;generalize es.getD i default=x at *;have ab:∀(j:Nat) (u:D),x.cells[j]?=some u->w.cell? ⟨b,i*ez zz+j,none⟩=some u.cv:=λj u I=>by rw[sx h2];exact h7 _ _ (AY h6 hx I)
     split at h
     ·rename_i J;subst J;split at h
      ·rename_i h8;obtain⟨rfl,rfl⟩:=h8;simp only[eOk,mI]at Y;have au:x.cells[0]?=some x:=by cases x<;>simp[D.isCell,D.cells]at Y ⊢
       exact⟨_,_,vu hz (ab 0 _ au),h,DD ah Y⟩
      ·exact h.elim
     ·rename_i J;simp only[eOk,J,ni]at Y;split at h
      ·rename_i ak;subst ak;split at h
       ·rename_i ae;obtain⟨h8,h9⟩:=Y.cell ae;exact⟨_,_,vu hz (ab _ _ h9),h,DD (ah.cell _) h8⟩
       ·exact h.elim
      ·rename_i ak;have O:∀ o,o+z<=zz->(loadVar t ⟨b,i*ez zz+o,none⟩).run P w=.ok (x.sub o z).val w:=λo aa=>by
        have hl:=Y.length
        have:=qG hz ak (w:=w) (ad:=⟨b,i*ez zz+o,none⟩) (cs:=((x.cells.drop o).take z).map D.cv) aF (λj v I=>by
         rw[xr];simp only[oF,om,nT]at I;split at I
         ·cases hu:x.cells[o+j]? with
          | none=>simp[hu]at I
          | some u=>rw[hu]at I;simp at I;subst I;rw[my];exact ab _ _ hu
         ·cases I)
        exact this
       split at h
       ·rename_i h8;obtain⟨rfl,rfl⟩:=h8;refine⟨_,_,O 0 aA,h,?_⟩;have hx:x.sub 0 z=x:=by obtain⟨cs,rfl,hl,_⟩:=Y;simp[D.sub,D.cells,<-hl]
        rw[hx];exact Au ah Y
       ·split at h
        ·rename_i aa;exact⟨_,_,O o aa,h,Au (ah.sub o z) (Y.sub aa)⟩
        ·exact h.elim
   ·exact h.elim
end
variable {av:Nat->Prop} {P:Program} {w:World} {e:Env} {pB:aI} {bx:aO} {a:Act}
theorem Ch {t f o z}(h:AX P t f=some (o,z)):∃ fs I,P.underlying t=some (.struct fs)/\fs[f]?=some I/\kz P I.type=some z/\I.offset=o:=by
 unfold AX at h;split at h
 ·rename_i fs J;split at h
  ·rename_i I O;split at h
   ·rename_i z' U;simp at h;exact⟨fs,I,J,O,by rw[U,h.2],h.1⟩
   ·cases h
  ·cases h
 ·cases h
theorem Good.slice {live ad z es cap l h}(hg:Good w live (.sl ad z es cap))(ac:l<=h)(hh:h<=es.length) :
  Good w live (.sl (if(cap:Int)=(l:Int)then ad else ad.map (·.add (l*ez z))) z ((es.take h).drop l) (cap - l)):=by
 obtain⟨h1,h2⟩:=hg;cases h1 with
 | nil=>
   simp at hh;have:l=0:=aA
   subst this;subst hh;refine⟨?_,by simp[D.foot,zC]⟩;simp;exact .nil
 | @sl ad z es cap h3 h4 h5 h6 h7=>
   have I:∀ x∈(es.take h).drop l,x∈es:=λx J=>ou (nG J);have U:((es.take h).drop l).length=h - l:=aF
   by_cases O:es=[]
   ·subst O;have h0:l=0:=by simp at hh;omega
    subst h0;simp only[List.take_nil,List.drop_nil,lB,Nat.sub_zero];have:(if(cap:Int)=((0:Nat):Int)then some ad else(some ad).map (·.add 0))=some ad:=by split<;>simp[Addr.add]
    rw[this];exact⟨.sl aB aB aB aB (.inl rfl),by simp[D.foot]⟩
   have h3:=h3 O;have Y:((some ad).map (·.add (l*ez z)):aH)=some ⟨ad.block,ad.off+l*ez z,none⟩:=by obtain⟨b,o,s⟩:=ad;simp at h3;subst h3;simp[xr]
   by_cases aa:(cap:Int)=(l:Int)
   ·have:l=h:=aA
    subst this;have he:(es.take l).drop l=[]:=by simp[List.drop_take]
    rw[if_pos aa,he];exact⟨.sl aB aB aB aB (.inl rfl),by simp[D.foot]⟩
   ·rw [if_neg aa,Y];refine⟨.sl (λ_=>rfl) (by rw[U];omega) (λx J=>h5 x (I x J)) (λx J=>h6 x (I x J)) ?_,?_⟩
    ·rcases h7 with h7 | ⟨c,t,fz,h8,h9⟩
     ·left;have hl:=zU h5;rw[h7]at hl;have hp:=Ey z;have:es.length=0:=by
       rcases md es.length with h0 | h0
       ·exact h0
       ·have:=Nat.mul_pos h0 hp;simp at hl;omega
      have:es=[]:=ms.1 this;subst this;simp[yM]
     ·right;refine⟨c,t,fz,h8,λi u hu=>?_⟩;have ae:yM es=yM (es.take l)++yM ((es.take h).drop l)++yM (es.drop h):=by
       rw[<-wA,<-wA];congr 1;have e1:es.take l=(es.take h).take l:=by rw[List.take_take,Nat.min_eq_left ac]
       rw[e1,np,np]
      have ab:(yM (es.take l)).length=l*ez z:=by rw[zU (z:=z) (λx J=>h5 x (ou J))];simp;rw[Nat.min_eq_left aA]
      have:(yM es)[l*ez z+i]?=some u:=by have ai:i<(yM ((es.take h).drop l)).length:=(oD.1 hu).1;rw[ae,oQ (by rw[oG,ab];omega),oU aA,ab];rw[show l*ez z+i - l*ez z=i by omega];exact hu
      have:=h9 _ _ this
      rw[<-my]at this;exact this
    ·intro b hb;apply h2;by_cases he:es=[]
     ·subst he;simp[D.foot,zC]at hb
     ·simp only[D.foot]at hb ⊢;split at hb
      ·simp at hb
      ·rw[if_neg (by simpa using he)];rcases oK.1 hb with h10 | h10
       ·exact oK.2 (.inl h10)
       ·refine oK.2 (.inr ?_);obtain⟨x,J,ah⟩:=zJ.1 h10;exact zJ.2 ⟨x,I x J,ah⟩
theorem WW {ad z es cap}(h:Good w (za av pB e bx) (.sl ad z es cap)):ValOk av w e pB bx (.slice ad es.length cap) (.sv ad z es cap):=
 ⟨.inr rfl,h,by simp[PV.refs]⟩
theorem tK {I ρ d R}(J:∀ x,I=some x->ValOk av w e pB bx (a.eval x) (ρ x))(h:VR (I.map ρ) d R) :
  ∃ n,R n/\((I=none/\n=d)\/∃ x k,I=some x/\a.eval x=.int k n):=by
 cases I with
 | none=>exact⟨d,h,.inl ⟨rfl,rfl⟩⟩
 | some x=>obtain⟨k,n,O,U⟩:=tJ (J x rfl) h;exact⟨n,O,.inr ⟨x,k,rfl,U⟩⟩
theorem zS {k}{n:Int}{y:Nat}{c}(I:0<=n)(J:n<=y):(Instr.sliceBound (.int k n) y c).run P w=.ok n.toNat w:=by simp[Instr.sliceBound,asIntOf,I,J]
theorem JO w ad c ns(h:∀(j:Nat) (v:Value),((ns.map λn=>D.lit (.int .u8 n)).map D.cv)[j]?=some v->w.cell? (ad.add j)=some v) :
  (Conv.bytesToString (.slice (some ad) ns.length c)).run P w=.ok (.string (bytesOf ns)) w:=by
 refine run_bytesToString w ad ns.length c ns ?_
 have:=run_loadCells_list (P:=P) w ad (ns.map (Value.int .u8)) λj v I=>h j v (by rw[mO];exact I)
 simpa using this
theorem RF (ns:List Int):yM (ns.map λn=>D.lit (.int .u8 n))=ns.map λn=>D.lit (.int .u8 n):=by
 induction ns with
 | nil=>rfl
 | cons n ns I=>rw[o9,uZ,I];rfl
theorem Gv {w:World}{ad:Addr}(hs:ad.spot=none){c t}{fz:Nat × Nat}(h:w.heap[ad.block]?=some (.cells c t fz)) j:w.cell? (ad.add j)=c[ad.off+j]?:=by obtain⟨b,o,s⟩:=ad;simp only at hs h ⊢;subst hs;rw[xr];exact sx h
theorem OJ {rb}(hm:Mem av pB w e bx)(hb:∀ k B,rb k=some B->bx[k]?=some B/\k∉pB){v p R}(hv:ValOk av w e pB bx v p)(h:Gg rb p R) :
  ∃ ns,(∃(a:aH) (n c:Nat),v=.slice a n c/\(Conv.bytesToString v).run P w=.ok (.string (bytesOf ns)) w)/\R (.str (bytesOf ns)):=by
 unfold Gg at h;split at h
 ·rename_i a z es c;split at h
  rotate_left
  ·exact h.elim
  obtain⟨ns,J,hR⟩:=h;have O:v=.slice a es.length c:=hv.1.resolve_left aB;refine⟨ns,⟨a,_,c,O,?_⟩,hR⟩;have hg:=hv.2.1;simp only[PV.Ok]at hg;obtain⟨hh,ac⟩:=hg;clear ac;rw[O];cases hh with
  | nil=>
    have:ns=[]:=by cases ns<;>simp at J;rfl
    subst this;simp[Conv.bytesToString,bytesOf]
  | sl h1 h2 h3 h4 h5=>
    rename_i ad;have I:es.length=ns.length:=by rw[J];simp
    rw[I];refine JO w ad c ns λj u Y=>?_;rw[J,RF]at h5;rw[oF]at Y;cases U:(ns.map λn=>D.lit (.int .u8 n))[j]? with
    | none=>rw[U]at Y;simp at Y
    | some y=>
      rw[U]at Y;simp at Y;subst Y;rcases h5 with h5 | ⟨cc,t,fz,h6,h7⟩
      ·rw[h5]at U;simp at U
      ·rw[Gv (h1 λh=>by rw[h]at I;have:ns=[]:=oV I.symm;rw[this]at U;simp at U) h6];exact h7 j y U
 ·rename_i k z lo n c;split at h
  rotate_left
  ·exact h.elim
  rename_i t z' es cb hk;split at h
  rotate_left
  ·exact h.elim
  obtain⟨ak,ns,J,hR⟩:=h;obtain⟨ae,ah⟩:=hb k _ hk;have O:=hv.1.resolve_left aB;have I:n=ns.length:=by have:=oY List.length J;simp at this;omega
  rcases hm.br k _ ae ah with⟨h1,h2,h3⟩ | ⟨b,c',h1,h2,h3,h4,h5,h6,h7⟩
  ·subst h2;have:ns=[]:=by cases ns<;>simp at J;rfl
   subst this;refine⟨[],⟨none,n,c,by rw[O];simp[PV.val,PV.val1,PV.cv,h1],?_⟩,hR⟩;rw[O];simp[PV.val,PV.val1,PV.cv,h1,Conv.bytesToString,bytesOf]
  ·refine⟨ns,⟨some ⟨b,0,none⟩,n,c,by rw[O];simp[PV.val,PV.val1,PV.cv,h1],?_⟩,hR⟩;rw[O];have aa:(PV.sb k 0 0 n c).val e=.slice (some ⟨b,0,none⟩) ns.length c:=by simp[PV.val,PV.val1,PV.cv,h1,I]
   rw[aa];refine JO w ⟨b,0,none⟩ c ns λj u Y=>?_;rw[oF]at Y;cases U:(ns.map λn=>D.lit (.int .u8 n))[j]? with
   | none=>rw[U]at Y;simp at Y
   | some y=>
     rw[U]at Y;simp at Y;subst Y;rw[Gv rfl h2];have hy:es[j]?=some y:=by
      rw[<-J,om]at U;split at U
      ·exact U
      ·cases U
     have ai:(yM es)[j]?=some y:=by
      have ab:=h6 y (oB hy);have aj:y.cells[0]?=some y:=by simp[eOk]at ab;cases y<;>simp[D.isCell]at ab<;>rfl
      have:=AY h6 hy aj
      simpa [ez]using this
     simpa using h7 j y ai
 ·exact h.elim
theorem Jm {ρ rb o R}(hm:Mem av pB w e bx)(ho:∀ x∈o.op.operands,OpdOk av a w e pB bx x (ρ x))(bp:∀ k B,rb k=some B->bx[k]?=some B/\k∉pB)(h:Cz P ρ rb o.op o.type R) :
  ∃ v p,(execOp a.eval o).run P w=.ok (.value v) w/\R p/\ValOk av w e pB bx v p:=by
 obtain⟨dst,op,ty,pos,after,guard⟩:=o;simp only at ho h ⊢;cases op<;>simp only[Cz]at h<;>try exact h.elim
 case move x=>exact⟨_,_,rfl,h,((ho x (by simp[Op.operands])).valOk).retag ty⟩
 case assign x=>exact⟨_,_,rfl,h,((ho x (by simp[Op.operands])).valOk).retag ty⟩
 case pick c x y=>
  obtain⟨v,I,U⟩:=RJ ((ho c (by simp[Op.operands])).valOk) h;cases v with
  | true=>exact⟨_,_,by simp[execOp,asBool,U],by simpa using I,(ho x (by simp[Op.operands])).valOk⟩
  | false=>exact⟨_,_,by simp[execOp,asBool,U],by simpa using I,(ho y (by simp[Op.operands])).valOk⟩
 case load t x=>
  have hx:=ho x (by simp[Op.operands]);split at h
  ·exact h.elim
  ·rename_i z hz;split at h
   ·rename_i k zz i o' hρ;split at h
    ·rename_i B hB;obtain⟨I,U⟩:=bp k B hB;obtain⟨v,q,h3,h4,h5⟩:=O2 hm I U hz h;have O:=hx.h.resolve_left (by rw[hρ];simp);rw[hρ]at O;refine⟨v,q,?_,h4,h5⟩;simp only[execOp,Instr.loadAt,O,PV.val,PV.val1,PV.cv,Instr.sureAddr,Sem.run_bind,Sem.run_pure,Result.andThen_ok,h3]
    ·exact h.elim
   ·rename_i ad z' y hρ;split at h
    ·rename_i ai;subst ai;have Y:=hx.ok;rw[hρ]at Y;simp only[PV.Ok]at Y;obtain⟨I,U,h3,h4,h5,h6⟩:=Y;have O:=hx.h.resolve_left (by rw[hρ];simp);rw[hρ]at O;obtain⟨b,off,sp⟩:=ad;simp at h3;subst h3;by_cases ab:z'=0
     ·subst ab;simp only[mI]at h;simp only[eOk,mI]at U;have bq:y.cells[0]?=some y:=by cases y<;>simp[D.isCell,D.cells]at U ⊢
      rcases h4 with h4 | ⟨c,t',fz,h7,h8⟩
      ·rw[h4]at bq;simp at bq
      ·have hl:=vu hz (w:=w) (ad:=⟨b,off,none⟩) ((sx h7).trans (h8 0 y bq));refine⟨y.cv,_,?_,h,DD I U⟩;simp only[execOp,Instr.loadAt,O,PV.val,PV.val1,PV.cv,Instr.sureAddr,Sem.run_bind,Sem.run_pure,Result.andThen_ok,hl]
     ·simp only[ab,ni]at h;simp only[eOk,ab,ni]at U;have a8:=U.length;have bt:∀ j v,(y.cells.map D.cv)[j]?=some v->w.cell? ((⟨b,off,none⟩:Addr).add j)=some v:=λj v hj=>by
       rw[xr];rcases h4 with h4 | ⟨c,t',fz,h7,h8⟩
       ·rw[h4]at hj;simp at hj
       ·rw[sx h7];rw[oF]at hj;cases hu:y.cells[j]? with
        | none=>simp[hu]at hj
        | some u=>rw[hu]at hj;simp at hj;subst hj;exact h8 j u hu
      have hl:=qG hz ab (w:=w) (ad:=⟨b,off,none⟩) (cs:=y.cells.map D.cv) (by simp[a8]) bt;refine⟨y.val,_,?_,h,Au I U⟩;rw[U.val];simp only[execOp,Instr.loadAt,O,PV.val,PV.val1,PV.cv,Instr.sureAddr,Sem.run_bind,Sem.run_pure,Result.andThen_ok,hl]
    ·exact h.elim
   ·exact h.elim
 case nilCheck x=>
  have hx:=ho x (by simp[Op.operands]);have O:=hx.valOk;split at h
  ·rename_i hρ;have I:=hx.h.resolve_left (by rw[hρ];simp);rw[hρ]at I O;exact⟨_,_,by simp only[execOp,I,PV.val,PV.val1,PV.cv];rfl,h,by rw[I]at O;exact O⟩
  ·rename_i hρ;have I:=hx.h.resolve_left (by rw[hρ];simp);rw[hρ]at I O;exact⟨_,_,by simp only[execOp,I,PV.val,PV.val1,PV.cv];rfl,h,by rw[I]at O;exact O⟩
  ·rename_i hρ;have I:=hx.h.resolve_left (by rw[hρ];simp);rw[hρ]at I O;exact⟨_,_,by simp only[execOp,I,PV.val,PV.val1,PV.cv];rfl,h,by rw[I]at O;exact O⟩
  ·exact h.elim
 case binOp op t x y yt=>obtain⟨p,I,U, -⟩:=yK (ho x (by simp[Op.operands])).valOk h;obtain⟨q,h3,h4, -⟩:=yK (ho y (by simp[Op.operands])).valOk I;obtain⟨v,r,h5,h6,h7⟩:=Q3 (x:=x) (y:=y) U h4 h3;exact⟨v,r,by simp only[execOp,Sem.run_bind]at h5 ⊢;rw[h5];rfl,h6,h7⟩
 case unOp op t x=>
  cases op<;>simp only at h<;>try exact h.elim
  case not=>
   obtain⟨p,I,U, -⟩:=yK (ho x (by simp[Op.operands])).valOk h;split at I
   ·have:=U.1.resolve_left aB
    exact⟨_,_,by simp[execOp,this,Op.unary,PV.val,PV.val1,PV.cv],I,zq⟩
   ·exact I.elim
  case neg=>
   obtain⟨p,I,U, -⟩:=yK (ho x (by simp[Op.operands])).valOk h;split at I
   ·have:=U.1.resolve_left aB
    exact⟨_,_,by simp only[execOp,this,Op.unary,PV.val,PV.val1,PV.cv,Op.intArith,Sem.run_bind,Sem.run_pure,Result.andThen_ok],I,zo⟩
   ·exact I.elim
 case convert s d x=>
  split at h
  ·rename_i k hd;split at h
   ·rename_i k' hs;obtain⟨p,I,U, -⟩:=yK (ho x (by simp[Op.operands])).valOk h;split at I
    ·have:=U.1.resolve_left aB
     exact⟨_,_,by simp[execOp,this,convert,run_underlying hs,run_underlying hd,Conv.intToInt,PV.val,PV.val1,PV.cv],I,zo⟩
    ·exact I.elim
   ·exact h.elim
  ·rename_i hd;split at h
   ·rename_i el hs;split at h
    ·rename_i hz hu;obtain⟨p,I,U, -⟩:=yK (ho x (by simp[Op.operands])).valOk h;obtain⟨ns,⟨ad,n,c,e1,e2⟩,h4⟩:=OJ (P:=P) hm bp U I;have ck:(convert s d (a.eval x)).run P w=.ok (.string (bytesOf ns)) w:=by rw[e1]at e2 ⊢;cases ad<;>simp[convert,run_underlying hs,run_underlying hd,run_underlying hu,e2]
     exact⟨.string (bytesOf ns),_,by simp[execOp,ck],h4,Hx⟩
    ·exact h.elim
   ·exact h.elim
  ·exact h.elim
 case fieldAddr t x f=>
  have hx:=ho x (by simp[Op.operands]);split at h
  ·exact h.elim
  ·rename_i o' z ba;obtain⟨fs,fd,hu,hf,hz,rfl⟩:=Ch ba;have bv:ez z≠0:=by have:=Ey z;omega
   have az:∀ ad:Addr,(fieldPlace ad fd).run P w=.ok (ad.add fd.offset) w:=λad=>by simp[fieldPlace,vg hz,bv]
   split at h
   ·rename_i k z' i cy hρ;have O:=hx.h.resolve_left (by rw[hρ];simp);have ae:=hx.rf;rw[hρ]at O ae;refine⟨_,_,?_,h,.inr rfl,trivial,ae⟩;simp only[execOp,Instr.fieldAt,run_underlying hu,O,PV.val,PV.val1,PV.cv,Instr.sureAddr,Sem.run_bind,Sem.run_pure,Result.andThen_ok,hf,az,xr,my]
   ·rename_i ad n y hρ;split at h
    ·rename_i aw;have O:=hx.h.resolve_left (by rw[hρ];simp);have Y:=hx.ok;rw[hρ]at O Y;simp only[PV.Ok]at Y;obtain⟨I,U,h3,h4,h5,h6⟩:=Y;have ax:n≠0:=by have:=Ey z;omega
     simp only[eOk,ax,ni]at U;obtain⟨b,off,sp⟩:=ad;simp at h3;subst h3;refine⟨_,_,?_,h,.inr rfl,?_,by simp[PV.refs]⟩
     ·simp only[execOp,Instr.fieldAt,run_underlying hu,O,PV.val,PV.val1,PV.cv,Instr.sureAddr,Sem.run_bind,Sem.run_pure,Result.andThen_ok,hf,az]
     ·simp only[PV.Ok,xr];have bi:∀(cs:aM) (q:Nat),(∀(i:Nat) (u:D),cs[i]?=some u->y.cells[fd.offset+i]?=some u)->Row w ⟨b,off+fd.offset,none⟩ cs:=λcs q a6=>by
       rcases h4 with h4 | ⟨c,t',fz,h7,h8⟩
       ·left;cases hc:cs with
        | nil=>rfl
        | cons u us=>have:=a6 0 u (by simp[hc]);rw[h4]at this;simp at this
       ·exact .inr ⟨c,t',fz,h7,λi u hu=>by have:=h8 _ _ (a6 i u hu);simp only at this ⊢;rw[my];exact this⟩
      split
      ·rename_i ab;subst ab;have ah:fd.offset<n:=by simp[ez]at aw;omega
       obtain⟨h9,cm⟩:=U.cell ah;refine⟨I.cell _,by simpa [eOk]using h9,trivial,bi _ 0 λi u hu=>?_,h5,h6⟩;cases i with
       | zero=>rw[mY,cm];revert hu;generalize y.cell fd.offset=c at *;intro hu;cases c<;>simp[D.isCell,D.cells]at h9 hu ⊢<;>exact hu
       | succ i=>revert hu;generalize y.cell fd.offset=c at *;intro hu;cases c<;>simp[D.isCell,D.cells]at h9 hu
      ·rename_i ab;have he:ez z=z:=by simp[ez,ab]
       rw[he]at aw;refine⟨I.sub _ _,by simp only[eOk,ab,ni];exact U.sub aw,trivial,bi _ 0 λi u hu=>?_,h5,h6⟩;simp only[D.sub,D.cells,om,nT]at hu;split at hu
       ·exact hu
       ·cases hu
    ·exact h.elim
   ·exact h.elim
 case indexAddr t x i=>
  split at h
  ·rename_i el hu;split at h
   ·exact h.elim
   ·rename_i z hz;obtain⟨k,n,h,hn⟩:=tJ (ho i (by simp[Op.operands])).valOk h;obtain⟨p,I,U, -⟩:=yK (ho x (by simp[Op.operands])).valOk h;split at I
    ·rename_i ad z' es cap;split at I
     ·rename_i ai;subst ai;obtain⟨⟨ax,bh⟩,I⟩:=I;have O:=U.1.resolve_left aB;have Y:Good w (za av pB e bx) (.sl ad z' es cap):=U.2.1;have ah:n.toNat<es.length:=aA
      have hx:es[n.toNat]?=some (es.getD n.toNat default):=by rw[oA];simp[ah]
      have ac:=oB hx;have cn:=Y.elem ac;obtain⟨hH,hF⟩:=Y;cases hH with
      | nil=>simp at ah
      | @sl ad _ _ _ h3 h4 h5 h6 h7=>
        have b9:es≠[]:=λh=>by subst h;simp at ah
        have h3:=h3 b9;obtain⟨b,off,sp⟩:=ad;simp at h3;subst h3;have ca:b∈(D.sl (some ⟨b,off,none⟩) z' es cap).foot:=by simp[D.foot,b9]
        refine⟨_,_,?_,I,.inr rfl,?_,by simp[PV.refs]⟩
        ·simp only[execOp,Instr.indexAt,hn,O,PV.val,PV.val1,PV.cv,asIntOf,run_underlying hu,Sem.run_bind,Sem.run_pure,Result.andThen_ok,nA];have hc:0<=n/\n<(es.length:Int):=⟨ax,bh⟩
         simp[hc,vg hz]
        ·simp only[PV.Ok,nA,xr];refine⟨cn,h5 _ ac,trivial,?_,hF b ca,Holds.lt (.sl (λ_=>rfl) h4 h5 h6 h7) b ca⟩;rcases h7 with h7 | ⟨c,t',fz,h8,h9⟩
         ·left;generalize es.getD n.toNat default=y at *;cases hc:y.cells with
          | nil=>rfl
          | cons u us=>have:=AY h5 hx (i:=0) (u:=u) (by simp[hc]);rw[h7]at this;simp at this
         ·exact .inr ⟨c,t',fz,h8,λj u hj=>by
           have:=h9 _ _ (AY h5 hx hj)
           simp only at this ⊢;rw[my];exact this⟩
     ·exact I.elim
    ·rename_i kb z' lo m c;split at I
     ·rename_i t' cz es c' hB;split at I
      ·rename_i ai;obtain⟨rfl,rfl⟩:=ai;obtain⟨⟨ax,bh,co⟩,I⟩:=I;have O:=U.1.resolve_left aB;have ae:=U.2.2;obtain⟨cp,cq⟩:=bp kb _ hB;refine⟨_,_,?_,I,.inr rfl,trivial,ae⟩;rcases hm.br kb _ cp cq with⟨_,rfl,_⟩ | ⟨b,cc,hb,_⟩
       ·simp at co
       ·simp only[execOp,Instr.indexAt,hn,O,PV.val,PV.val1,PV.cv,asIntOf,run_underlying hu,Sem.run_bind,Sem.run_pure,Result.andThen_ok,hb,nA];have hc:0<=n/\n<(m:Int):=⟨ax,bh⟩
        simp[hc,vg hz,xr,nJ]
      ·exact I.elim
     ·exact I.elim
    ·exact I.elim
  ·exact h.elim
 case index t x i=>
  split at h
  ·rename_i hu;obtain⟨k,n,h,hn⟩:=tJ (ho i (by simp[Op.operands])).valOk h;obtain⟨p,I,U, -⟩:=yK (ho x (by simp[Op.operands])).valOk h;split at I
   ·rename_i s;obtain⟨⟨ax,bh⟩,I⟩:=I;have O:=U.1.resolve_left aB;have ah:n.toNat<s.size:=aA
    have hs:s[n.toNat]?=some (s.data.getD n.toNat 0):=by have:n.toNat<s.data.size:=ah;rw[getElem?_pos s n.toNat ah];simp[Array.getD,ah];rfl
    exact⟨_,_,by simp[execOp,Instr.index,hn,O,PV.val,PV.val1,PV.cv,asIntOf,run_underlying hu,ax,hs],I,zo⟩
   ·exact I.elim
  ·exact h.elim
 case slice t x lo hi mx=>
  have cd:=(ho x (by simp[Op.operands])).valOk;split at h
  ·rename_i hu;obtain⟨p,I,U, -⟩:=yK cd h;split at I
   ·rename_i s;have O:=U.1.resolve_left aB;obtain⟨l,I,hl⟩:=tK (a:=a) (λy hy=>(ho y (by simp[Op.operands,hy])).valOk) I;obtain⟨u,I,hh⟩:=tK (a:=a) (λy hy=>(ho y (by simp[Op.operands,hy])).valOk) I;obtain⟨⟨aj,bb,bw⟩,I⟩:=I;refine⟨_,_,?_,I,Hx⟩;have ak:0<=u:=aA
    have bc:l<=(u.toNat:Int):=aA
    have J:(Instr.sliceBounds false s.size s.size (lo.map a.eval) (hi.map a.eval) none).run P w=.ok (l.toNat,u.toNat,s.size) w:=by
     rcases hh with⟨rfl,rfl⟩ | ⟨yh,kh,rfl,al⟩
     ·rcases hl with⟨rfl,rfl⟩ | ⟨yl,kl,rfl,ay⟩
      ·simp[Instr.sliceBounds]
      ·simp[Instr.sliceBounds,ay,zS aj bb]
     ·rcases hl with⟨rfl,rfl⟩ | ⟨yl,kl,rfl,ay⟩
      ·simp[Instr.sliceBounds,al,zS ak bw]
      ·simp[Instr.sliceBounds,al,ay,zS ak bw,zS aj bc]
    simp only[execOp,Instr.sliceAt,Sem.run_bind,run_underlying hu,Result.andThen_ok,O,PV.val,PV.val1,PV.cv,Instr.slice,mX,me,mF,ni,J,Sem.run_pure]
   ·exact I.elim
  ·rename_i el hu;split at h
   ·exact h.elim
   ·rename_i z hz;obtain⟨p,I,U, -⟩:=yK cd h;split at I
    ·rename_i ad z' es cap;split at I
     ·rename_i ai;subst ai;have O:=U.1.resolve_left aB;have hg:Good w (za av pB e bx) (.sl ad z' es cap):=U.2.1;obtain⟨l,I,hl⟩:=tK (a:=a) (λy hy=>(ho y (by simp[Op.operands,hy])).valOk) I;obtain⟨u,I,hh⟩:=tK (a:=a) (λy hy=>(ho y (by simp[Op.operands,hy])).valOk) I;obtain⟨⟨aj,bb,bw⟩,I⟩:=I;have ak:0<=u:=aA
      have bc:l<=(u.toNat:Int):=aA
      have aw:es.length<=cap:=by
       obtain⟨hH,_⟩:=hg;cases hH with
       | nil=>simp
       | sl _ h _ _ _=>exact h
      have a7:u<=(cap:Int):=aA
      have ce:=hg.slice (l:=l.toNat) (h:=u.toNat) aA aA;have bz:((l.toNat:Nat):Int)=l:=aA
      rw[bz]at ce;have a8:((es.take u.toNat).drop l.toNat).length=u.toNat - l.toNat:=aF
      refine⟨_,_,?_,I,WW ce⟩;have J:(Instr.sliceBounds true es.length cap (lo.map a.eval) (hi.map a.eval) none).run P w=.ok (l.toNat,u.toNat,cap) w:=by
       rcases hh with⟨rfl,rfl⟩ | ⟨yh,kh,rfl,al⟩
       ·rcases hl with⟨rfl,rfl⟩ | ⟨yl,kl,rfl,ay⟩
        ·simp[Instr.sliceBounds]
        ·simp[Instr.sliceBounds,ay,zS aj bb]
       ·rcases hl with⟨rfl,rfl⟩ | ⟨yl,kl,rfl,ay⟩
        ·simp[Instr.sliceBounds,al,zS ak a7]
        ·simp[Instr.sliceBounds,al,ay,zS ak a7,zS aj bc]
      rw[a8];have cr:(if cap=l.toNat then ad else ad.map (·.add (l.toNat*ez z')))=(if(cap:Int)=l then ad else ad.map (·.add (l.toNat*ez z'))):=by
       by_cases hc:cap=l.toNat
       ·rw[if_pos hc,if_pos aA]
       ·rw[if_neg hc,if_neg aA]
      simp only[execOp,Instr.sliceAt,Sem.run_bind,run_underlying hu,Result.andThen_ok,O,PV.val,PV.val1,PV.cv,Instr.slice,mX,J,Sem.run_pure,vg hz,cr]
     ·exact I.elim
    ·rename_i kb z' b3 n c;split at I
     ·have O:=U.1.resolve_left aB;have ae:=U.2.2;obtain⟨u,I,hh⟩:=tK (a:=a) (λy hy=>(ho y (by simp[Op.operands,hy])).valOk) I;obtain⟨⟨ak,a7⟩,I⟩:=I;refine⟨_,_,?_,I,.inr rfl,trivial,ae⟩;have J:(Instr.sliceBounds true n c ((none:Option Operand).map a.eval) (hi.map a.eval) none).run P w=.ok (0,u.toNat,c) w:=by
       rcases hh with⟨rfl,rfl⟩ | ⟨yh,kh,rfl,al⟩
       ·simp[Instr.sliceBounds]
       ·simp[Instr.sliceBounds,al,zS ak a7]
      simp only[mX]at J;cases hb:e.at kb with
      | none=>simp only[execOp,Instr.sliceAt,Sem.run_bind,run_underlying hu,Result.andThen_ok,O,PV.val,PV.val1,PV.cv,hb,Instr.slice,mX,J,Sem.run_pure,vg hz];simp
      | some b=>simp only[execOp,Instr.sliceAt,Sem.run_bind,run_underlying hu,Result.andThen_ok,O,PV.val,PV.val1,PV.cv,hb,Instr.slice,mX,J,Sem.run_pure,vg hz];simp[Addr.add]
     ·rename_i y;split at I
      rotate_left
      ·exact I.elim
      rename_i ai;subst ai;have O:=U.1.resolve_left aB;have ae:=U.2.2;obtain⟨kl,l,I,hl⟩:=tJ (ho y (by simp[Op.operands])).valOk I;obtain⟨u,I,hh⟩:=tK (a:=a) (λy hy=>(ho y (by simp[Op.operands,hy])).valOk) I;obtain⟨⟨aj,bb,a7,bz⟩,I⟩:=I;have ak:0<=u:=aA
      have bc:l<=(u.toNat:Int):=aA
      refine⟨_,_,?_,I,.inr rfl,trivial,ae⟩;have J:(Instr.sliceBounds true n c ((some y:Option Operand).map a.eval) (hi.map a.eval) none).run P w=.ok (l.toNat,u.toNat,c) w:=by
       rcases hh with⟨rfl,rfl⟩ | ⟨yh,kh,rfl,al⟩
       ·simp[Instr.sliceBounds,hl,zS aj bb]
       ·simp[Instr.sliceBounds,al,hl,zS ak a7,zS aj bc]
      have ct:∀ b:Nat,(if c=l.toNat then some (⟨b,b3*ez z',none⟩:Addr)else some ((⟨b,b3*ez z',none⟩:Addr).add (l.toNat*ez z')))=some ⟨b,(b3+loN z' c l)*ez z',none⟩:=λb=>by
       rcases Vn aj bz with⟨h3,h4⟩ | ⟨h3,h4⟩
       ·rw[if_pos h3,h4,mY]
       ·rw[if_neg h3,h4];simp[Addr.add,nJ]
      cases hb:e.at kb with
      | none=>simp only[execOp,Instr.sliceAt,Sem.run_bind,run_underlying hu,Result.andThen_ok,O,PV.val,PV.val1,PV.cv,hb,Instr.slice,mX,J,Sem.run_pure,vg hz];simp
      | some b=>
        simp only[execOp,Instr.sliceAt,Sem.run_bind,run_underlying hu,Result.andThen_ok,O,PV.val,PV.val1,PV.cv,hb,Instr.slice,mX,J,Sem.run_pure,vg hz];simp only[oX,od]
        have:=ct b
        simp[this]
    ·exact I.elim
  ·exact h.elim
 case field t x f=>
  have hx:=ho x (by simp[Op.operands]);split at h
  ·exact h.elim
  ·rename_i o' z ba;obtain⟨fs,fd,hu,hf,hz,rfl⟩:=Ch ba;have ao:∀(cs:aJ) (v:Value),(if z=0 then cs[fd.offset]?=some v else v=.agg ((cs.drop fd.offset).take z).toArray)->(part fd.type cs.toArray fd.offset).run P w=.ok v w:=λcs v a6=>by
    unfold part;rw[Sem.run_bind,K4 hz];simp only[Result.andThen_ok];split at a6
    ·rename_i ab;subst ab;simp[a6]
    ·rename_i ab;subst a6;have he:ez z=z:=by simp[ez,ab]
     simp[ab,vg hz,he]
   split at h
   ·rename_i cs hρ;have O:=hx.h.resolve_left (by rw[hρ];simp);have Y:=hx.ok;have ae:=hx.rf;rw[hρ]at O Y ae;simp only[PV.Ok]at Y;obtain⟨b7,cf⟩:=Y;rw[PV.OkL_iff]at b7;simp only[PV.refs]at ae;split at h
    ·rename_i ab;subst ab;split at h
     ·rename_i ah;have hp:cs[fd.offset]?=some (cs.getD fd.offset .any):=by rw[oA];simp[ah]
      have ac:=oB hp;have hr:=ao (PV.cvs e cs) ((cs.getD fd.offset .any).cv e) (by simp only[mI,PV.cvs_eq,oF,hp,oX]);refine⟨_,_,?_,h,.inr (PV.val_isC (cf _ ac)).symm,b7 _ ac,λk hk=>ae k (PV.refsL_mem.2 ⟨_,ac,hk⟩)⟩;simp only[execOp,Instr.field,run_underlying hu,O,PV.val,PV.val1,asAgg,Sem.run_bind,Sem.run_pure,Result.andThen_ok,hf,hr]
     ·exact h.elim
    ·rename_i ab;split at h
     ·rename_i aw;have hr:=ao (PV.cvs e cs) (.agg (((PV.cvs e cs).drop fd.offset).take z).toArray) (by simp only[ab,ni]);obtain⟨q,hq,cw⟩:=HW (w:=w) (e:=e) (pB:=pB) (bx:=bx) (cs:=(cs.drop fd.offset).take z) (vs:=((PV.cvs e cs).drop fd.offset).take z)
       (by simp[PV.cvs_eq])
       (λi p hp=>.inr (by
        simp only[PV.cvs_eq,om,nT,oF]at hp ⊢;split at hp
        ·rename_i hi;simp[hi,hp]
        ·cases hp))
       (λp hp=>by have ac:=nG (ou hp);exact⟨b7 _ ac,.inr (cf _ ac),λk hk=>ae k (PV.refsL_mem.2 ⟨_,ac,hk⟩)⟩) h
      refine⟨_,q,?_,hq,cw⟩;simp only[execOp,Instr.field,run_underlying hu,O,PV.val,PV.val1,asAgg,Sem.run_bind,Sem.run_pure,Result.andThen_ok,hf,hr]
     ·exact h.elim
   ·rename_i n y hρ;have O:=hx.h.resolve_left (by rw[hρ];simp);have Y:=hx.ok;rw[hρ]at O Y;simp only[PV.Ok]at Y;obtain⟨hg,ha⟩:=Y;have cg:=ha.val;split at h
    ·rename_i ab;subst ab;split at h
     ·rename_i ah;obtain⟨I,U⟩:=ha.cell ah;have hr:=ao (y.cells.map D.cv) (y.cell fd.offset).cv (by simp only[mI,oF,U,oX]);refine⟨_,_,?_,h,DD (hg.cell _) I⟩;simp only[execOp,Instr.field,run_underlying hu,O,PV.val,PV.val1,cg,asAgg,Sem.run_bind,Sem.run_pure,Result.andThen_ok,hf,hr]
     ·exact h.elim
    ·rename_i ab;split at h
     ·rename_i aw;have hr:=ao (y.cells.map D.cv) (y.sub fd.offset z).val (by simp only[ab,ni];simp[D.sub,D.val,List.map_take,List.map_drop]);refine⟨_,_,?_,h,Au (hg.sub _ _) (ha.sub aw)⟩;simp only[execOp,Instr.field,run_underlying hu,O,PV.val,PV.val1,cg,asAgg,Sem.run_bind,Sem.run_pure,Result.andThen_ok,hf,hr]
     ·exact h.elim
   ·exact h.elim
 case extract x i=>
  have hx:=ho x (by simp[Op.operands]);split at h
  ·rename_i l hρ;split at h
   ·exact h.elim
   ·rename_i p cx hp;have O:=hx.h.resolve_left (by rw[hρ];simp);have Y:=hx.ok;have ae:=hx.rf;rw[hρ]at O Y ae;simp only[PV.Ok]at Y;rw[PV.OkL_iff]at Y;have ac:=oB hp;have hi:((l.map (PV.val1 e)).toArray)[i]?=some (p.val1 e):=by simp[hp]
    refine⟨p.val1 e,p,?_,h,?_,Y p ac,λk hk=>ae k (by simp only[PV.refs];exact PV.refsL_mem.2 ⟨p,ac,hk⟩)⟩
    ·simp only[execOp,Instr.extract,O,PV.val,hi,Sem.run_bind,Sem.run_pure,Result.andThen_ok]
    ·cases p<;>first | exact .inr rfl | exact .inl rfl | exact absurd rfl (cx _)
   ·exact h.elim
  ·exact h.elim
 case lookup t m x ok=>
  split at h
  ·rename_i k _ hu;obtain⟨p,I,U, -⟩:=yK (ho x (by simp[Op.operands])).valOk h;split at I
   ·rename_i s y hρ;obtain⟨b,es,c,rfl,oo,hg,hR⟩:=I;have ch:=ho m (by simp[Op.operands]);have Y:=ch.ok;have O:=ch.h.resolve_left (by rw[hρ];simp);rw[hρ]at Y O;simp only[PV.Ok]at Y;have hs:=U.1.resolve_left aB;have hh:w.heap[b]?=some (.map es c):=by cases Y.1.1;assumption
    refine⟨_,_,?_,hR,.inr rfl,by simp[PV.Ok,PV.OkL],by simp[PV.refs,PV.refsL]⟩;simp only[execOp,hs,O,PV.val,PV.val1,PV.cv,D.cv,Sem.run_bind,hg w b hh,Result.andThen_ok,Sem.run_pure,o9,lC]
   ·exact I.elim
  ·exact h.elim
 case makeFunc f first caps=>
  split at h
  ·rename_i f cj;have ba:first=#[]:=by cases first;simp_all
   subst ba;split at h
   ·rename_i bj;rw[ob]at bj;have hc:∀ c∈caps.toList,(ρ c).cv e=a.eval c/\(ρ c).Ok w (za av pB e bx)/\∀ k∈(ρ c).refs,k∉pB/\k<bx.length:=λc aq=>by
     have hx:=ho c (by simp[Op.operands];exact nB.1 aq);have au:=bj (ρ c) (List.mem_map_of_mem aq);have bv:ρ c≠.any:=λh=>by rw[h]at au;cases au
     refine⟨?_,hx.ok,hx.rf⟩;have O:=hx.h.resolve_left bv;rw[O];revert au;generalize ρ c=p;intro au;cases p<;>first | rfl | cases au
    refine⟨_,_,rfl,h,.inr ?_,PV.OkL_iff.2 λp hp=>?_,λk hk=>?_⟩
    ·simp only[PV.val,PV.val1,PV.cv,PV.cvs_eq,mO];have:caps.toList.map (PV.cv e∘ρ)=caps.toList.map a.eval:=nF λc aq=>(hc c aq).1;rw[this];simp only[List.map_toArray,lC];congr 1;apply Array.ext';simp
    ·obtain⟨c,aq,rfl⟩:=oT.1 hp;exact(hc c aq).2.1
    ·simp only[PV.refs]at hk;obtain⟨p,hp,hk⟩:=PV.refsL_mem.1 hk;obtain⟨c,aq,rfl⟩:=oT.1 hp;exact(hc c aq).2.2 k hk
   ·exact h.elim
  ·exact h.elim
 case call c=>
  obtain⟨callee,args,aa⟩:=c;simp only at h;split at h
  ·rename_i x t bg bm;have ha:args=#[x]:=by cases args;simp_all
   have ht:aa=#[t]:=by cases aa;simp_all
   subst ha;subst ht;have hx:=(ho x (by simp[Op.operands,Call.operands])).valOk;split at h
   ·rename_i el hu;obtain⟨p,I,U, -⟩:=yK hx h;split at I
    ·have O:=U.1.resolve_left aB;exact⟨_,_,by simp[execOp,resolve,invoke,builtin,Builtin.len_,run_underlying hu,O,PV.val,PV.val1,PV.cv,goInt],I,zo⟩
    ·rename_i kb z' lo n c;have O:=U.1.resolve_left aB;refine⟨_,_,?_,I,zo⟩;cases hb:e.at kb<;>simp[execOp,resolve,invoke,builtin,Builtin.len_,run_underlying hu,O,PV.val,PV.val1,PV.cv,hb,goInt]
    ·exact I.elim
   ·rename_i hu;obtain⟨p,I,U, -⟩:=yK hx h;split at I
    ·have O:=U.1.resolve_left aB;exact⟨_,_,by simp[execOp,resolve,invoke,builtin,Builtin.len_,run_underlying hu,O,PV.val,PV.val1,PV.cv,goInt],I,zo⟩
    ·exact I.elim
   ·exact h.elim
  ·rename_i x y s t bg bm;have ha:args=#[x,y]:=by cases args;simp_all
   have ht:aa=#[s,t]:=by cases aa;simp_all
   subst ha;subst ht;obtain⟨p,I,U, -⟩:=yK (ho x (by simp[Op.operands,Call.operands])).valOk h;obtain⟨q,h3,h4, -⟩:=yK (ho y (by simp[Op.operands,Call.operands])).valOk I;split at h3
   ·have O:=U.1.resolve_left aB;have b8:=h4.1.resolve_left aB;exact⟨_,_,by simp[execOp,resolve,invoke,builtin,Builtin.max_,Builtin.max2,O,b8,PV.val,PV.val1,PV.cv],h3,zo⟩
   ·exact h3.elim
  ·rename_i x y s t bg bm;have ha:args=#[x,y]:=by cases args;simp_all
   have ht:aa=#[s,t]:=by cases aa;simp_all
   subst ha;subst ht;obtain⟨p,I,U, -⟩:=yK (ho x (by simp[Op.operands,Call.operands])).valOk h;obtain⟨q,h3,h4, -⟩:=yK (ho y (by simp[Op.operands,Call.operands])).valOk I;split at h3
   ·have O:=U.1.resolve_left aB;have b8:=h4.1.resolve_left aB;exact⟨_,_,by simp[execOp,resolve,invoke,builtin,Builtin.min_,Builtin.min2,O,b8,PV.val,PV.val1,PV.cv],h3,zo⟩
   ·exact h3.elim
  ·exact h.elim
def AB:PV->Option (aN)
 | .pg cs=>some cs
 | .dg n x=>some ((List.range n).map λj=>.dc (x.cell j))
 | .any=>none
 | .tp _=>none
 | .d _=>none
 | p=>some [p]
def FC (P:Program)(t:aK):Option (aN):=
 match(P.info? t).bind (·.zero)with
 | some z=>if z.cells.toList.all (·.oneCell')=true then some (BY (zsh P 8 t) (z.cells.toList.map u7))else none
 | none=>none
def qH (off:Nat)(ps cs:aN):aN:=cs.take off++ps++cs.drop (off+ps.length)
def Mj (I:List (Nat × Nat)):aN->List (Nat × PV)->Option (aN)
 | cs,[]=>some cs
 | cs,(i,p)::rest=>match I[i]?,AB p with
   | some (off,n),some ps=>if ps.length=n/\off+n<=cs.length then Mj I (qH off ps cs) rest else none
   | _,_=>none
def C1 (P:Program):List Field->Option (List (Nat × Nat))
 | []=>some []
 | f::fs=>match kz P f.type,C1 P fs with
   | some z,some l=>some ((f.offset,ez z)::l)
   | _,_=>none
def Dr (P:Program)(ρ:Operand->PV)(t:aK)(parts:List (Nat × Operand))(R:PV->Prop):Prop:=
 match P.underlying t,FC P t with
 | some (.struct fs),some cs=>match C1 P fs.toList with
   | some I=>match Mj I cs (parts.map λ(i,x)=>(i,ρ x))with
     | some cs'=>pgR cs' R
     | none=>False
   | none=>False
 | _,_=>False
mutual
def Aq:PV->Option D
 | .int k n=>some (.lit (.int k n))
 | .bool b=>some (.lit (.bool b))
 | .str s=>some (.lit (.string s))
 | .lit x=>some (.lit x)
 | .sv a z es cap=>some (.sl a z es cap)
 | .dc x=>some x
 | .pd ad z x=>some (.pt ad z x)
 | .fn f caps=>match LO caps with
   | some ds=>some (.fn f ds)
   | none=>none
 | _=>none
def LO:aN->Option (aM)
 | []=>some []
 | p::ps=>match Aq p,LO ps with
   | some d,some ds=>some (d::ds)
   | _,_=>none
end
def Ob (z:Nat)(p:PV):Option D:=
 match p with
 | .pg cs=>if z=cs.length/\z≠0 then(match LO cs with | some ds=>some (.ag ds) | none=>none)else none
 | .dg n x=>if n=z/\z≠0 then some x else none
 | p=>if z=0 then Aq p else none
def BQ (z:Nat)(ρ:Operand->PV):Nat->List (Nat × Operand)->Option (aM)
 | _,[]=>some []
 | k,(i,x)::rest=>if i=k then(match Ob z (ρ x),BQ z ρ (k+1) rest with
  | some d,some ds=>some (d::ds)
  | _,_=>none)else none
def Rv (P:Program)(el:aK)(z:Nat):Option D:=
 match FC P el with
 | some cs=>if z=0 then(match cs with | [p]=>Aq p | _=>none)else Ob z (.pg cs)
 | none=>none
def P4 (P:Program) (ρ:Operand->PV) (op:Op) (R:Bx->(Nat->PV)->Prop):Prop:=
 match op with
 | .alloc t=>match FC P t with
   | some cs=>R (.var cs) (λk=>.pb k 0 0 0)
   | none=>False
 | .box t x=>match ρ x with
   | .pg cs=>R (.var cs) (λk=>.pb k 0 0 0)
   | .dg n y=>R (.vd y n) (λk=>.pb k 0 0 0)
   | .any=>False
   | .tp _=>False
   | .d _=>False
   | p=>R (.var [retag P t p]) (λk=>.pb k 0 0 0)
 | .buildSlice t n parts=>match P.underlying t with
   | some (.slice el)=>match kz P el with
     | some z=>match BQ z ρ 0 parts.toList with
       | some es=>if es.length=n/\n*ez z<=2 ^ 24/\(FC P el).isSome=true then R (.arr el z es n) (λk=>.sb k z 0 n n)else False
       | none=>False
     | none=>False
   | _=>False
 | .makeSlice t l c=>match P.underlying t with
   | some (.slice el)=>match kz P el,P.info? el with
     | some z,some i=>match Rv P el z with
       | some zd=>Ug (ρ l) λn=>Ug (ρ c) λm=>(0<=n/\n<=m/\(i.bytes:Int)*m<=140737488355328/\m<=9223372036854775807) /\
        R (.arr el z (List.replicate n.toNat zd) m.toNat) (λk=>.sb k z 0 n.toNat m.toNat)
       | none=>False
     | _,_=>False
   | _=>False
 | _=>False
variable {av:Nat->Prop} {P:Program} {w:World} {e:Env} {pB:aI} {bx:aO} {a:Act}
mutual
theorem wF:∀ {p:PV} {d:D},Aq p=some d->∀ {live:Nat->Prop},p.Ok w live->Good w live d/\d.isCell/\d.cv=p.cv e/\p.isC/\p.refs=[]
 | .int ..,d,h,live,I=>by simp[Aq]at h;subst h;exact⟨Good.lit,rfl,rfl,trivial,rfl⟩
 | .bool ..,d,h,live,I=>by simp[Aq]at h;subst h;exact⟨Good.lit,rfl,rfl,trivial,rfl⟩
 | .str ..,d,h,live,I=>by simp[Aq]at h;subst h;exact⟨Good.lit,rfl,rfl,trivial,rfl⟩
 | .lit ..,d,h,live,I=>by simp[Aq]at h;subst h;simp[PV.Ok]at I;exact⟨Good.lit,I,rfl,I,rfl⟩
 | .sv ..,d,h,live,I=>by simp[Aq]at h;subst h;simp[PV.Ok]at I;exact⟨I,trivial,rfl,trivial,rfl⟩
 | .dc ..,d,h,live,I=>by simp[Aq]at h;subst h;simp[PV.Ok]at I;exact⟨I.1,I.2,rfl,trivial,rfl⟩
 | .pd ad z x,d,h,live,I=>by
   simp[Aq]at h;subst h;simp only[PV.Ok]at I
   obtain⟨J,O,U,h4,h5,h6⟩:=I
   refine⟨⟨.pt U O h4 J.1,λb hb=>?_⟩,trivial,rfl,trivial,rfl⟩
   simp only[D.foot]at hb
   rcases oK.1 hb with rfl | hb
   ·exact h5
   ·exact J.2 b hb
 | .fn f caps,d,h,live,I=>by
   simp only[Aq]at h
   split at h
   ·rename_i ds Y
    simp at h;subst h
    simp only[PV.Ok]at I
    obtain⟨J,O,U⟩:=ES Y I
    refine⟨⟨.fn (λc hc=>(J c hc).2) λc hc=>(J c hc).1.1,λb hb=>?_⟩,trivial,?_,trivial,by simp only[PV.refs];exact U⟩
    ·simp only[D.foot]at hb
     obtain⟨c,hc,aa⟩:=zJ.1 hb
     exact(J c hc).1.2 b aa
    ·simp only[D.cv,PV.cv,D.cvL_eq,O]
   ·cases h
 | .any,d,h,live,I=>by simp[Aq]at h
 | .d ..,d,h,live,I=>by simp[Aq]at h
 | .dg ..,d,h,live,I=>by simp[Aq]at h
 | .pb ..,d,h,live,I=>by simp[Aq]at h
 | .sb ..,d,h,live,I=>by simp[Aq]at h
 | .pg ..,d,h,live,I=>by simp[Aq]at h
 | .tp ..,d,h,live,I=>by simp[Aq]at h
theorem ES:∀ {ps:aN} {ds:aM},LO ps=some ds->∀ {live:Nat->Prop},PV.OkL w live ps->(∀ d∈ds,Good w live d/\d.isCell)/\ds.map D.cv=PV.cvs e ps/\PV.refsL ps=[]
 | [],ds,h,live,I=>by simp[LO]at h;subst h;simp[PV.cvs,PV.refsL]
 | p::ps,ds,h,live,I=>by
   simp only[LO]at h
   split at h
   ·rename_i d ab J O
    simp at h;subst h
    obtain⟨a1,a2,a3,_,a4⟩:=wF J I.1
    obtain⟨b1,b2,b3⟩:=ES O I.2
    refine⟨λx hx=>?_,by simp[PV.cvs,a3,b2],by simp[PV.refsL,a4,b3]⟩
    rcases oK.1 hx with rfl | hx
    ·exact⟨a1,a2⟩
    ·exact b1 x hx
   ·cases h
end
theorem rg {ps ds}(h:LO ps=some ds){live}(I:PV.OkL w live ps):(∀ d∈ds,Good w live d/\d.isCell)/\ds.map D.cv=PV.cvs e ps:=
 let⟨J,O,_⟩:=ES h I;⟨J,O⟩
theorem t7 {ps ds}(h:LO ps=some ds):ds.length=ps.length:=by
 induction ps generalizing ds with
 | nil=>simp[LO]at h;subst h;rfl
 | cons p ps I=>
   simp only[LO]at h;split at h
   ·rename_i d J U O;simp at h;subst h;simp[I O]
   ·cases h
theorem EA {z p d}(h:Ob z p=some d){live}(I:p.Ok w live):Good w live d/\eOk z d/\d.val=p.val e:=by
 unfold Ob at h;split at h
 ·rename_i cs;split at h
  ·rename_i J;split at h
   ·rename_i ds O;simp at h;subst h;simp only[PV.Ok]at I;obtain⟨a1,a2⟩:=rg (e:=e) O I.1;refine⟨Good.ag λc hc=>(a1 c hc).1,?_,by simp[D.val,PV.val,PV.val1,a2]⟩;simp only[eOk,J.2,ni];exact⟨ds,rfl,by rw[t7 O,J.1],λc hc=>(a1 c hc).2⟩
   ·cases h
  ·cases h
 ·rename_i n x;split at h
  ·rename_i J;obtain⟨rfl,J⟩:=J;simp at h;subst h;simp only[PV.Ok]at I;exact⟨I.1,by simp only[eOk,J,ni];exact I.2,rfl⟩
  ·cases h
 ·split at h
  ·rename_i J;subst J;obtain⟨a1,a2,a3,a4,_⟩:=wF (e:=e) h I;exact⟨a1,by simpa [eOk]using a2,by rw[D.val_isCell a2,a3,PV.val_isC a4]⟩
  ·cases h
theorem S1 off:∀(vs:aJ) (k:Nat) (cs:Array Value),off+k+vs.length<=cs.size ->
  ((vs.zipIdx k).foldl (λcs (c,j)=>cs.setIfInBounds (off+j) c) cs).toList=cs.toList.take (off+k)++vs++cs.toList.drop (off+k+vs.length)
 | [],k,cs,h=>aB
 | v::vs,k,cs,h=>by
   simp only[List.zipIdx_cons,List.foldl_cons];rw[S1 off vs (k+1) _ (by simp at h ⊢;omega)];simp only[Array.toList_setIfInBounds]
   have:=list_seg_step cs.toList (off+k) v vs (by simp at h ⊢;omega)
   simpa [my]using this
theorem Pn {place:Nat->Option (Nat × Nat)}{cells i off n v}{rest:List (Nat × Value)}(I:place i=some (off,n))(J:v.cells.size=n)(O:off+n<=cells.size) :
  Instr.fill place cells ((i,v)::rest)=Instr.fill place (cells.toList.take off++v.cells.toList++cells.toList.drop (off+n)).toArray rest:=by
 have hc:(decide (v.cells.size≠n)||decide (off+v.cells.size>cells.size))=false:=aF
 have U:=S1 off v.cells.toList 0 cells aF;simp only[Instr.fill,I,hc,mF,ni];congr 1;apply Array.ext';rw[<-Array.foldl_toList];simp only[Array.toList_zipIdx];rw[U];simp[J]
def CellsAre e(vs:aJ)(ps:aN):=vs.length=ps.length/\∀(i:Nat) (p:PV),ps[i]?=some p->p=.any\/vs[i]?=some (p.cv e)
def De av w e pB bx(ps:aN):=∀ p∈ps,p.Ok w (za av pB e bx)/\(p=.any\/p.isC)/\∀ k∈p.refs,k∉pB/\k<bx.length
theorem CellsAre.append {vs I ps J}(h:CellsAre e vs ps)(U:CellsAre e I J):CellsAre e (vs++I) (ps++J):=by
 refine⟨by simp[h.1,U.1],λi p O=>?_⟩;rw[m7]at O ⊢;rw[h.1];split at O
 ·rename_i hi;rw[if_pos hi];exact h.2 i p O
 ·rename_i hi;rw[if_neg hi];exact U.2 _ p O
theorem CellsAre.take {vs ps}(h:CellsAre e vs ps) n:CellsAre e (vs.take n) (ps.take n):=by
 refine⟨by simp[h.1],λi p I=>?_⟩;simp only[om]at I ⊢;split at I
 ·rename_i hi;rw[if_pos hi];exact h.2 i p I
 ·cases I
theorem CellsAre.drop {vs ps}(h:CellsAre e vs ps) n:CellsAre e (vs.drop n) (ps.drop n):=by refine⟨by simp[h.1],λi p I=>?_⟩;simp only[nT]at I ⊢;exact h.2 _ p I
theorem G7 {p:PV}(h:p.isC){live}(I:p.Ok w live):(p.cv e).oneCell'=true:=by
 cases p<;>simp[PV.isC]at h<;>simp only[PV.Ok]at I<;>simp only[PV.cv]<;>try rfl
 case lit=>exact h
 case d=>exact xz h
 case dc=>exact xz I.2
 case sb=>split<;>rfl
theorem w9 {v p ps}(h:AB p=some ps)(Y:ValOk av w e pB bx v p) :
  CellsAre e v.cells.toList ps/\(∀ p∈ps,p.Ok w (za av pB e bx)/\p.isC/\∀ k∈p.refs,k∉pB/\k<bx.length)/\∀ x∈v.cells.toList,x.oneCell'=true:=by
 obtain⟨h1,U,h3⟩:=Y;have one:∀ q:PV,q.isC->p=q->CellsAre e v.cells.toList [q]/\(∀ p∈[q],p.Ok w (za av pB e bx)/\p.isC/\∀ k∈p.refs,k∉pB/\k<bx.length)/\∀ x∈v.cells.toList,x.oneCell'=true:=λq I ac=>by
  subst ac;have ae:p≠.any:=λh=>by subst h;exact I
  have aa:=(h1.resolve_left ae).trans (PV.val_isC I);have ab:v.oneCell'=true:=by rw[aa];exact G7 I U
  have J:v.cells=#[v]:=by cases v<;>simp[Value.cells,Value.oneCell']at ab ⊢
  rw[J];refine⟨⟨rfl,λi r O=>?_⟩,λr O=>?_,by simpa using ab⟩
  ·cases i with
   | zero=>simp at O;subst O;exact .inr (by simp[aa])
   | succ i=>simp at O
  ·simp at O;subst O;exact⟨U,I,h3⟩
 cases p<;>simp[AB]at h
 case pg cs=>
  subst h;have Y:=h1.resolve_left aB;simp only[PV.Ok]at U;obtain⟨a1,a2⟩:=U;rw[PV.OkL_iff]at a1;simp only[PV.refs]at h3;have J:v.cells.toList=cs.map (PV.cv e):=by rw[Y];simp[PV.val,PV.val1,Value.cells,PV.cvs_eq]
  refine⟨⟨by rw[J];simp,λi q I=>.inr (by rw[J,oF,I];rfl)⟩,λq I=>⟨a1 q I,a2 q I,λk hk=>h3 k (PV.refsL_mem.2 ⟨q,I,hk⟩)⟩,?_⟩;rw[J];intro x hx;obtain⟨q,I,rfl⟩:=oT.1 hx;exact G7 (a2 q I) (a1 q I)
 case dg n x=>
  subst h;have Y:=h1.resolve_left aB;simp only[PV.Ok]at U;obtain⟨hg,ha⟩:=U;have J:v.cells.toList=x.cells.map D.cv:=by rw[Y];simp only[PV.val,PV.val1,ha.val,Value.cells]
  have hl:=ha.length;refine⟨⟨by rw[J];simp[hl],λi q I=>.inr ?_⟩,λq I=>?_,?_⟩
  ·rw[oF]at I;cases O:(List.range n)[i]? with
   | none=>simp[O]at I
   | some j=>
     rw[O]at I;simp at I;subst I;have hi:i<n:=by have:=(oD.1 O).1;simpa using this
     have hj:j=i:=by have:=(oD.1 O).2;simpa using this.symm
     subst hj;rw[J,oF,(ha.cell hi).2];rfl
  ·obtain⟨j,hj,rfl⟩:=oT.1 I;exact⟨⟨hg.cell j,(ha.cell (by simpa using hj)).1⟩,trivial,by simp[PV.refs]⟩
  ·rw[J];intro y hy;obtain⟨u,hu,rfl⟩:=oT.1 hy;obtain⟨cs,rfl,_,hc⟩:=ha;exact xz (hc u hu)
 case lit x=>subst h;exact one _ U rfl
 all_goals(subst h;exact one _ (by simp[PV.isC]) rfl)
theorem uQ {t cs}(h:FC P t=some cs):∃ i z,P.info? t=some i/\i.zero=some z/\(∀(w:World) (e:Env),CellsAre e z.cells.toList cs) /\
  (∀(w:World) (live:Nat->Prop),∀ p∈cs,p.Ok w live/\p.isC/\p.refs=[])/\∀ x∈z.cells.toList,x.oneCell'=true:=by
 unfold FC at h;cases hi:P.info? t with
 | none=>simp[hi]at h
 | some i=>
   cases U:i.zero with
   | none=>simp[hi,U]at h
   | some z=>
     simp only[hi,U,oO]at h;split at h
     ·rename_i I;rw[ob]at I;simp at h;subst h;refine⟨i,z,rfl,U,λw e=>?_,λw live=>?_,I⟩
      ·have Y:=AF (zsh P 8 t) (z.cells.toList.map u7) w (λ_=>False) e (PV.OkL_iff.2 λp J=>by obtain⟨v,_,rfl⟩:=oT.1 J;exact(zw v w _ e).1);obtain⟨_,_,hc,_⟩:=Y;rw[PV.cvs_eq,PV.cvs_eq,mO]at hc;have aa:(z.cells.toList.map (PV.cv e∘u7))=z.cells.toList:=by
        conv=>rhs;rw[<-lV z.cells.toList]
        exact nF λv hv=>((zw v w (λ_=>False) e).2.2.2 (I v hv)).1
       rw[aa]at hc;have hl:=oY List.length hc;refine⟨by simpa using hl.symm,λi p J=>.inr ?_⟩;rw[<-hc,oF,J];rfl
      ·have Y:=AF (zsh P 8 t) (z.cells.toList.map u7) w live [] (PV.OkL_iff.2 λp J=>by obtain⟨v,_,rfl⟩:=oT.1 J;exact(zw v w _ []).1);obtain⟨h1,h2,_,h4⟩:=Y;rw[PV.OkL_iff]at h1;intro p J;refine⟨h1 p J,h4 (λq hq=>by obtain⟨v,hv,rfl⟩:=oT.1 hq;exact((zw v w live []).2.2.2 (I v hv)).2) p J,?_⟩;refine na.2 λk O=>?_;have:k∈PV.refsL (z.cells.toList.map u7):=h2 ▸ PV.refsL_mem.2 ⟨p,J,O⟩;obtain⟨q,hq,O⟩:=PV.refsL_mem.1 this;obtain⟨v,_,rfl⟩:=oT.1 hq;rw[(zw v w live []).2.1]at O;simp at O
     ·cases h
theorem uX {t i z}(hi:P.info? t=some i)(I:i.zero=some z):(zeroValue t).run P w=.ok z w:=by simp[zeroValue,typeInfo,hi,I]
theorem LB {fs}{I:List (Nat × Nat)}(h:C1 P fs=some I) :
  (fs.mapM λf=>do pure (f.offset,<-sizeOf f.type):Sem (List (Nat × Nat))).run P w=.ok I w:=by
 induction fs generalizing I with
 | nil=>simp[C1]at h;subst h;rfl
 | cons f fs J=>
   simp only[C1]at h;split at h
   ·rename_i z l O U;simp at h;subst h;rw[List.mapM_cons];simp only[Sem.run_bind,vg O,J U,Sem.run_pure,Result.andThen_ok]
   ·cases h
theorem Oc {pl:List (Nat × Nat)}{cs cs'}{parts:List (Nat × PV)}{vs:List (Nat × Value)}{cells}(h:Mj pl cs parts=some cs')(hc:CellsAre e cells.toList cs)(J:De av w e pB bx cs)(hp:parts.length=vs.length)(hv:∀(j:Nat) i p,parts[j]?=some (i,p)->∃ v,vs[j]?=some (i,v)/\ValOk av w e pB bx v p) :
  ∃ I,Instr.fill (pl.toArray[·]?) cells vs=some I/\CellsAre e I.toList cs'/\De av w e pB bx cs':=by
 induction parts generalizing cs vs cells with
 | nil=>simp at hp;have ah:vs=[]:=ms.1 hp.symm;subst ah;simp[Mj]at h;subst h;exact⟨cells,rfl,hc,J⟩
 | cons x parts ih=>
   obtain⟨i,p⟩:=x;cases vs with
   | nil=>simp at hp
   | cons y vs=>
     obtain⟨v,U,Y⟩:=hv 0 i p rfl;simp at U;subst U;simp only[Mj]at h;split at h
     ·rename_i off n ps h1 h2;split at h
      ·rename_i ai;obtain⟨a1,a2,a3⟩:=w9 h2 Y;have aa:=a1.1;have aj:=hc.1;have ab:qH off ps cs=cs.take off++ps++cs.drop (off+ps.length):=rfl;have O:=Pn (place:=(pl.toArray[·]?)) (cells:=cells) (i:=i) (off:=off) (n:=n) (v:=v) (rest:=vs) (by simpa using h1) (by simp at aa;omega) (by simp at aj;omega);have ac:CellsAre e (cells.toList.take off++v.cells.toList++cells.toList.drop (off+n)) (qH off ps cs):=by rw[ab,ai.1];exact((hc.take off).append a1).append (hc.drop _)
       have ae:De av w e pB bx (qH off ps cs):=by
        rw[ab];intro q hq;rcases oM.1 hq with hq | hq
        ·rcases oM.1 hq with hq | hq
         ·exact J q (ou hq)
         ·exact⟨(a2 q hq).1,.inr (a2 q hq).2.1,(a2 q hq).2.2⟩
        ·exact J q (nG hq)
       obtain⟨I,b1,b2,b3⟩:=ih h (cells:=(cells.toList.take off++v.cells.toList++cells.toList.drop (off+n)).toArray) (vs:=vs) (by simpa using ac) ae (by simpa using hp)
        (λj i p hj=>hv (j+1) i p (by simpa using hj))
       exact⟨I,by rw[O];exact b1,b2,b3⟩
      ·cases h
     ·cases h
theorem Ka {ρ t}{parts:Array (Nat × Operand)}{R}(ho:∀ x∈(Op.build t parts).operands,OpdOk av a w e pB bx x (ρ x))(h:Dr P ρ t parts.toList R) :
  ∃ v p,(Instr.build t (parts.map λ(i,x)=>(i,a.eval x))).run P w=.ok v w/\R p/\ValOk av w e pB bx v p:=by
 unfold Dr at h;split at h
 ·rename_i fs cs hu hz;split at h
  ·rename_i pl ac;split at h
   ·rename_i cs' U;obtain⟨i,z,hi,ae,I,Y,_⟩:=uQ hz;have aa:=LB (w:=w) ac;obtain⟨J,b1,b2,b3⟩:=Oc (w:=w) (e:=e) (pB:=pB) (bx:=bx) (cells:=z.cells) (vs:=parts.toList.map λ(i,x)=>(i,a.eval x)) U (I w e)
     (λp hp=>⟨(Y w _ p hp).1,.inr (Y w (λ_=>False) p hp).2.1,by rw[(Y w (za av pB e bx) p hp).2.2];simp⟩) aB
     (λj i p hj=>by
      rw[oF]at hj;cases hx:parts.toList[j]? with
      | none=>simp[hx]at hj
      | some y=>rw[hx]at hj;simp at hj;obtain⟨rfl,rfl⟩:=hj;have ab:=oB hx;refine⟨a.eval y.2,by rw[oF,hx];rfl,(ho y.2 ?_).valOk⟩;simp only[Op.operands];simp;exact⟨y.1,nB.1 (by simpa using ab)⟩)
    obtain⟨q,hq,ah⟩:=HW (w:=w) (e:=e) (pB:=pB) (bx:=bx) (vs:=J.toList) b2.1.symm b2.2 b3 h;refine⟨_,q,?_,hq,by simpa using ah⟩;have hm:(fs.mapM (λf=>do pure (f.offset,<-sizeOf f.type)):Sem (Array (Nat × Nat))).run P w=.ok pl.toArray w:=by rw[Array.mapM_eq_mapM_toList];simp only[Sem.run_map,aa,Result.andThen_ok]
    have O:(parts.map λ(i,x)=>(i,a.eval x)).toList=parts.toList.map λ(i,x)=>(i,a.eval x):=aB
    unfold Instr.build;simp only[Sem.run_bind,uX hi ae,Result.andThen_ok,run_underlying hu,hm,O,b1,Sem.run_pure]
   ·exact h.elim
  ·exact h.elim
 ·exact h.elim
structure NewBox (av:Nat->Prop) (w:World) (e:Env) (pB:aI) (bx:aO) (v:Value) (w':World) (B:Bx) (f:Nat->PV):Prop where
 val:∀(k:Nat) (e':Env),e'.at k=some w.heap.size->v=(f k).val e'
 fr:∀ k,(f k).refs=[k]
 fok:∀(k:Nat) (w:World) (live:Nat->Prop),(f k).Ok w live
 rel:∀ e':Env,(∀ k∈B.refs,e'.at k=e.at k)->B.Rel w' e' (some w.heap.size)
 ok:B.Ok w (za av pB e bx)
 rf:∀ k∈B.refs,k∉pB/\k<bx.length
 ng:B≠.gone
theorem OH {cs c t}{o:Obj}(hc:CellsAre e c.toList cs):∀ e':Env,(∀ k∈(Bx.var cs).refs,e'.at k=e.at k)->(Bx.var cs).Rel (w.alloc (.cells c t)) e' (some w.heap.size):=by
 intro e' J;refine⟨w.heap.size,c,t,rfl,heap_alloc_new w _,by have:=hc.1;simpa using this,λi p I=>?_⟩;rcases hc.2 i p I with h | h
 ·exact .inl h
 ·refine .inr ?_;rw[PV.cv_congr p λk O=>J k (by simp only[Bx.refs];exact PV.refsL_mem.2 ⟨p,oB I,O⟩)];simpa using h
theorem Ag {B w'}(rel:∀ e':Env,(∀ k∈B.refs,e'.at k=e.at k)->B.Rel w' e' (some w.heap.size))(ok:B.Ok w (za av pB e bx))(rf:∀ k∈B.refs,k∉pB/\k<bx.length)(ng:B≠.gone):NewBox av w e pB bx (.pointer (some ⟨w.heap.size,0,none⟩)) w' B (λk=>.pb k 0 0 0):=
 ⟨λk e' h=>by simp[PV.val,PV.val1,PV.cv,h],λ_=>rfl,λ_ _ _=>trivial,rel,ok,rf,ng⟩
theorem Jn {w' t z n m es c}(hb:w'.heap[w.heap.size]?=some (.cells c t (0,0)))(hc:c.size=m*ez z)(hn:es.length=n)(O:n<=m)(U:m<=maxLen)(I:∀ x∈es,eOk z x/\Good w (za av pB e bx) x)(Y:∀(i:Nat) (u:D),(yM es)[i]?=some u->c[i]?=some u.cv) :
   NewBox av w e pB bx (.slice (some ⟨w.heap.size,0,none⟩) n m) w' (.arr t z es m) (λk=>.sb k z 0 n m):=
 ⟨λk e' h=>by simp[PV.val,PV.val1,PV.cv,h],λ_=>rfl,λ_ _ _=>trivial,
  λe' _=>.inr ⟨w.heap.size,c,rfl,hb,Nat.le_of_eq hc.symm,aA,U,λx J=>(I x J).1,Y⟩,λx J=>(I x J).2,by simp[Bx.refs],aB⟩
theorem D8 {z d}(h:eOk z d):d.val.cells.toList=d.cells.map D.cv:=by
 unfold eOk at h;split at h
 ·cases d with
  | ag cs=>exact h.elim
  | lit x=>simp[D.isCell]at h;cases x<;>simp[Value.oneCell']at h<;>rfl
  | sl a z es cap=>rfl
  | pt ad z x=>rfl
  | fn f caps=>rfl
  | mp b es c=>rfl
 ·obtain⟨cs,rfl,_,_⟩:=h;simp[D.val,D.cells,Value.cells]
theorem Po {z}:∀(ds:aM) (k:Nat) (cells:Array Value),(∀ d∈ds,eOk z d)->(k+ds.length)*ez z<=cells.size ->
  ∃ I,Instr.fill (λi=>some (i*ez z,ez z)) cells ((ds.map D.val).zipIdx k |>.map λx=>(x.2,x.1))=some I /\
    I.toList=cells.toList.take (k*ez z)++(yM ds).map D.cv++cells.toList.drop ((k+ds.length)*ez z)
 | [],k,cells,_,_=>⟨cells,rfl,by simp[yM]⟩
 | d::ds,k,cells,h,U=>by
   have hd:=h d aB;have aa:d.val.cells.size=ez z:=by rw[<-nY,D8 hd,nE,xS hd]
   have Y:k*ez z+ez z<=cells.size:=by simp only[oJ]at U;have:(k+1)*ez z<=(k+(ds.length+1))*ez z:=ol _ aA;rw[nJ,mu]at this;omega
   have h1:=Pn (place:=λi=>some (i*ez z,ez z)) (cells:=cells) (i:=k) (off:=k*ez z) (n:=ez z) (v:=d.val)
    (rest:=(ds.map D.val).zipIdx (k+1) |>.map λx=>(x.2,x.1)) rfl aa Y
   obtain⟨I,h2,h3⟩:=Po ds (k+1) (cells.toList.take (k*ez z)++d.val.cells.toList++cells.toList.drop (k*ez z+ez z)).toArray (λx hx=>h x (by simp[hx]))
    (by simp only[oJ]at U;rw[show k+1+ds.length=k+(ds.length+1) by omega];simp;omega)
   refine⟨I,by simpa using h1.trans h2,?_⟩;rw[h3];simp only[List.toList_toArray,uZ,mm,D8 hd];have e1:(k+1)*ez z=k*ez z+ez z:=by rw[nJ,mu]
   have J:(cells.toList.take (k*ez z)).length=k*ez z:=aF
   have O:(d.cells.map D.cv).length=ez z:=by simp[xS hd]
   have ht:(cells.toList.take (k*ez z)++d.cells.map D.cv++cells.toList.drop (k*ez z+ez z)).take ((k+1)*ez z)=cells.toList.take (k*ez z)++d.cells.map D.cv:=by rw[mv (by simp only[oG,J,O];omega),o3 (by simp only[oG,J,O];omega)]
   have ab:(cells.toList.take (k*ez z)++d.cells.map D.cv++cells.toList.drop (k*ez z+ez z)).drop ((k+1+ds.length)*ez z)=cells.toList.drop ((k+(d::ds).length)*ez z):=by
    have e2:(k+1+ds.length)*ez z=k*ez z+ez z+ds.length*ez z:=by rw[nJ,e1]
    rw[List.drop_append,mQ (by simp only[oG,J,O];omega),oa,List.drop_drop];simp only[oG,J,O];congr 1;simp only[oJ];rw[show k+(ds.length+1)=k+1+ds.length by omega,e2];omega
   rw[ht,ab];simp
theorem G0 {z ρ}:∀(parts:List (Nat × Operand)) (k:Nat) (ds:aM),BQ z ρ k parts=some ds->(∀ x∈parts,OpdOk av a w e pB bx x.2 (ρ x.2)) ->
  (∀ d∈ds,eOk z d/\Good w (za av pB e bx) d)/\(parts.map λ(i,x)=>(i,a.eval x))=((ds.map D.val).zipIdx k |>.map λx=>(x.2,x.1))
 | [],k,ds,h,_=>by simp[BQ]at h;subst h;simp
 | (i,x)::rest,k,ds,h,Y=>by
   simp only[BQ]at h;split at h
   ·rename_i I;subst I;split at h
    ·rename_i d J O h2;simp at h;subst h;have hx:=Y (i,x) aB;obtain⟨a1,a2,a3⟩:=EA (e:=e) O hx.ok;obtain⟨b1,b2⟩:=G0 rest (i+1) J h2 (λy hy=>Y y (by simp[hy]));have U:ρ x≠.any:=λhh=>by rw[hh]at O;simp[Ob,Aq]at O
     have hv:=hx.h.resolve_left U;refine⟨λy hy=>?_,?_⟩
     ·rcases oK.1 hy with rfl | hy
      ·exact⟨a2,a1⟩
      ·exact b1 y hy
     ·simp only[o9,List.zipIdx_cons,b2];rw[hv,a3]
    ·cases h
   ·cases h
theorem RU {ρ o R}(ho:∀ x∈o.op.operands,OpdOk av a w e pB bx x (ρ x))(h:P4 P ρ o.op R) :
  ∃ v c t B f,(execOp a.eval o).run P w=.ok (.value v) (w.alloc (.cells c t))/\R B f/\NewBox av w e pB bx v (w.alloc (.cells c t)) B f:=by
 obtain⟨dst,op,ty,pos,after,guard⟩:=o;simp only at ho h ⊢;cases op<;>simp only[P4]at h<;>try exact h.elim
 case alloc t=>
  split at h
  ·rename_i cs hz;obtain⟨i,z,hi,bw,U,O,_⟩:=uQ hz;refine⟨_,z.cells,t,_,_,?_,h,Ag (OH (o:=.cells z.cells t) (U w e)) ⟨PV.OkL_iff.2 λp J=>(O w _ p J).1,λp J=>.inr (O w (λ_=>False) p J).2.1⟩ ?_ aB⟩
   ·simp only[execOp,Instr.alloc,Sem.run_bind,uX hi bw,Result.andThen_ok,newVar,newRow,newObj,Sem.run,Sem.run_pure];rfl
   ·intro k hk;simp only[Bx.refs]at hk;obtain⟨p,J,hk⟩:=PV.refsL_mem.1 hk;rw[(O w (λ_=>False) p J).2.2]at hk;simp at hk
  ·exact h.elim
 case box t x=>
  have hx:=ho x (by simp[Op.operands]);have ab:∀ v,a.eval x=v->(execOp a.eval { dst:=dst,op:=Op.box t x,type:=ty,pos:=pos,after:=after,guard:=guard }).run P w=.ok (.value (.pointer (some ⟨w.heap.size,0,none⟩))) (w.alloc (.cells v.cells t)):=λv hv=>by simp only[execOp,Instr.box,Sem.run_bind,hv,newVar,newRow,newObj,Sem.run,Sem.run_pure,Result.andThen_ok];rfl
  have one:∀ q:PV,q=retag P t (ρ x)->q.isC->(∃ cs,AB (ρ x)=some cs/\cs.length=1/\∀ c∈cs,c=ρ x)->R (.var [q]) (λk=>.pb k 0 0 0) ->
    ∃ v c t' B f,(execOp a.eval { dst:=dst,op:=Op.box t x,type:=ty,pos:=pos,after:=after,guard:=guard }).run P w=.ok (.value v) (w.alloc (.cells c t'))/\R B f/\NewBox av w e pB bx v (w.alloc (.cells c t')) B f:=λq hq al ah hR=>by
   obtain⟨cs,ac,hl,ae⟩:=ah;have ao:=hx.valOk;obtain⟨a1,a2,a3⟩:=w9 ac ao
   match cs,hl with
   | [c0],_=>
     have aq:=ae c0 aB;subst aq;obtain⟨r1,r2,r3,r4⟩:=Hc (P:=P) t (ρ x) w (za av pB e bx) e hx.ok;have cj:q.isC:=al;refine⟨_,_,t,_,_,ab _ rfl,hR,Ag (OH (o:=.cells (a.eval x).cells t) (e:=e) (cs:=[q]) ?_) ⟨⟨by rw[hq];exact r1,trivial⟩,λp J=>.inr (by simp at J;rw[J];exact al)⟩ ?_ aB⟩
     ·refine⟨a1.1,λi p J=>?_⟩;cases i with
      | succ i=>simp at J
      | zero=>
        simp at J;subst J;rcases a1.2 0 (ρ x) rfl with h | h
        ·left;rw[hq];exact r4.2 h
        ·right;rw[h,<-PV.val_isC al,hq,r3,PV.val_isC (a2 _ aB).2.1]
     ·intro k hk;simp only[Bx.refs,PV.refsL,o8]at hk;rw[hq,r2]at hk;exact hx.rf k hk
  have ax:∀ p:PV,p.isC->(retag P t p).isC:=λp J=>by
   cases p<;>simp[PV.isC]at J<;>simp only[retag,uf]<;>try trivial
   ·split
    ·split<;>trivial
    ·trivial
  split at h
  ·rename_i cs hρ;have ao:=hx.valOk;obtain⟨a1,a2,a3⟩:=w9 (ps:=cs) (by rw[hρ];rfl) ao;exact⟨_,_,t,_,_,ab _ rfl,h,Ag (OH (o:=.cells (a.eval x).cells t) a1) ⟨PV.OkL_iff.2 λp J=>(a2 p J).1,λp J=>.inr (a2 p J).2.1⟩
    (λk hk=>by simp only[Bx.refs]at hk;obtain⟨p,J,hk⟩:=PV.refsL_mem.1 hk;exact(a2 p J).2.2 k hk) aB⟩
  ·rename_i n y hρ;have hv:=hx.h.resolve_left (by rw[hρ];simp);have O:=hx.ok;rw[hρ]at hv O;simp only[PV.Ok]at O;obtain⟨hg,ha⟩:=O;have ay:(a.eval x).cells.toList=y.cells.map D.cv:=by rw[hv];simp only[PV.val,PV.val1,ha.val,Value.cells]
   have ai:(a.eval x).cells.size=n:=by rw[<-nY,ay,nE,ha.length]
   refine⟨_,_,t,_,_,ab _ rfl,h,Ag (λe' _=>⟨w.heap.size,_,t,rfl,heap_alloc_new w _,ai,ha,λi u hu=>?_⟩) hg (by simp[Bx.refs]) aB⟩;rw[<-nR,ay,oF,hu];rfl
  ·exact h.elim
  ·exact h.elim
  ·exact h.elim
  ·rename_i p h1 h2 h3 h4 h5;have ah:∃ cs,AB (ρ x)=some cs/\cs.length=1/\∀ c∈cs,c=ρ x:=by cases J:ρ x<;>simp[J]at h1 h2 h3 h4 h5<;>exact⟨_,rfl,rfl,aB⟩
   have az:(ρ x).isC:=by
    obtain⟨cs,ac,hl,ae⟩:=ah;obtain⟨_,a2,_⟩:=w9 ac hx.valOk
    match cs,hl with
    | [c0],_=>have:=a2 c0 aB;rw[ae c0 aB]at this;exact this.2.1
   exact one _ rfl (ax _ az) ah h
 case buildSlice t n parts=>
  split at h
  ·rename_i el hu;split at h
   ·rename_i z hz;split at h
    ·rename_i es aj;split at h
     ·rename_i hc;obtain⟨hl,ch,bz⟩:=hc;obtain⟨ck,a6⟩:=mq.1 bz;obtain⟨i3,zv,b3,au,_⟩:=uQ a6;obtain⟨i,hi,ai⟩:=EH hz;obtain⟨b1,b2⟩:=G0 (w:=w) (e:=e) (pB:=pB) (bx:=bx) (a:=a) parts.toList 0 es aj (λy hy=>ho y.2 (by simp only[Op.operands];simp;exact⟨y.1,nB.1 (by simpa using hy)⟩));have a7:n<=maxLen:=by
       have:=Ey z
       have:n*1<=n*ez z:=lE n this;unfold maxLen;omega
      have aa:(parts.map λ(i,x)=>(i,a.eval x)).toList=parts.toList.map λ(i,x)=>(i,a.eval x):=aB
      have ak:¬(n*ez z>2 ^ 24):=aA
      have a8:∀ zc:Array Value,∃ I,Instr.fill (λi=>some (i*ez z,ez z)) ((Array.range (n*ez z)).map (zc[· % zc.size]!)) ((es.map D.val).zipIdx |>.map λx=>(x.2,x.1))=some I/\I.toList=(yM es).map D.cv:=λzc=>by obtain⟨I,f1,f2⟩:=Po es 0 ((Array.range (n*ez z)).map (zc[· % zc.size]!)) (λd hd=>(b1 d hd).1) (by simp[hl]);refine⟨I,f1,?_⟩;rw[f2];simp only[lB,lA,oa,nI,hl];rw[mQ aB,o8]
      have ba:=zU (λd hd=>(b1 d hd).1);have fin:∀ I:Array Value,I.toList=(yM es).map D.cv->NewBox av w e pB bx (.slice (some ⟨w.heap.size,0,none⟩) n n) (w.alloc (.cells I el)) (.arr el z es n) (λk=>.sb k z 0 n n):=λI bb=>Jn (heap_alloc_new w _) (by rw[<-nY,bb,nE,ba,hl]) hl (oC n) a7 b1 (λi u hu=>by rw[<-nR,bb,oF,hu];rfl);by_cases bc:n*ez z=0
      ·obtain⟨I,f1,f2⟩:=a8 #[];refine⟨_,I,el,_,_,?_,h,fin I f2⟩;simp only[execOp,Instr.buildSlice,Sem.run_bind,run_underlying hu,Result.andThen_ok,vg hz,if_neg ak,if_pos bc,aa,b2,f1,Sem.run_pure,newRow,newObj,Sem.run];rfl
      ·obtain⟨I,f1,f2⟩:=a8 zv.cells;refine⟨_,I,el,_,_,?_,h,fin I f2⟩;simp only[execOp,Instr.buildSlice,Sem.run_bind,run_underlying hu,Result.andThen_ok,vg hz,if_neg ak,if_neg bc,uX b3 au,aa,b2,f1,Sem.run_pure,newRow,newObj,Sem.run];rfl
     ·exact h.elim
    ·exact h.elim
   ·exact h.elim
  ·exact h.elim
 case makeSlice t l c=>
  split at h
  ·rename_i el hu;split at h
   ·rename_i z i hz hi;split at h
    ·rename_i zd Y;obtain⟨k1,n,h',hn⟩:=tJ (ho l (by simp[Op.operands])).valOk h;obtain⟨k2,m,b7,hm⟩:=tJ (ho c (by simp[Op.operands])).valOk h';obtain⟨⟨g1,g2,g3,g4⟩,bg⟩:=b7;obtain⟨i',bh,ai⟩:=EH hz;have:i'=i:=by rw[hi]at bh;exact(oZ bh).symm
     subst this;unfold Rv at Y;split at Y
     ·rename_i cs ac;obtain⟨i2,zv,bi,au,U,O,_⟩:=uQ ac;have:i2=i':=by rw[hi]at bi;exact(oZ bi).symm
      subst this;have b8:eOk z zd/\Good w (za av pB e bx) zd/\zd.cells.map D.cv=zv.cells.toList:=by
       split at Y
       ·rename_i b9;subst b9;split at Y
        ·rename_i p;obtain⟨q1,q2,q3,q4,_⟩:=wF (w:=w) (e:=e) Y (O w (za av pB e bx) p aB).1;refine⟨by simpa [eOk]using q2,q1,?_⟩;have aq:zd.cells=[zd]:=by cases zd<;>simp[D.isCell,D.cells]at q2 ⊢
         rw[aq,o9,lC,q3]
         have:=U w e
         have h0:=this.2 0 p rfl;have ca:p≠.any:=λhh=>by subst hh;exact q4
         have h0:=h0.resolve_left ca;have cc:zv.cells.toList.length=1:=this.1
         match aw:zv.cells.toList,cc with
         | [v0],_=>rw[aw]at h0;simp at h0;rw[h0]
        ·cases Y
       ·obtain⟨q1,q2,q3⟩:=EA (w:=w) (e:=e) (live:=za av pB e bx) Y ⟨PV.OkL_iff.2 λp J=>(O w _ p J).1,λp J=>(O w (λ_=>False) p J).2.1⟩;refine⟨q2,q1,?_⟩;have bj:=D8 q2;rw[q3]at bj;rw[<-bj];have hc:=U w e;rw[show(PV.val e (.pg cs)).cells.toList=cs.map (PV.cv e)from by simp[PV.val,PV.val1,Value.cells,PV.cvs_eq]];apply nL;intro j;rw[oF];cases hj:cs[j]? with
        | none=>have hl:=hc.1;simp at hj;rw[oc aA];rfl
        | some p=>
          have J:=oB hj
          have:=(hc.2 j p hj).resolve_left (λhh=>by have:=(O w (λ_=>False) p J).2.1;rw[hh]at this;exact this)
          rw[this];rfl
      obtain⟨z1,z2,z3⟩:=b8;have hr:=run_make (P:=P) w t el i2 zv hu hi au k1 k2 n m g1 g2 aA g4;have bm:m.toNat*i2.size=m.toNat*ez z:=by rw[ai]
      refine⟨_,madeCells zv.cells (m.toNat*i2.size),el,_,_,by simp only[execOp,Sem.run_bind,hn,hm,hr,Result.andThen_ok,Sem.run_pure],bg,Jn (heap_alloc_new w _) (by rw[size_madeCells,bm]) aB aA (by unfold maxLen;omega)
       (λx hx=>by rw[(List.mem_replicate.1 hx).2];exact⟨z1,z2⟩) (λj u hj=>?_)⟩
      have aj:∀ x∈List.replicate n.toNat zd,eOk z x:=λx hx=>by rw[(List.mem_replicate.1 hx).2];exact z1
      have bp:j<n.toNat*ez z:=by
       have:=(oD.1 hj).1
       rw[zU aj,mU]at this;exact this
      have J:=Ey z;have hq:j / ez z<n.toNat:=by rw[Nat.div_lt_iff_lt_mul J];exact bp
      have hr:j % ez z<ez z:=Nat.mod_lt _ J;have aw:=xS z1;have bq:zd.cells[j % ez z]?=some (zd.cells[j % ez z]' aA):=oH aA;have bt:=AY aj (j:=j / ez z) (e:=zd) (by rw[mt];simp[hq]) bq;have cd:j / ez z*ez z+j % ez z=j:=by rw[Nat.mul_comm];exact Nat.div_add_mod j (ez z)
      rw[cd,hj]at bt;have ce:=oZ bt;have bv:zv.cells.size=ez z:=by rw[<-nY,<-z3,nE,aw]
      have cf:j<m.toNat*i2.size:=by rw[bm];exact o7 bp (ol _ aA)
      unfold madeCells;rw[Array.getElem?_map,Array.getElem?_range];simp only[cf,mI,oX,bv];congr 1;have cg:zv.cells[j % ez z]?=some u.cv:=by rw[<-nR,<-z3,oF,bq,ce];rfl
      rw[getElem!_def,cg]
     ·cases Y
    ·exact h.elim
   ·exact h.elim
  ·exact h.elim
end Go.Proofs.YtlaniepnglheoaaGreatDoor
