/- Ghost data (snapshots of values with the memory behind them), and what memory says of them. No program in sight. -/
import Derived.WalkKit
import Derived.Lib.ItoaNum
import Derived.Laws.BytesString
set_option linter.unusedVariables false
set_option linter.unusedSimpArgs false
namespace Go.Proofs.YtlaniepnglheoaaGreat
open Go
abbrev oA:=@List.mem_of_getElem?
abbrev oB:=@List.getD_eq_getElem?_getD
abbrev oC:=@List.getElem?_eq_some_iff
abbrev oD:=@Nat.le_refl
abbrev oE:=@Bool.and_eq_true
abbrev oF:=@List.getElem?_eq_getElem
abbrev oG:=@List.getElem?_map
abbrev oH:=@List.mem_cons
abbrev oI:=@Int.toNat_natCast
abbrev oJ:=@List.length_cons
abbrev oK:=@List.length_append
abbrev oL:=@List.eq_nil_of_length_eq_zero
abbrev oM:=@List.mem_append
abbrev oN:=@List.length_nil
abbrev oO:=@List.getElem?_append_left
abbrev oP:=@Nat.le_trans
abbrev oQ:=@List.mem_iff_getElem?
abbrev oR:=@Array.getElem?_eq_some_iff
abbrev oS:=@List.getElem?_append_right
abbrev oT:=@List.mem_map
abbrev oU:=@Option.some.inj
abbrev oV:=@List.nil_append
abbrev oW:=@List.mem_singleton
abbrev oX:=@List.take_of_length_le
abbrev oY:=@List.getElem?_eq_none
abbrev oZ:=@List.map_cons
abbrev oa:=@List.all_eq_true
abbrev ob:=@Option.getD_some
abbrev oc:=@Nat.mul_le_mul_right
abbrev od:=@List.getElem?_take
abbrev oe:=@Option.map_some
abbrev oh:=@List.not_mem_nil
abbrev oi:=@List.mem_of_mem_take
abbrev ol:=@List.mem_append_left
abbrev om:=@List.length_map
abbrev oq:=@decide_eq_true_eq
abbrev ou:=@List.append_nil
abbrev ow:=@Array.mem_toList_iff
abbrev o9:=@Array.getElem?_eq_getElem
abbrev nA:=@List.mem_or_eq_of_mem_set
abbrev nB:=@Bool.or_eq_true
abbrev nC:=@List.length_take
abbrev nD:=@List.mem_of_mem_drop
abbrev nE:=@List.cons_append
abbrev nF:=@beq_iff_eq
abbrev nG:=@Nat.add_mul
abbrev nH:=@List.map_congr_left
abbrev nI:=@Nat.lt_of_lt_of_le
abbrev nJ:=@List.getElem?_set_ne
abbrev nK:=@List.ext_getElem?
abbrev nL:=@Option.some.injEq
abbrev nM:=@List.size_toArray
abbrev nN:=@List.nodup_append
abbrev nO:=@Nat.eq_of_beq_eq_true
abbrev nP:=@List.mem_append_right
abbrev nQ:=@if_false
abbrev nR:=@List.getElem?_set
abbrev nS:=@List.getElem?_cons_succ
abbrev nT:=@Nat.zero_add
abbrev nU:=@List.getElem?_drop
abbrev nV:=@List.getElem?_set_self
abbrev nW:=@List.mem_filter
abbrev nX:=@List.getElem?_eq_none_iff
abbrev nY:=@Array.getD_eq_getD_getElem?
abbrev nZ:=@List.length_set
abbrev na:=@List.nodup_cons
abbrev nc:=@List.length_singleton
abbrev nf:=@List.mem_cons_self
abbrev nh:=@decide_eq_true_iff
abbrev ni:=@Bool.true_eq_false
abbrev nj:=@if_true
abbrev nk:=@List.getD_cons_zero
abbrev nl:=@List.eq_nil_iff_forall_not_mem
abbrev np:=@Array.toList_inj
abbrev nq:=@List.append_assoc
abbrev nu:=@List.take_append_drop
abbrev nw:=@Array.getElem?_toList
abbrev ny:=@Array.length_toList
abbrev nz:=@List.mem_cons_of_mem
abbrev mA:=@Bool.not_eq_true'
abbrev mB:=@List.eq_of_mem_replicate
abbrev mC:=@List.mem_filterMap
abbrev mD:=@forall_eq_or_imp
abbrev mE:=@Int.tmod_eq_emod_of_nonneg
abbrev mF:=@List.map_append
abbrev mG:=@Bool.eq_iff_iff
abbrev mH:=@List.filterMap_cons
abbrev mI:=@Bool.false_eq_true
abbrev mJ:=@decide_eq_true
abbrev mK:=@or_false
abbrev mL:=@List.mem_flatMap
abbrev mM:=@List.getElem_mem
abbrev mN:=@Nat.le_of_succ_le_succ
abbrev mO:=@List.length_filter_le
abbrev mP:=@Nat.add_assoc
abbrev mQ:=@Option.isSome_iff_exists
abbrev mR:=@List.nodup_nil
abbrev mS:=@not_true_eq_false
abbrev mT:=@Array.getElem?_eq_none
abbrev mU:=@Decidable.not_not
abbrev mV:=@List.getD_cons_succ
abbrev mW:=@List.drop_eq_getElem_cons
abbrev mX:=@List.length_replicate
abbrev mY:=@List.set_cons_zero
abbrev mZ:=@List.length_drop
abbrev ma:=@Array.replicate_succ
abbrev mb:=@Array.replicate_zero
abbrev mc:=@Option.map_none
abbrev md:=@decide_eq_false
abbrev me:=@List.append_toArray
abbrev mf:=@List.map_map
abbrev mg:=@List.drop_eq_nil_of_le
abbrev mi:=@List.getElem_cons_drop
abbrev mj:=@List.mem_reverse
abbrev ml:=@Option.isSome_none
abbrev mm:=@List.set_cons_succ
abbrev mn:=@List.append_of_mem
abbrev mo:=@Option.isSome_some
abbrev mq:=@Nat.le_of_ble_eq_true
abbrev mr:=@Nat.add_zero
abbrev mt:=@Nat.one_mul
abbrev mu:=@List.push_toArray
abbrev mv:=@List.any_cons
abbrev mw:=@Nat.mul_le_mul_left
abbrev my:=@List.take_zero
abbrev mz:=@List.getElem?_replicate
abbrev lA:=@List.take_length
abbrev lB:=@Bool.true_and
abbrev lC:=@Array.size_append
abbrev lD:=@List.length_filter_lt_length_iff_exists
abbrev lE:=@List.getElem?_append
abbrev lF:=@Bool.and_eq_true_iff
abbrev lG:=@Nat.pow_le_pow_right
abbrev lH:=@Nat.zero_mul
abbrev lI:=@List.map_nil
abbrev lJ:=@Option.bind_some
abbrev lK:=@List.length_pos_iff
abbrev lL:=@List.mem_map_of_mem
abbrev lM:=@List.reverse_append
abbrev lN:=@List.set_eq_of_length_le
abbrev lO:=@Iff.rfl
abbrev lP:=@Nat.eq_zero_or_pos
abbrev lQ:=@List.getElem?_cons_zero
abbrev lR:=@Nat.le_mul_of_pos_right
abbrev lS:=@List.drop_of_length_le
abbrev lT:=@Bool.and_false
abbrev lU:=@of_decide_eq_true
abbrev lV:=@Option.map_eq_some_iff
abbrev lW:=@Nat.lt_of_not_le
abbrev lX:=@Bool.not_true
abbrev lY:=@congrArg
inductive D where
 | lit (x:Value)
 | ag (cs:List D)
 | sl (a:Option Addr) (z:Nat) (es:List D) (cap:Nat)
 | pt (ad:Addr) (z:Nat) (x:D)
 | fn (f:FuncId) (caps:List D)
 | mp (b:Nat) (es:Array MapEntry) (clock:Nat)
instance:Inhabited D:=⟨.lit undef⟩
mutual
def D.cv:D->Value
 | .lit x=>x
 | .sl a _ es cap=>.slice a es.length cap
 | .ag _=>undef
 | .pt ad _ _=>.pointer (some ad)
 | .fn f caps=>.func (.func f) #[] (D.cvL caps).toArray
 | .mp b _ _=>.map (some b)
def D.cvL:List D->List Value
 | []=>[]
 | d::ds=>d.cv::D.cvL ds
end
theorem D.cvL_eq:∀ l:List D,D.cvL l=l.map D.cv
 | []=>rfl
 | d::ds=>by simp only[D.cvL,oZ,D.cvL_eq ds]
def D.cells:D->List D
 | .ag cs=>cs
 | .lit x=>[.lit x]
 | .sl a z es cap=>[.sl a z es cap]
 | .pt ad z x=>[.pt ad z x]
 | .fn f caps=>[.fn f caps]
 | .mp b es c=>[.mp b es c]
def D.val (d:D):Value:=match d with
 | .ag cs=>.agg (cs.map D.cv).toArray
 | d=>d.cv
def D.isCell:D->Prop
 | .ag _=>False
 | .lit x=>x.oneCell'=true
 | .sl ..=>True
 | .pt ..=>True
 | .fn ..=>True
 | .mp ..=>True
def D.cell (x:D)(i:Nat):D:=x.cells.getD i default
def D.sub (x:D)(o n:Nat):D:=.ag ((x.cells.drop o).take n)
def IsAg (n:Nat)(x:D):Prop:=∃ cs,x=.ag cs/\cs.length=n/\∀ c∈cs,c.isCell
def ez (z:Nat):Nat:=if z=0 then 1 else z
def eOk (z:Nat)(e:D):Prop:=if z=0 then e.isCell else IsAg z e
def flat (es:List D):List D:=es.flatMap D.cells
mutual
def D.foot:D->List Nat
 | .lit _=>[]
 | .ag cs=>zF cs
 | .sl none _ es _=>zF es
 | .sl (some ad) _ es _=>if es.isEmpty then []else ad.block::zF es
 | .pt ad _ x=>ad.block::x.foot
 | .fn _ caps=>zF caps
 | .mp b _ _=>[b]
def zF:List D->List Nat
 | []=>[]
 | d::ds=>d.foot++zF ds
end
def Row (w:World)(ad:Addr)(cs:List D):Prop:=
 cs=[]\/∃ c t fz,w.heap[ad.block]?=some (.cells c t fz)/\∀ i u,cs[i]?=some u->c[ad.off+i]?=some u.cv
abbrev z00:Nat × Nat:=(0,0)
inductive Holds (w:World):D->Prop
 | lit {x:Value}:Holds w (.lit x)
 | ag {cs:List D}:(∀ c∈cs,Holds w c)->Holds w (.ag cs)
 | nil {z:Nat}:Holds w (.sl none z [] 0)
 | sl {ad:Addr} {z:Nat} {es:List D} {cap:Nat}:(es≠[]->ad.spot=none)->es.length<=cap->(∀ e∈es,eOk z e)->(∀ e∈es,Holds w e)->Row w ad (flat es)->Holds w (.sl (some ad) z es cap)
 | pt {ad:Addr} {z:Nat} {x:D}:ad.spot=none->eOk z x->Row w ad x.cells->Holds w x->Holds w (.pt ad z x)
 | fn {f:FuncId} {caps:List D}:(∀ c∈caps,c.isCell)->(∀ c∈caps,Holds w c)->Holds w (.fn f caps)
 | mp {b:Nat} {es:Array MapEntry} {c:Nat}:w.heap[b]?=some (.map es c)->Holds w (.mp b es c)
theorem zQ {b:Nat}{ds:List D}:b∈zF ds↔∃ d∈ds,b∈d.foot:=by
 induction ds with
 | nil=>simp[zF]
 | cons d ds I=>simp[zF,I]
theorem zC (a b:List D):zF (a++b)=zF a++zF b:=by
 induction a with
 | nil=>simp[zF]
 | cons d ds I=>simp[zF,I]
theorem wH (a b:List D):flat (a++b)=flat a++flat b:=by simp[flat]
theorem vn (a:D)(b:List D):flat (a::b)=a.cells++flat b:=by simp[flat]
theorem xT {z:Nat}{e:D}(h:eOk z e):e.cells.length=ez z:=by
 unfold eOk at h;unfold ez;split at h
 ·rename_i I;simp only[I,nj];cases e<;>simp[D.cells,D.isCell]at h ⊢
 ·rename_i I;simp only[I,nQ];obtain⟨cs,rfl,J,_⟩:=h;exact J
theorem Du {z:Nat}{e:D}(h:eOk z e):∀ c∈e.cells,c.isCell:=by
 unfold eOk at h;split at h
 ·cases e<;>simp[D.cells,D.isCell]at h ⊢<;>exact h
 ·obtain⟨cs,rfl,_,h⟩:=h;exact h
theorem zW {z:Nat}{es:List D}(h:∀ e∈es,eOk z e):(flat es).length=es.length*ez z:=by
 induction es with
 | nil=>simp[flat]
 | cons e es I=>rw[vn,oK,xT (h e (by simp)),I (λx hx=>h x (by simp[hx])),oJ];rw[nG];omega
theorem OQ {z:Nat}{es:List D}(h:∀ e∈es,eOk z e):∀ c∈flat es,c.isCell:=by intro c hc;obtain⟨e,J,I⟩:=mL.1 hc;exact Du (h e J) c I
theorem Af {z:Nat} {es:List D} (h:∀ e∈es,eOk z e) {j:Nat} {e:D} (I:es[j]?=some e) {i:Nat} {u:D} (hi:e.cells[i]?=some u) :
  (flat es)[j*ez z+i]?=some u:=by
 induction es generalizing j with
 | nil=>simp at I
 | cons x es O=>
   rw[vn];have hx:=xT (h x (by simp));cases j with
   | zero=>simp at I;subst I;have J:i<x.cells.length:=(oC.1 hi).1;rw[lH,nT,oO J];exact hi
   | succ j=>simp at I;rw[oS (by rw[hx,nG];omega),hx];rw[show(j+1)*ez z+i - ez z=j*ez z+i by rw[nG];omega];exact O (λy U=>h y (by simp[U])) I
theorem zV {c:D}(h:c.isCell):c.cv.oneCell'=true:=by
 cases c<;>simp[D.isCell,D.cv,Value.oneCell']at h ⊢
 exact h
theorem Cj (z:Nat):0<ez z:=by unfold ez;split<;>omega
theorem Row.mono {w w':World}{ad:Addr}{cs:List D}(h:Row w ad cs)(I:cs≠[]->w'.heap[ad.block]?=w.heap[ad.block]?):Row w' ad cs:=by
 rcases h with h | ⟨c,t,fz,J,O⟩
 ·exact .inl h
 ·by_cases hc:cs=[]
  ·exact .inl hc
  ·exact .inr ⟨c,t,fz,(I hc).trans J,O⟩
theorem XU {es:List D}(h:flat es≠[]):es≠[]:=by intro e;subst e;exact h rfl
theorem Holds.mono {w w':World}{d:D}(h:Holds w d):(∀ b∈d.foot,w'.heap[b]?=w.heap[b]?)->Holds w' d:=by
 induction h with
 | lit=>intro _;exact .lit
 | ag _ J=>intro I;refine .ag λc hc=>J c hc λb O=>I b ?_;simp only[D.foot];exact zQ.2 ⟨c,hc,O⟩
 | nil=>intro _;exact .nil
 | @sl ad z es cap U h2 h3 _ h5 J=>
   intro I;by_cases Y:es=[]
   ·subst Y;exact .sl U h2 (by simp) (by simp) (.inl rfl)
   ·have hf:(D.sl (some ad) z es cap).foot=ad.block::zF es:=by simp[D.foot,Y]
    rw[hf]at I;refine .sl U h2 h3 (λe he=>J e he λb aa=>I b ?_) (h5.mono λ_=>I _ (by simp));exact nz _ (zQ.2 ⟨e,he,aa⟩)
 | pt U h2 h3 _ J=>intro I;simp only[D.foot]at I;exact .pt U h2 (h3.mono λ_=>I _ (by simp)) (J λb ab=>I b (by simp[ab]))
 | fn U _ J=>intro I;simp only[D.foot]at I;exact .fn U λc hc=>J c hc λb O=>I b (zQ.2 ⟨c,hc,O⟩)
 | mp h=>intro I;exact .mp ((I _ (by simp[D.foot])).trans h)
theorem Holds.lt {w:World}{d:D}(h:Holds w d):∀ b∈d.foot,b<w.heap.size:=by
 induction h with
 | lit=>simp[D.foot]
 | ag _ J=>intro b hb;simp only[D.foot]at hb;obtain⟨c,hc,I⟩:=zQ.1 hb;exact J c hc b I
 | nil=>simp[D.foot,zF]
 | mp h=>intro b hb;simp only[D.foot,oW]at hb;subst hb;exact(oR.1 h).1
 | @sl ad z es cap h1 h2 U _ Y J=>
   intro b hb;by_cases O:es=[]
   ·subst O;simp[D.foot]at hb
   ·have hf:(D.sl (some ad) z es cap).foot=ad.block::zF es:=by simp[D.foot,O]
    rw[hf]at hb;rcases oH.1 hb with rfl | hb
    ·rcases Y with Y | ⟨c,t,fz,h6,_⟩
     ·exfalso
      have:=zW U
      rw[Y]at this;have hp:=Cj z;have:0<es.length:=lK.2 O
      have:=Nat.mul_pos this hp
      simp at *;omega
     ·exact(oR.1 h6).1
    ·obtain⟨c,hc,I⟩:=zQ.1 hb;exact J c hc b I
 | @pt ad z x h1 h2 U _ J=>
   intro b hb;simp only[D.foot]at hb;rcases oH.1 hb with rfl | hb
   ·rcases U with U | ⟨c,t,fz,h6,_⟩
    ·exfalso;have h4:=xT h2
     have:=Cj z
     rw[U]at h4;simp at h4;omega
    ·exact(oR.1 h6).1
   ·exact J b hb
 | @fn f caps h1 _ J=>intro b hb;simp only[D.foot]at hb;obtain⟨c,hc,I⟩:=zQ.1 hb;exact J c hc b I
def Good (w:World)(live:Nat->Prop)(d:D):Prop:=Holds w d/\∀ b∈d.foot,¬live b
theorem Good.elem {w:World}{live:Nat->Prop}{a:Option Addr}{z:Nat}{es:List D}{cap:Nat}(h:Good w live (.sl a z es cap)){e:D}(I:e∈es):Good w live e:=by
 obtain⟨O,U⟩:=h;cases O with
 | nil=>simp at I
 | sl _ _ _ Y _=>
   refine⟨Y e I,λb hb=>U b ?_⟩;have J:es≠[]:=λh=>by subst h;simp at I
   simp[D.foot,J];exact .inr (zQ.2 ⟨e,I,hb⟩)
theorem Good.part {w:World}{live:Nat->Prop}{cs:List D}(h:Good w live (.ag cs)){c:D}(hc:c∈cs):Good w live c:=by
 obtain⟨I,J⟩:=h;cases I with
 | ag h=>exact⟨h c hc,λb O=>J b (by simp only[D.foot];exact zQ.2 ⟨c,hc,O⟩)⟩
theorem Good.ag {w:World}{live:Nat->Prop}{cs:List D}(h:∀ c∈cs,Good w live c):Good w live (.ag cs):=
 ⟨.ag λc hc=>(h c hc).1,λb I=>by simp only[D.foot]at I;obtain⟨c,hc,I⟩:=zQ.1 I;exact(h c hc).2 b I⟩
theorem Good.lit {w:World}{live:Nat->Prop}{x:Value}:Good w live (.lit x):=⟨.lit,by simp[D.foot]⟩
theorem Good.cells {w:World}{live:Nat->Prop}{d:D}(h:Good w live d):∀ c∈d.cells,Good w live c:=by
 cases d with
 | lit x=>simp[D.cells];exact h
 | ag cs=>exact λc hc=>h.part hc
 | sl a z es cap=>simp[D.cells];exact h
 | pt ad z x=>simp[D.cells];exact h
 | fn f caps=>simp[D.cells];exact h
 | mp b es c=>simp[D.cells];exact h
theorem Good.default {w:World}{live:Nat->Prop}:Good w live default:=Good.lit
theorem Good.cell {w:World}{live:Nat->Prop}{d:D}(h:Good w live d)(i:Nat):Good w live (d.cell i):=by
 unfold D.cell;rw[oB];cases hc:d.cells[i]? with
 | none=>exact Good.default
 | some c=>exact h.cells c (oA hc)
theorem Good.sub {w:World}{live:Nat->Prop}{d:D}(h:Good w live d)(o n:Nat):Good w live (d.sub o n):=
 Good.ag λc hc=>h.cells c (nD (oi hc))
theorem Good.mono {w w':World} {live live':Nat->Prop} {d:D} (h:Good w live d) (O:∀ b,b<w.heap.size->¬live b->w'.heap[b]?=w.heap[b]?)
  (U:∀ b,b<w.heap.size->live' b->live b):Good w' live' d:=
 ⟨h.1.mono λb I=>O b (h.1.lt b I) (h.2 b I),λb I J=>h.2 b I (U b (h.1.lt b I) J)⟩
set_option linter.unusedSectionVars false
inductive PV where
 | any
 | int (k:IntKind) (n:Int)
 | bool (v:Bool)
 | str (v:ByteArray)
 | lit (x:Value)
 | sv (a:Option Addr) (z:Nat) (es:List D) (cap:Nat)
 | d (x:D)
 | dc (x:D)
 | dg (n:Nat) (x:D)
 | pb (k z i o:Nat)
 | pd (ad:Addr) (z:Nat) (x:D)
 | sb (k z lo n c:Nat)
 | fn (f:FuncId) (caps:List PV)
 | pg (cs:List PV)
 | tp (l:List PV)
instance:Inhabited PV:=⟨.any⟩
abbrev Env:=List (Option Nat)
def Env.at (e:Env)(k:Nat):Option Nat:=e.getD k none
mutual
def PV.cv (e:Env):PV->Value
 | .any=>undef
 | .int k n=>.int k n
 | .bool v=>.bool v
 | .str v=>.string v
 | .lit x=>x
 | .sv a _ es cap=>.slice a es.length cap
 | .d x=>x.cv
 | .dc x=>x.cv
 | .dg _ _=>undef
 | .pb k z i o=>.pointer (some ⟨(e.at k).getD 0,i*ez z+o,none⟩)
 | .pd ad _ _=>.pointer (some ad)
 | .sb k z lo n c=>match e.at k with
   | none=>.slice none n c
   | some b=>.slice (some ⟨b,lo*ez z,none⟩) n c
 | .fn f caps=>.func (.func f) #[] (PV.cvs e caps).toArray
 | .pg _=>undef
 | .tp _=>undef
def PV.cvs (e:Env):List PV->List Value
 | []=>[]
 | p::ps=>p.cv e::PV.cvs e ps
end
def PV.val1 (e:Env):PV->Value
 | .pg cs=>.agg (PV.cvs e cs).toArray
 | .d x=>x.val
 | .dg _ x=>x.val
 | p=>p.cv e
def PV.val (e:Env):PV->Value
 | .tp l=>.tuple (l.map (PV.val1 e)).toArray
 | p=>p.val1 e
mutual
def PV.refs:PV->List Nat
 | .pb k _ _ _=>[k]
 | .sb k _ _ _ _=>[k]
 | .fn _ caps=>PV.refsL caps
 | .pg cs=>PV.refsL cs
 | .tp l=>PV.refsL l
 | _=>[]
def PV.refsL:List PV->List Nat
 | []=>[]
 | p::ps=>p.refs++PV.refsL ps
end
def PV.isC:PV->Prop
 | .any=>False
 | .pg _=>False
 | .tp _=>False
 | .dg _ _=>False
 | .d x=>x.isCell
 | .lit x=>x.oneCell'=true
 | _=>True
def PV.notAny:PV->Bool
 | .any=>false
 | _=>true
def PV.cellsL (cs:List PV):Prop:=∀ p∈cs,p=.any\/p.isC
mutual
def PV.Ok (w:World) (live:Nat->Prop):PV->Prop
 | .lit x=>x.oneCell'=true
 | .sv a z es cap=>Good w live (.sl a z es cap)
 | .d x=>Good w live x
 | .dc x=>Good w live x/\x.isCell
 | .dg n x=>Good w live x/\IsAg n x
 | .pd ad z x=>Good w live x/\eOk z x/\ad.spot=none/\Row w ad x.cells/\¬live ad.block/\ad.block<w.heap.size
 | .fn _ caps=>PV.OkL w live caps
 | .pg cs=>PV.OkL w live cs/\∀ p∈cs,p.isC
 | .tp l=>PV.OkL w live l
 | _=>True
def PV.OkL (w:World) (live:Nat->Prop):List PV->Prop
 | []=>True
 | p::ps=>p.Ok w live/\PV.OkL w live ps
end
theorem PV.OkL_iff {w:World}{live:Nat->Prop}{l:List PV}:PV.OkL w live l↔∀ p∈l,p.Ok w live:=by
 induction l with
 | nil=>simp[PV.OkL]
 | cons p ps I=>simp[PV.OkL,I]
theorem PV.refsL_mem {k:Nat}{l:List PV}:k∈PV.refsL l↔∃ p∈l,k∈p.refs:=by
 induction l with
 | nil=>simp[PV.refsL]
 | cons p ps I=>simp[PV.refsL,I]
theorem PV.cvs_eq {e:Env}{l:List PV}:PV.cvs e l=l.map (PV.cv e):=by
 induction l with
 | nil=>rfl
 | cons p ps I=>simp[PV.cvs,I]
inductive Bx where
 | var (cs:List PV)
 | vd (x:D) (n:Nat)
 | arr (t:TypeId) (z:Nat) (es:List D) (c:Nat)
 | gone
instance:Inhabited Bx:=⟨.gone⟩
def WE (c:Array Value)(i:Nat)(e:Env)(p:PV):Prop:=p=.any\/c[i]?=some (p.cv e)
def Bx.Rel (w:World)(e:Env)(at_:Option Nat):Bx->Prop
 | .var cs=>∃ b c t,at_=some b/\w.heap[b]?=some (.cells c t (0,0))/\c.size=cs.length/\∀ i p,cs[i]?=some p->WE c i e p
 | .vd x n=>∃ b c t,at_=some b/\w.heap[b]?=some (.cells c t (0,0))/\c.size=n/\IsAg n x/\∀(i:Nat) (u:D),x.cells[i]?=some u->c[i]?=some u.cv
 | .arr t z es n=>(at_=none/\es=[]/\n=0)\/∃ b c,at_=some b/\w.heap[b]?=some (.cells c t (0,0))/\n*ez z<=c.size/\es.length<=n/\n<=maxLen /\
  (∀ x∈es,eOk z x)/\∀(i:Nat) (u:D),(flat es)[i]?=some u->c[i]?=some u.cv
 | .gone=>True
def Bx.Ok (w:World)(live:Nat->Prop):Bx->Prop
 | .var cs=>PV.OkL w live cs/\PV.cellsL cs
 | .vd x _=>Good w live x
 | .arr _ _ es _=>∀ x∈es,Good w live x
 | .gone=>True
def Bx.refs:Bx->List Nat
 | .var cs=>PV.refsL cs
 | _=>[]
def Bx.isArr:Bx->Bool
 | .arr ..=>true
 | .gone=>true
 | _=>false
def Lives (pB:List Nat)(e:Env)(bx:List Bx)(k b:Nat):Prop:=k∉pB/\e.at k=some b/\∃ B,bx[k]?=some B/\B≠.gone
def zg (av:Nat->Prop)(pB:List Nat)(e:Env)(bx:List Bx)(b:Nat):Prop:=av b\/∃ k,Lives pB e bx k b
structure Mem (av:Nat->Prop) (pB:List Nat) (w:World) (e:Env) (bx:List Bx):Prop where
 el:e.length=bx.length
 br:∀ k B,bx[k]?=some B->k∉pB->B.Rel w e (e.at k)
 bo:∀(k:Nat) (B:Bx),bx[k]?=some B->k∉pB->B.Ok w (zg av pB e bx)
 bf:∀(k:Nat) (B:Bx),bx[k]?=some B->k∉pB->∀ j∈B.refs,j∉pB/\j<bx.length
 inj:∀ k j b,Lives pB e bx k b->Lives pB e bx j b->k=j
structure KU (w0 w:World):Prop where
 os:w.os=w0.os
 out:w.output=w0.output
theorem KU.rfl {w:World}:KU w w:=⟨Eq.refl _,Eq.refl _⟩
theorem KU.trans {w0 w w':World}(h:KU w0 w)(I:KU w w'):KU w0 w':=⟨I.os.trans h.os,I.out.trans h.out⟩
def Fz (z:Nat × Nat):Prop:=True
theorem fz0:Fz (0,0):=trivial
theorem Fz.of {z:Nat × Nat}(h:z=(0,0)):Fz z:=h ▸ fz0
structure Fram (w0:World) (e0:Env) (w:World):Prop where
 ku:KU w0 w
 size:w0.heap.size<=w.heap.size
 old:∀ b,b<w0.heap.size->some b∉e0->w.heap[b]?=w0.heap[b]?
 fz:∀(b:Nat) (c:Array Value) (t:TypeId) (z:Nat × Nat),(w0.heap.size<=b\/some b∈e0)->w.heap[b]?=some (.cells c t z)->Fz z
structure St where
 sl:List PV
 bx:List Bx
 N:Nat
 pin:Option (List (Option Nat) × List Nat):=none
def St.pins (st:St):List (Option Nat):=match st.pin with
 | some (L,_)=>L
 | none=>[]
def glob:List (Nat × Array Value):=[]
def avG (b:Nat):Prop:=∃ x∈glob,x.1=b
def RB:List (Nat × (Array Value->Prop)):=[]
structure GlobIs (w:World):Prop where
 h:∀ x∈glob,∃ t fz,w.heap[x.1]?=some (.cells x.2 t fz)
 b:∀ x∈RB,∃ c t fz,w.heap[x.1]?=some (.cells c t fz)/\x.2 c
theorem GlobIs.keep {w w':World}(h:GlobIs w)(hk:∀ b,avG b->w'.heap[b]?=w.heap[b]?)(J:∀ x∈RB,w'.heap[x.1]?=w.heap[x.1]?):GlobIs w':=⟨λx hx=>by
 obtain⟨t,fz,I⟩:=h.h x hx;exact⟨t,fz,(hk x.1 ⟨x,hx,rfl⟩).trans I⟩,λx hx=>by
 obtain⟨c,t,fz,I,O⟩:=h.b x hx;exact⟨c,t,fz,(J x hx).trans I,O⟩⟩
theorem GlobIs.ltb {w:World}(h:GlobIs w){x:Nat × (Array Value->Prop)}(hx:x∈RB):x.1<w.heap.size:=by obtain⟨c,t,fz,I,_⟩:=h.b x hx;exact(oR.1 I).1
theorem GlobIs.lt {w:World}(h:GlobIs w){b:Nat}(I:avG b):b<w.heap.size:=by obtain⟨x,hx,rfl⟩:=I;obtain⟨t,fz,J⟩:=h.h x hx;exact(oR.1 J).1
structure Avl (av:Nat->Prop) (w0:World) (e0:Env):Prop where
 lt:∀ b,av b->b<w0.heap.size
 g:GlobIs w0
 ga:∀ b,avG b->av b
 ge:∀ b,avG b->some b∉e0
 gb:∀ x∈RB,some x.1∉e0
class Dfs where
 on:Option (List Deferred)
structure Rel [Dfs] (av:Nat->Prop) (w0:World) (e0:Env) (pS pB:List Nat) (a:Act) (w:World) (e:Env) (st:St):Prop extends Mem av pB w e st.bx,Fram w0 e0 w where
 nd:a.defers=Dfs.on.getD []
 sz:st.sl.length<=a.tmps.size
 hN:st.N<=w.heap.size
 hs:∀(i:Nat) (p:PV),st.sl[i]?=some p->i∉pS->p=.any\/a.tmps.getD i undef=p.val e
 so:∀(i:Nat) (p:PV),st.sl[i]?=some p->i∉pS->p.Ok w (zg av pB e st.bx)
 sr:∀(i:Nat) (p:PV),st.sl[i]?=some p->i∉pS->∀ k∈p.refs,k∉pB/\k<st.bx.length
 own:∀ k b,Lives pB e st.bx k b->w0.heap.size<=b\/(some b∈e0/\k<st.pins.length)
 avl:Avl av w0 e0
 avn:∀ k b,Lives pB e st.bx k b->¬av b
 pin:∀ k b,st.pins[k]?=some (some b)->e.at k=some b/\k∉pB
 pit:∀ L T,st.pin=some (L,T)->∀ x∈T,some x∈e0
theorem Rel.glob [Dfs]{av:Nat->Prop}{w0 w:World}{e0 e:Env}{pS pB:List Nat}{a:Act}{st:St}(h:Rel av w0 e0 pS pB a w e st):GlobIs w:=
 h.avl.g.keep (λb I=>h.old b (h.avl.lt b (h.avl.ga b I)) (h.avl.ge b I)) λx hx=>h.old x.1 (h.avl.g.ltb hx) (h.avl.gb x hx)
theorem PV.Ok.mono {w w':World} {live live':Nat->Prop} (I:∀ b,b<w.heap.size->¬live b->w'.heap[b]?=w.heap[b]?) (O:w.heap.size<=w'.heap.size)
  (J:∀ b,b<w.heap.size->live' b->live b):∀ p:PV,p.Ok w live->p.Ok w' live'
 | .sv a z es cap,h=>by simp only[PV.Ok]at h ⊢;exact h.mono I J
 | .d x,h=>by simp only[PV.Ok]at h ⊢;exact h.mono I J
 | .dc x,h=>by simp only[PV.Ok]at h ⊢;exact⟨h.1.mono I J,h.2⟩
 | .dg n x,h=>by simp only[PV.Ok]at h ⊢;exact⟨h.1.mono I J,h.2⟩
 | .pd ad z x,h=>by simp only[PV.Ok]at h ⊢;obtain⟨h1,h0,h2,h3,U,Y⟩:=h;exact⟨h1.mono I J,h0,h2,h3.mono λ_=>I _ Y U,λh=>U (J _ Y h),by omega⟩
 | .fn f caps,h=>by simp only[PV.Ok]at h ⊢;exact go caps h
 | .pg cs,h=>by simp only[PV.Ok]at h ⊢;exact⟨go cs h.1,h.2⟩
 | .tp l,h=>by simp only[PV.Ok]at h ⊢;exact go l h
 | .any,_=>trivial
 | .int ..,_=>trivial
 | .bool ..,_=>trivial
 | .str ..,_=>trivial
 | .lit x,h=>by simp only[PV.Ok]at h ⊢;exact h
 | .pb ..,_=>trivial
 | .sb ..,_=>trivial
 where go:∀ l:List PV,PV.OkL w live l->PV.OkL w' live' l
 | [],_=>trivial
 | p::ps,h=>⟨PV.Ok.mono I O J p h.1,go ps h.2⟩
theorem PV.OkL.mono {w w':World} {live live':Nat->Prop} (J:∀ b,b<w.heap.size->¬live b->w'.heap[b]?=w.heap[b]?) (I:w.heap.size<=w'.heap.size)
  (O:∀ b,b<w.heap.size->live' b->live b) (l:List PV) (h:PV.OkL w live l):PV.OkL w' live' l:=
 PV.OkL_iff.2 λp U=>PV.Ok.mono J I O p (PV.OkL_iff.1 h p U)
theorem Bx.Ok.mono {w w':World} {live live':Nat->Prop} (I:∀ b,b<w.heap.size->¬live b->w'.heap[b]?=w.heap[b]?) (J:w.heap.size<=w'.heap.size)
  (O:∀ b,b<w.heap.size->live' b->live b) {B:Bx} (h:B.Ok w live):B.Ok w' live':=by
 cases B with
 | var cs=>exact⟨PV.OkL.mono I J O cs h.1,h.2⟩
 | vd x n=>exact Good.mono h I O
 | arr t z es c=>exact λx hx=>(h x hx).mono I O
 | gone=>trivial
theorem PV.cv_congr {e e':Env}:∀ p:PV,(∀ k∈p.refs,e'.at k=e.at k)->p.cv e'=p.cv e
 | .pb k z i o,h=>by simp[PV.cv,h k (by simp[PV.refs])]
 | .sb k z lo n c,h=>by simp[PV.cv,h k (by simp[PV.refs])]
 | .fn f caps,h=>by simp only[PV.cv];rw[go caps (by simpa [PV.refs]using h)]
 | .any,_=>rfl
 | .int ..,_=>rfl
 | .bool ..,_=>rfl
 | .str ..,_=>rfl
 | .lit ..,_=>rfl
 | .sv ..,_=>rfl
 | .d ..,_=>rfl
 | .dc ..,_=>rfl
 | .dg ..,_=>rfl
 | .pd ..,_=>rfl
 | .pg ..,_=>rfl
 | .tp ..,_=>rfl
 where go:∀ l:List PV,(∀ k∈PV.refsL l,e'.at k=e.at k)->PV.cvs e' l=PV.cvs e l
 | [],_=>rfl
 | p::ps,h=>by simp only[PV.cvs];rw[PV.cv_congr p λk hk=>h k (by simp[PV.refsL,hk]),go ps λk hk=>h k (by simp[PV.refsL,hk])]
theorem PV.val1_congr {e e':Env}(p:PV)(h:∀ k∈p.refs,e'.at k=e.at k):p.val1 e'=p.val1 e:=by
 cases p with
 | pg cs=>simp only[PV.val1];rw[PV.cv_congr.go cs (by simpa [PV.refs]using h)]
 | d x=>rfl
 | dg n x=>rfl
 | _=>exact PV.cv_congr _ h
theorem PV.val_congr {e e':Env}(p:PV)(h:∀ k∈p.refs,e'.at k=e.at k):p.val e'=p.val e:=by
 cases p with
 | tp l=>simp only[PV.val];congr 2;exact nH λq I=>PV.val1_congr q λk hk=>h k (by simp only[PV.refs];exact PV.refsL_mem.2 ⟨q,I,hk⟩)
 | pg cs=>exact PV.val1_congr _ h
 | _=>exact PV.val1_congr _ h
theorem Bx.Rel.congr {w w':World}{e e':Env}{at_:Option Nat}{B:Bx}(h:B.Rel w e at_)(U:∀ b,at_=some b->w'.heap[b]?=w.heap[b]?)(he:∀ k∈B.refs,e'.at k=e.at k):B.Rel w' e' at_:=by
 cases B with
 | var cs=>
   obtain⟨b,c,t,I,J,O,h4⟩:=h;refine⟨b,c,t,I,(U b I).trans J,O,λi p Y=>?_⟩;rcases h4 i p Y with h5 | h5
   ·exact .inl h5
   ·exact .inr (by rw[PV.cv_congr p λk hk=>he k (by simp only[Bx.refs];exact PV.refsL_mem.2 ⟨p,oA Y,hk⟩)];exact h5)
 | vd x n=>obtain⟨b,c,t,I,J,O⟩:=h;exact⟨b,c,t,I,(U b I).trans J,O⟩
 | arr t z es n=>
   rcases h with h | ⟨b,c,I,J,O⟩
   ·exact .inl h
   ·exact .inr ⟨b,c,I,(U b I).trans J,O⟩
 | gone=>exact True.intro
theorem Lives.lt {av:Nat->Prop}{pB:List Nat}{w:World}{e:Env}{bx:List Bx}(h:Mem av pB w e bx){k b:Nat}(U:Lives pB e bx k b):b<w.heap.size:=by
 obtain⟨Y,h2,B,h3,h4⟩:=U;have hr:=h.br k B h3 Y;rw[h2]at hr;cases B with
 | var cs=>obtain⟨O,c,t,I,J,_⟩:=hr;cases I;exact(oR.1 J).1
 | vd x n=>obtain⟨O,c,t,I,J,_⟩:=hr;cases I;exact(oR.1 J).1
 | arr t z es n=>
   rcases hr with⟨I,_⟩ | ⟨O,c,I,J,_⟩
   ·cases I
   ·cases I;exact(oR.1 J).1
 | gone=>exact absurd rfl h4
theorem Env.at_append_lt {e:Env}{k:Nat}{x:Option Nat}(h:k<e.length):Env.at (e++[x]) k=e.at k:=by simp[Env.at,oB,oO h]
theorem Env.at_append_eq {e:Env}{x:Option Nat}:Env.at (e++[x]) e.length=x:=by simp[Env.at,oB]
theorem Env.at_set_ne {e:Env}{k j:Nat}{x:Option Nat}(h:k≠j):Env.at (e.set j x) k=e.at k:=by simp[Env.at,oB,nJ (Ne.symm h)]
theorem Env.at_set_eq {e:Env}{k:Nat}{x:Option Nat}(h:k<e.length):Env.at (e.set k x) k=x:=by simp[Env.at,oB,h]
theorem Env.at_ge {e:Env}{k:Nat}(h:e.length<=k):e.at k=none:=by simp[Env.at,oB,oY h]
def kz (P:Program)(t:TypeId):Option Nat:=
 match P.info? t,P.underlying t with
 | some i,some (.struct _)=>if i.size=0 then none else some i.size
 | some _,some (.array ..)=>none
 | some i,some _=>if i.size=1 then some 0 else none
 | _,_=>none
def zsh (P:Program):Nat->TypeId->List Nat
 | 0,_=>[]
 | n+1,t=>match P.underlying t with
   | some (.struct fs)=>fs.toList.flatMap λf=>zsh P n f.type
   | some (.slice e)=>[(kz P e).getD 0]
   | _=>[0]
def uh (z:Nat):PV->PV
 | .sv a z' es c=>match Nat.beq z' 1000003 with
   | true=>match a,es,c with
     | none,[],0=>.sv none z [] 0
     | a,es,c=>.sv a z' es c
   | false=>.sv a z' es c
 | p=>p
def BW:List Nat->List PV->List PV
 | z::I,p::ps=>uh z p::BW I ps
 | _,ps=>ps
def retag (P:Program)(t:TypeId)(p:PV):PV:=
 match p with
 | .pg cs=>.pg (BW (zsh P 8 t) cs)
 | p=>uh ((zsh P 1 t).getD 0 0) p
def u7:Value->PV
 | .int k n=>.int k n
 | .bool b=>.bool b
 | .string s=>.str s
 | .slice none 0 0=>.sv none 1000003 [] 0
 | .agg _=>.any
 | .tuple _=>.any
 | x=>.lit x
def RL:Value->PV
 | .agg cs=>if cs.toList.all (·.oneCell')then .pg (cs.toList.map u7)else .any
 | v=>u7 v
def opd (sl:List PV):Operand->PV
 | .tmp t=>sl.getD t .any
 | .const v=>RL v
 | .global _=>.any
 | .func f=>.fn f []
def frc (P:Program)(t:TypeId)(p:PV)(R:PV->Prop):Prop:=
 match p with
 | .dc x=>match P.underlying t with
   | some (.int k)=>∃ n,x=.lit (.int k n)/\R (.int k n)
   | some .bool=>∃ v,x=.lit (.bool v)/\R (.bool v)
   | some .string=>∃ v,x=.lit (.string v)/\R (.str v)
   | some (.slice el)=>match kz P el with
     | some z=>∃ a es cap,x=.sl a z es cap/\R (.sv a z es cap)
     | none=>False
   | _=>False
 | p=>R p
def UR (p:PV)(R:Int->Prop):Prop:=
 match p with
 | .int _ n=>R n
 | .dc x=>∃ k n,x=.lit (.int k n)/\R n
 | _=>False
def ZB (p:PV)(R:Bool->Prop):Prop:=
 match p with
 | .bool v=>R v
 | .dc x=>∃ v,x=.lit (.bool v)/\R v
 | _=>False
def VF (p:Option PV)(I:Int)(R:Int->Prop):Prop:=
 match p with
 | none=>R I
 | some p=>UR p R
def Ae (P:Program)(t:TypeId)(f:Nat):Option (Nat × Nat):=
 match P.underlying t with
 | some (.struct fs)=>match fs[f]? with
   | some I=>match kz P I.type with
     | some z=>some (I.offset,z)
     | none=>none
   | none=>none
 | _=>none
def ZJ (op:BinOp)(k:IntKind)(a b:Int)(R:PV->Prop):Prop:=
 match op with
 | .add=>R (.int k (k.wrap (a+b)))
 | .sub=>R (.int k (k.wrap (a - b)))
 | .mul=>R (.int k (k.wrap (a*b)))
 | .quo=>b≠0/\R (.int k (k.wrap (a.tdiv b)))
 | .rem=>b≠0/\R (.int k (a.tmod b))
 | .and=>R (.int k (k.wrap (BitVec.ofInt k.bits a &&& BitVec.ofInt k.bits b).toNat))
 | .xor=>R (.int k (k.wrap (BitVec.ofInt k.bits a ^^^ BitVec.ofInt k.bits b).toNat))
 | .eql=>R (.bool (a==b))
 | .neq=>R (.bool (a != b))
 | .lss=>R (.bool (decide (a<b)))
 | .leq=>R (.bool (decide (a<=b)))
 | .gtr=>R (.bool (decide (a>b)))
 | .geq=>R (.bool (decide (a≥b)))
 | _=>False
def Zz (op:BinOp)(a b:ByteArray)(R:PV->Prop):Prop:=
 match op with
 | .add=>a.size+b.size<=maxLen/\R (.str (a++b))
 | .eql=>R (.bool (a.toList==b.toList))
 | .neq=>R (.bool (!(a.toList==b.toList)))
 | .lss=>R (.bool (Op.bytesLess a.toList b.toList))
 | .leq=>R (.bool (Op.bytesLess a.toList b.toList||a.toList==b.toList))
 | .geq=>R (.bool (!Op.bytesLess a.toList b.toList))
 | _=>False
def Uk (op:BinOp)(a b:Bool)(R:PV->Prop):Prop:=
 match op with
 | .eql=>R (.bool (a==b))
 | .neq=>R (.bool (!(a==b)))
 | _=>False
def Zu (P:Program)(op:BinOp)(t:TypeId)(a b:Option Addr)(I:Nat)(J:List D)(cb:Nat)(R:PV->Prop):Prop:=
 match Nat.beq I 1000003,P.underlying t with
 | true,some (.slice _)=>match b,J,cb with
   | none,[],0=>match op with
     | .eql=>R (.bool a.isNone)
     | .neq=>R (.bool (!a.isNone))
     | _=>False
   | _,_,_=>False
 | _,_=>False
def Yp (P:Program)(op:BinOp)(t:TypeId)(p q:PV)(R:PV->Prop):Prop:=
 match p,q with
 | .int k a,.int I b=>
   match op with
   | .shr=>0<=b/\R (.int k (a.fdiv (2 ^ (min b.toNat k.bits))))
   | .shl=>0<=b/\R (.int k (k.wrap (a*2 ^ (min b.toNat k.bits))))
   | _=>if k=I then ZJ op k a b R else False
 | .str a,.str b=>Zz op a b R
 | .bool a,.bool b=>match P.underlying t with
   | some .bool=>Uk op a b R
   | _=>False
 | .sv a _ _ _,.sv b J O cb=>Zu P op t a b J O cb R
 | _,_=>False
def pgR (cs:List PV)(R:PV->Prop):Prop:=if cs.all PV.notAny=true then R (.pg cs)else R .any
def Ol (z zz:Nat) (B:Bx) (i o:Nat) (R:PV->Prop):Prop:=
 match B with
 | .var cs=>match i with
   | 0 => if z=0 then(if o<cs.length then R (cs.getD o .any)else False)
          else if o+z<=cs.length then pgR ((cs.drop o).take z) R else False
   | _+1=>False
 | .vd x n=>match i with
   | 0 => if z=0 then(if o<n then R (.dc (x.cell o))else False)
          else if o=0/\z=n then R (.dg n x)else if o+z<=n then R (.dg z (x.sub o z))else False
   | _+1=>False
 | .arr _ z' es _=>if zz=z' then i<es.length /\
  (if z'=0 then(if z=0/\o=0 then R (.dc (es.getD i default))else False)
   else if z=0 then(if o<z' then R (.dc ((es.getD i default).cell o))else False)
   else if o=0/\z=z' then R (.dg z (es.getD i default))else if o+z<=z' then R (.dg z ((es.getD i default).sub o z))else False)else False
 | .gone=>False
def PV.isCap:PV->Bool
 | .pb ..=>true
 | .int ..=>true
 | .bool ..=>true
 | .str ..=>true
 | .sb ..=>true
 | .sv ..=>true
 | .fn ..=>true
 | .pd ..=>true
 | .dc ..=>true
 | .lit ..=>true
 | _=>false
def bytesOf (ns:List Int):ByteArray:=ns.foldl (λr n=>r.push (UInt8.ofNat n.toNat)) ByteArray.empty
def GG (rb:Nat->Option Bx)(p:PV)(R:PV->Prop):Prop:=
 match p with
 | .sv _ z es _=>match z with
   | 0=>∃ ns:List Int,es=ns.map (λn=>D.lit (.int .u8 n))/\R (.str (bytesOf ns))
   | _+1=>False
 | .sb k z lo n _=>match rb k with
   | some (.arr _ z' es _)=>match z,z',lo with
     | 0,0,0=>n<=es.length/\∃ ns:List Int,es.take n=ns.map (λn=>D.lit (.int .u8 n))/\R (.str (bytesOf ns))
     | _,_,_=>False
   | _=>False
 | _=>False
def loC (z:Nat)(l:Int)(c:Nat):Prop:=match z with
 | 0=>l<(c:Int)
 | _+1=>True
def loN (z c:Nat)(l:Int):Nat:=match z with
 | 0=>l.toNat
 | _+1=>if(c:Int)=l then 0 else l.toNat
theorem Va {z c:Nat}{l:Int}(I:0<=l)(hc:loC z l c):(c=l.toNat/\loN z c l=0)\/(c≠l.toNat/\loN z c l=l.toNat):=by
 cases z with
 | zero=>simp only[loC]at hc;exact .inr ⟨by omega,rfl⟩
 | succ n=>
   by_cases h:(c:Int)=l
   ·exact .inl ⟨by omega,by simp[loN,h]⟩
   ·exact .inr ⟨by omega,by simp[loN,h]⟩
def Yc (P:Program)(t:TypeId)(es:Array MapEntry)(c:Nat)(s:ByteArray)(o:Option ByteArray):Prop:=∀(w:World) (b:Nat),w.heap[b]?=some (.map es c)->(Instr.lookup t (.map (some b)) (.string s) true).run P w=.ok (.tuple #[.string (o.getD ByteArray.empty),.bool o.isSome]) w
def C4 (P:Program) (ρ:Operand->PV) (rb:Nat->Option Bx) (op:Op) (ty:TypeId) (R:PV->Prop):Prop:=
 match op with
 | .move x=>R (retag P ty (ρ x))
 | .assign x=>R (retag P ty (ρ x))
 | .pick c a b=>ZB (ρ c) λv=>if v=true then R (ρ a)else R (ρ b)
 | .load t x=>match kz P t with
   | none=>False
   | some z=>match ρ x with
     | .pb k zz i o=>match rb k with
       | some B=>Ol z zz B i o R
       | none=>False
     | .pd _ z' y=>if z'=z then R (if z=0 then .dc y else .dg z y)else False
     | _=>False
 | .nilCheck x=>match ρ x with
   | .pb k z i o=>R (.pb k z i o)
   | .pd ad z y=>R (.pd ad z y)
   | .fn f caps=>R (.fn f caps)
   | _=>False
 | .binOp op t x y O=>frc P t (ρ x) λp=>frc P O (ρ y) λq=>Yp P op t p q R
 | .unOp op t x=>match op with
   | .not=>frc P t (ρ x) λp=>match p with
     | .bool v=>R (.bool (!v))
     | _=>False
   | .neg=>frc P t (ρ x) λp=>match p with
     | .int k n=>R (.int k (k.wrap (0 - n)))
     | _=>False
   | _=>False
 | .convert s d x=>match P.underlying d with
   | some (.int k)=>match P.underlying s with
     | some (.int _)=>frc P s (ρ x) λp=>match p with
       | .int _ n=>R (.int k (k.wrap n))
       | _=>False
     | _=>False
   | some .string=>match P.underlying s with
     | some (.slice el)=>match kz P el,P.underlying el with
       | some 0,some (.int .u8)=>frc P s (ρ x) λp=>GG rb p R
       | _,_=>False
     | _=>False
   | _=>False
 | .fieldAddr t x f=>match Ae P t f with
   | none=>False
   | some (o,z)=>match ρ x with
     | .pb k z' i U=>R (.pb k z' i (U+o))
     | .pd ad n y=>if o+ez z<=n then R (.pd (ad.add o) z (if z=0 then y.cell o else y.sub o z))else False
     | _=>False
 | .indexAddr t x i=>match P.underlying t with
   | some (.slice el)=>match kz P el with
     | none=>False
     | some z=>UR (ρ i) λn=>frc P t (ρ x) λp=>match p with
       | .sv a z' es _=>if z'=z then(0<=n/\n<(es.length:Int))/\R (.pd ((a.getD default).add (n.toNat*ez z)) z (es.getD n.toNat default))else False
       | .sb k z' lo m _=>match rb k with
         | some (.arr _ J es _)=>if z'=z/\J=z then(0<=n/\n<(m:Int)/\lo+n.toNat<es.length)/\R (.pb k z' (lo+n.toNat) 0)else False
         | _=>False
       | _=>False
   | _=>False
 | .index t x i=>match P.underlying t with
   | some .string=>UR (ρ i) λn=>frc P t (ρ x) λp=>match p with
     | .str s=>(0<=n/\n<(s.size:Int))/\R (.int .u8 ((s.data.getD n.toNat 0).toNat:Int))
     | _=>False
   | _=>False
 | .slice t x lo hi Y=>match Y,P.underlying t with
   | none,some .string=>frc P t (ρ x) λp=>match p with
     | .str s=>VF (lo.map ρ) 0 λl=>VF (hi.map ρ) (s.size:Int) λh=>(0<=l/\l<=h/\h<=(s.size:Int))/\R (.str (s.extract l.toNat h.toNat))
     | _=>False
   | none,some (.slice el)=>match kz P el with
     | none=>False
     | some z=>frc P t (ρ x) λp=>match p with
       | .sv a z' es cap=>if z'=z then VF (lo.map ρ) 0 λl=>VF (hi.map ρ) (es.length:Int) λh=>(0<=l/\l<=h/\h<=(es.length:Int)) /\
        R (.sv (if(cap:Int)=l then a else a.map (·.add (l.toNat*ez z))) z ((es.take h.toNat).drop l.toNat) (cap - l.toNat))else False
       | .sb k z' I n c=>match lo with
         | none=>VF (hi.map ρ) (n:Int) λh=>(0<=h/\h<=(c:Int))/\R (.sb k z' I h.toNat c)
         | some y=>if z'=z then UR (ρ y) λl=>VF (hi.map ρ) (n:Int) λh=>(0<=l/\l<=h/\h<=(c:Int)/\loC z l c)/\R (.sb k z' (I+loN z c l) (h.toNat - l.toNat) (c - l.toNat))else False
       | _=>False
   | _,_=>False
 | .field t x f=>match Ae P t f with
   | none=>False
   | some (o,z)=>match ρ x with
     | .pg cs=>if z=0 then(if o<cs.length then R (cs.getD o .any)else False)else if o+z<=cs.length then pgR ((cs.drop o).take z) R else False
     | .dg n y=>if z=0 then(if o<n then R (.dc (y.cell o))else False)else if o+z<=n then R (.dg z (y.sub o z))else False
     | _=>False
 | .extract x i=>match ρ x with
   | .tp l=>match l[i]? with
     | some (.tp _)=>False
     | some p=>R p
     | none=>False
   | _=>False
 | .lookup t m x ok=>match ok,P.underlying t with
   | true,some (.map k _)=>frc P k (ρ x) λp=>match p,ρ m with
     | .str s,.dc y=>∃ b es c,y=.mp b es c/\∃ o:Option ByteArray,Yc P t es c s o/\R (.tp [.str (o.getD ByteArray.empty),.bool o.isSome])
     | _,_=>False
   | _,_=>False
 | .makeFunc f first caps=>match f,first.toList with
   | .func f,[]=>if(caps.toList.map ρ).all PV.isCap=true then R (.fn f (caps.toList.map ρ))else False
   | _,_=>False
 | .call c=>match c.callee,c.args.toList,c.argTypes.toList with
   | .builtin .len,[x],[t]=>match P.underlying t with
     | some (.slice _)=>frc P t (ρ x) λp=>match p with
       | .sv _ _ es _=>R (.int .i64 (es.length:Int))
       | .sb _ _ _ n _=>R (.int .i64 (n:Int))
       | _=>False
     | some .string=>frc P t (ρ x) λp=>match p with
       | .str s=>R (.int .i64 (s.size:Int))
       | _=>False
     | _=>False
   | .builtin .max,[x,y],[s,t]=>frc P s (ρ x) λp=>frc P t (ρ y) λq=>match p,q with
     | .int k a,.int _ b=>R (.int k (if b>a then b else a))
     | _,_=>False
   | .builtin .min,[x,y],[s,t]=>frc P s (ρ x) λp=>frc P t (ρ y) λq=>match p,q with
     | .int k a,.int _ b=>R (.int k (if b<a then b else a))
     | _,_=>False
   | _,_,_=>False
 | _=>False
variable {P:Program}
theorem D5 {t:TypeId}{z:Nat}(h:kz P t=some z):∃ i,P.info? t=some i/\i.size=ez z:=by
 unfold kz at h;cases hi:P.info? t with
 | none=>simp[hi]at h
 | some i=>
   refine⟨i,rfl,?_⟩;simp only[hi]at h;unfold ez;split at h
   ·split at h
    ·cases h
    ·rename_i hs;cases h;simp_all
   ·cases h
   ·split at h
    ·rename_i hs;cases h;simp_all
    ·cases h
   ·cases h
theorem Oy {t:TypeId}{i:TypeInfo}(h:P.info? t=some i)(w:World):(sizeOf t).run P w=.ok i.size w:=by simp[sizeOf,typeInfo,h]
theorem vo {t:TypeId}{z:Nat}(h:kz P t=some z)(w:World):(sizeOf t).run P w=.ok (ez z) w:=by obtain⟨i,hi,hs⟩:=D5 h;rw[Oy hi,hs]
theorem Kf {t:TypeId}{z:Nat}(h:kz P t=some z)(w:World):(isAgg t).run P w=.ok (decide (z≠0)) w:=by
 unfold kz at h;cases hi:P.info? t with
 | none=>simp[hi]at h
 | some i=>
   cases I:P.underlying t with
   | none=>simp[hi,I]at h
   | some d=>
     simp only[hi,I]at h;unfold isAgg;rw[Sem.run_bind,run_underlying I w];cases d<;>simp at h ⊢
     case struct fs=>obtain⟨O,J⟩:=h;subst J;simp[O]
     all_goals(obtain⟨_,J⟩:=h;exact J.symm)
theorem qG {w:World}{b off:Nat}{c:Array Value}{t:TypeId}{fz:Nat × Nat}(h:w.heap[b]?=some (.cells c t fz)):w.cell? ⟨b,off,none⟩=c[off]?:=by simp[World.cell?,h]
theorem wA (b o n:Nat):Addr.add ⟨b,o,none⟩ n=⟨b,o+n,none⟩:=by unfold Addr.add;split<;>simp_all
theorem v9 {t:TypeId}(h:kz P t=some 0){w:World}{ad:Addr}{v:Value}(hc:w.cell? ad=some v):(loadVar t ad).run P w=.ok v w:=by simp[loadVar,Kf h,hc]
theorem qO {t:TypeId} {z:Nat} (h:kz P t=some z) (I:z≠0) {w:World} {ad:Addr} {cs:List Value} (J:cs.length=z)
  (hc:∀ j v,cs[j]?=some v->w.cell? (ad.add j)=some v):(loadVar t ad).run P w=.ok (.agg cs.toArray) w:=by
 have hr:=run_loadCells_list (P:=P) w ad cs hc;rw[J]at hr;have O:ez z=z:=by simp[ez,I]
 simp[loadVar,Kf h,I,vo h,O,hr]
structure OpdOk (av:Nat->Prop) (a:Act) (w:World) (e:Env) (pB:List Nat) (bx:List Bx) (x:Operand) (p:PV):Prop where
 h:p=.any\/a.eval x=p.val e
 ok:p.Ok w (zg av pB e bx)
 rf:∀ k∈p.refs,k∉pB/\k<bx.length
theorem Ou (z:Nat)(p:PV):uh z p=p\/(p=.sv none 0 [] 0/\uh z p=.sv none z [] 0)\/(∃ y,p=.sv none y [] 0/\uh z p=.sv none z [] 0):=by
 unfold uh;split
 ·split
  ·split
   ·exact .inr (.inr ⟨_,rfl,rfl⟩)
   ·exact .inl rfl
  ·exact .inl rfl
 ·exact .inl rfl
theorem Cn {w:World}{live:Nat->Prop}{z:Nat}:Good w live (.sl none z [] 0):=⟨.nil,by simp[D.foot,zF]⟩
theorem Ev (z:Nat) (p:PV) (w:World) (live:Nat->Prop) (e:Env) (h:p.Ok w live) :
  (uh z p).Ok w live/\(uh z p).refs=p.refs/\(uh z p).cv e=p.cv e/\(uh z p).val e=p.val e/\(uh z p=.any↔p=.any)/\((uh z p).isC↔p.isC):=by
 rcases Ou z p with I | ⟨rfl,I⟩ | ⟨y,rfl,I⟩
 ·rw[I];exact⟨h,rfl,rfl,rfl,lO,lO⟩
 ·rw[I];exact⟨Cn,rfl,rfl,rfl,by simp,lO⟩
 ·rw[I];exact⟨Cn,rfl,rfl,rfl,by simp,lO⟩
theorem AN (I:List Nat) (ps:List PV) (w:World) (live:Nat->Prop) (e:Env) (h:PV.OkL w live ps) :
  PV.OkL w live (BW I ps)/\PV.refsL (BW I ps)=PV.refsL ps/\PV.cvs e (BW I ps)=PV.cvs e ps/\((∀ p∈ps,p.isC)->∀ p∈BW I ps,p.isC):=by
 induction ps generalizing I with
 | nil=>cases I<;>exact⟨h,rfl,rfl,id⟩
 | cons p ps J=>
   cases I with
   | nil=>exact⟨h,rfl,rfl,id⟩
   | cons z I=>
     obtain⟨O,U⟩:=h;obtain⟨a1,Y,a3,_,a5,a6⟩:=Ev z p w live e O;obtain⟨b1,b2,b3,b4⟩:=J I U;refine⟨⟨a1,b1⟩,by simp[BW,PV.refsL,Y,b2],by simp[BW,PV.cvs,a3,b3],λhc q hq=>?_⟩;simp only[BW,oH]at hq;rcases hq with rfl | hq
     ·exact a6.2 (hc p (by simp))
     ·exact b4 (λx hx=>hc x (by simp[hx])) q hq
theorem HC (t:TypeId) (p:PV) (w:World) (live:Nat->Prop) (e:Env) (h:p.Ok w live) :
  (retag P t p).Ok w live/\(retag P t p).refs=p.refs/\(retag P t p).val e=p.val e/\(retag P t p=.any↔p=.any):=by
 have one:∀ z,(uh z p).Ok w live/\(uh z p).refs=p.refs/\(uh z p).val e=p.val e/\(uh z p=.any↔p=.any):=λz=>let⟨a,b,_,c,d,_⟩:=Ev z p w live e h;⟨a,b,c,d⟩
 cases p with
 | pg cs=>
   simp only[PV.Ok]at h;obtain⟨a,b,c,d⟩:=AN (zsh P 8 t) cs w live e h.1;refine⟨⟨a,d h.2⟩,?_,?_,by simp[retag]⟩
   ·simp[retag,PV.refs,b]
   ·simp[retag,PV.val,PV.val1,c]
 | _=>exact one ((zsh P 1 t).getD 0 0)
theorem zw (x:Value)(w:World)(live:Nat->Prop)(e:Env):(u7 x).Ok w live/\(u7 x).refs=[]/\(u7 x=.any\/(u7 x).val e=x)/\(x.oneCell'=true->(u7 x).cv e=x/\(u7 x).isC):=by unfold u7;split<;>simp_all[PV.Ok,PV.refs,PV.val,PV.val1,PV.cv,PV.isC,Value.oneCell',Cn]
theorem Od (x:Value)(w:World)(live:Nat->Prop)(e:Env):(RL x).Ok w live/\(RL x).refs=[]/\(RL x=.any\/(RL x).val e=x):=by
 unfold RL;split
 ·rename_i cs;split
  ·rename_i I;rw[oa]at I;refine⟨⟨PV.OkL_iff.2 λp J=>?_,λp J=>?_⟩,?_,.inr ?_⟩
   ·obtain⟨v,_,rfl⟩:=oT.1 J;exact(zw v w live e).1
   ·obtain⟨v,hv,rfl⟩:=oT.1 J;exact((zw v w live e).2.2.2 (I v hv)).2
   ·have:∀ k,k∉PV.refsL (cs.toList.map u7):=λk hk=>by obtain⟨p,J,hk⟩:=PV.refsL_mem.1 hk;obtain⟨v,_,rfl⟩:=oT.1 J;rw[(zw v w live e).2.1]at hk;simp at hk
    exact nl.2 this
   ·simp only[PV.val,PV.val1,PV.cvs_eq,mf];have:cs.toList.map (PV.cv e∘u7)=cs.toList:=by
     conv=>rhs;rw[<-List.map_id cs.toList]
     exact nH λv hv=>((zw v w live e).2.2.2 (I v hv)).1
    rw[this]
  ·exact⟨trivial,rfl,.inl rfl⟩
 ·exact⟨(zw x w live e).1,(zw x w live e).2.1,(zw x w live e).2.2.1⟩
def ValOk (av:Nat->Prop)(w:World)(e:Env)(pB:List Nat)(bx:List Bx)(v:Value)(p:PV):Prop:=
 (p=.any\/v=p.val e)/\p.Ok w (zg av pB e bx)/\∀ k∈p.refs,k∉pB/\k<bx.length
section
variable {av:Nat->Prop} {w:World} {e:Env} {pB:List Nat} {bx:List Bx} {a:Act}
theorem OpdOk.valOk {x:Operand}{p:PV}(h:OpdOk av a w e pB bx x p):ValOk av w e pB bx (a.eval x) p:=⟨h.h,h.ok,h.rf⟩
theorem HW {v:Value}:ValOk av w e pB bx v .any:=⟨.inl rfl,trivial,by simp[PV.refs]⟩
theorem yE {k:IntKind}{n:Int}:ValOk av w e pB bx (.int k n) (.int k n):=⟨.inr rfl,trivial,by simp[PV.refs]⟩
theorem zr {b:Bool}:ValOk av w e pB bx (.bool b) (.bool b):=⟨.inr rfl,trivial,by simp[PV.refs]⟩
theorem HX {s:ByteArray}:ValOk av w e pB bx (.string s) (.str s):=⟨.inr rfl,trivial,by simp[PV.refs]⟩
theorem DI {x:D}(h:Good w (zg av pB e bx) x)(hc:x.isCell):ValOk av w e pB bx x.cv (.dc x):=⟨.inr rfl,⟨h,hc⟩,by simp[PV.refs]⟩
theorem As {n:Nat}{x:D}(h:Good w (zg av pB e bx) x)(hc:IsAg n x):ValOk av w e pB bx x.val (.dg n x):=⟨.inr rfl,⟨h,hc⟩,by simp[PV.refs]⟩
theorem ValOk.retag {v:Value}{p:PV}(h:ValOk av w e pB bx v p)(t:TypeId):ValOk av w e pB bx v (retag P t p):=by obtain⟨I,J,O⟩:=h;obtain⟨a1,U,Y,a4⟩:=HC (P:=P) t p w (zg av pB e bx) e J;exact⟨I.imp a4.2 (λh=>h.trans Y.symm),a1,λk hk=>O k (U ▸ hk)⟩
theorem yR {t:TypeId}{v:Value}{p:PV}{R:PV->Prop}(hv:ValOk av w e pB bx v p)(h:frc P t p R):∃ q,R q/\ValOk av w e pB bx v q/\(q=.any->p=.any):=by
 unfold frc at h;split at h
 ·rename_i x;obtain⟨I,J,O⟩:=hv;have I:=I.resolve_left (by simp);simp only[PV.Ok]at J;split at h
  ·obtain⟨n,rfl,h⟩:=h;exact⟨_,h,⟨.inr (by rw[I];rfl),trivial,by simp[PV.refs]⟩,by simp⟩
  ·obtain⟨n,rfl,h⟩:=h;exact⟨_,h,⟨.inr (by rw[I];rfl),trivial,by simp[PV.refs]⟩,by simp⟩
  ·obtain⟨n,rfl,h⟩:=h;exact⟨_,h,⟨.inr (by rw[I];rfl),trivial,by simp[PV.refs]⟩,by simp⟩
  ·split at h
   ·obtain⟨a,es,cap,rfl,h⟩:=h;exact⟨_,h,⟨.inr (by rw[I];rfl),J.1,by simp[PV.refs]⟩,by simp⟩
   ·exact h.elim
  ·exact h.elim
 ·exact⟨_,h,hv,id⟩
theorem tG {v:Value}{p:PV}{R:Int->Prop}(hv:ValOk av w e pB bx v p)(h:UR p R):∃ k n,R n/\v=.int k n:=by
 unfold UR at h;split at h
 ·exact⟨_,_,h,by have:=hv.1.resolve_left (by simp);exact this⟩
 ·obtain⟨k,n,rfl,h⟩:=h;exact⟨_,_,h,by have:=hv.1.resolve_left (by simp);exact this⟩
 ·exact h.elim
theorem Q6 {v:Value}{p:PV}{R:Bool->Prop}(hv:ValOk av w e pB bx v p)(h:ZB p R):∃ n,R n/\v=.bool n:=by
 unfold ZB at h;split at h
 ·exact⟨_,h,by have:=hv.1.resolve_left (by simp);exact this⟩
 ·obtain⟨n,rfl,h⟩:=h;exact⟨_,h,by have:=hv.1.resolve_left (by simp);exact this⟩
 ·exact h.elim
theorem RC {op:BinOp} {k:IntKind} {x y:Int} {R:PV->Prop} {t:TypeId} (h:ZJ op k x y R) :
  ∃ v q,(binOp op t (.int k x) (.int k y)).run P w=.ok v w/\R q/\ValOk av w e pB bx v q:=by
 cases op<;>simp only[ZJ]at h
 case quo=>obtain⟨I,h⟩:=h;exact⟨_,_,by simp[binOp,Op.intDiv,I],h,yE⟩
 case rem=>obtain⟨I,h⟩:=h;exact⟨_,_,by simp[binOp,Op.intDiv,I],h,yE⟩
 case add=>exact⟨_,_,by simp[binOp,Op.intArith],h,yE⟩
 case sub=>exact⟨_,_,by simp[binOp,Op.intArith],h,yE⟩
 case mul=>exact⟨_,_,by simp[binOp,Op.intArith],h,yE⟩
 case and=>exact⟨_,_,by simp only[binOp,Op.intBits,ne_eq,mS,nQ,Sem.run_pure],h,yE⟩
 case xor=>exact⟨_,_,by simp only[binOp,Op.intBits,ne_eq,mS,nQ,Sem.run_pure],h,yE⟩
 case eql=>exact⟨_,_,by simp[binOp,Op.intCmp],h,zr⟩
 case neq=>exact⟨_,_,by simp only[binOp,Op.intCmp,ne_eq,mS,nQ,Sem.run_pure],h,zr⟩
 case lss=>exact⟨_,_,by simp only[binOp,Op.intCmp,ne_eq,mS,nQ,Sem.run_pure],h,zr⟩
 case leq=>exact⟨_,_,by simp only[binOp,Op.intCmp,ne_eq,mS,nQ,Sem.run_pure],h,zr⟩
 case gtr=>exact⟨_,_,by simp only[binOp,Op.intCmp,ne_eq,mS,nQ,Sem.run_pure],h,zr⟩
 case geq=>exact⟨_,_,by simp only[binOp,Op.intCmp,ne_eq,mS,nQ,Sem.run_pure],h,zr⟩
theorem Qo {op:BinOp} {v1 v2:Value} {p q:PV} {R:PV->Prop} {t:TypeId} {x y:Operand} (U:ValOk av w e pB bx v1 p) (Y:ValOk av w e pB bx v2 q) (h:Yp P op t p q R) :
  ∃ v r,(do eqGuard op t x y v1 v2;binOp op t v1 v2:Sem Value).run P w=.ok v w/\R r/\ValOk av w e pB bx v r:=by
 unfold Yp at h;split at h
 ·rename_i k a k' b;have e1:v1=.int k a:=U.1.resolve_left (by simp);have I:v2=.int k' b:=Y.1.resolve_left (by simp);subst e1;subst I;have J:eqGuard op t x y (.int k a) (.int k' b)=pure ():=by cases op<;>rfl
  rw[J];split at h
  ·obtain⟨O,h⟩:=h;exact⟨_,_,by simp[binOp,Op.shift,Int.not_lt.2 O],h,yE⟩
  ·obtain⟨O,h⟩:=h;exact⟨_,_,by simp[binOp,Op.shift,Int.not_lt.2 O],h,yE⟩
  ·split at h
   ·rename_i hk;subst hk;obtain⟨v,r,h3,h4⟩:=RC (P:=P) (w:=w) (e:=e) (pB:=pB) (bx:=bx) (t:=t) h;exact⟨v,r,by simpa using h3,h4⟩
   ·exact h.elim
 ·rename_i a b;have e1:v1=.string a:=U.1.resolve_left (by simp);have I:v2=.string b:=Y.1.resolve_left (by simp);subst e1;subst I;have J:eqGuard op t x y (.string a) (.string b)=pure ():=by cases op<;>rfl
  rw[J];cases op<;>simp only[Zz]at h
  case add=>
   obtain⟨O,h⟩:=h;refine⟨_,_,?_,h,HX⟩;have:¬(((a.size+b.size:Nat):Int)>IntKind.i64.max):=by unfold maxLen at O;simp;omega
   simp only[binOp,Op.stringOp,this,nQ,Sem.run_bind,Sem.run_pure,Result.andThen_ok]
  case eql=>exact⟨_,_,by simp only[binOp,Op.stringOp,Sem.run_bind,Sem.run_pure,Result.andThen_ok],h,zr⟩
  case neq=>exact⟨_,_,by simp only[binOp,Op.stringOp,Sem.run_bind,Sem.run_pure,Result.andThen_ok],h,zr⟩
  case lss=>exact⟨_,_,by simp only[binOp,Op.stringOp,Sem.run_bind,Sem.run_pure,Result.andThen_ok],h,zr⟩
  case leq=>exact⟨_,_,by simp only[binOp,Op.stringOp,Sem.run_bind,Sem.run_pure,Result.andThen_ok],h,zr⟩
  case geq=>exact⟨_,_,by simp only[binOp,Op.stringOp,Sem.run_bind,Sem.run_pure,Result.andThen_ok],h,zr⟩
 ·rename_i a b;have e1:v1=.bool a:=U.1.resolve_left (by simp);have I:v2=.bool b:=Y.1.resolve_left (by simp);subst e1;subst I;have J:eqGuard op t x y (.bool a) (.bool b)=pure ():=by cases op<;>rfl
  rw[J];split at h
  ·rename_i hu;have heq:(Op.equal t (.bool a) (.bool b)).run P w=.ok (a==b) w:=by have:Op.maxDepth=9999+1:=rfl;rw[Op.equal,this,Op.equalIn];simp[run_underlying hu]
   cases op<;>simp only[Uk]at h
   case eql=>exact⟨_,_,by simp[binOp,heq],h,zr⟩
   case neq=>exact⟨_,_,by simp[binOp,heq],h,zr⟩
  ·exact h.elim
 ·rename_i a z es c b zb eb cb;have e1:v1=.slice a es.length c:=U.1.resolve_left (by simp);have I:v2=.slice b eb.length cb:=Y.1.resolve_left (by simp);unfold Zu at h;split at h
  ·rename_i hu;split at h
   ·subst e1;subst I;have heq:(Op.equal t (.slice a es.length c) (.slice none ([]:List D).length 0)).run P w=.ok a.isNone w:=by have:Op.maxDepth=9999+1:=rfl;rw[Op.equal,this,Op.equalIn];cases a<;>simp[run_underlying hu]
    have J:eqGuard op t x y (.slice a es.length c) (.slice none ([]:List D).length 0)=pure ():=by cases op<;>rfl
    rw[J];cases op<;>simp only at h
    case eql=>exact⟨_,_,by simp[binOp]at heq ⊢;simp[heq],h,zr⟩
    case neq=>exact⟨_,_,by simp[binOp]at heq ⊢;simp[heq],h,zr⟩
   ·exact h.elim
  ·exact h.elim
 ·exact h.elim
theorem PV.val_isC {p:PV}(h:p.isC):p.val e=p.cv e:=by
 cases p<;>simp[PV.isC]at h<;>try rfl
 rename_i x;cases x<;>simp[D.isCell]at h<;>rfl
theorem PV.notAny_iff {p:PV}:p.notAny=true↔p≠.any:=by cases p<;>simp[PV.notAny]
theorem D.val_isCell {x:D}(h:x.isCell):x.val=x.cv:=by cases x<;>simp[D.isCell]at h<;>rfl
theorem IsAg.cell {n:Nat}{x:D}(h:IsAg n x){i:Nat}(hi:i<n):(x.cell i).isCell/\x.cells[i]?=some (x.cell i):=by obtain⟨cs,rfl,I,hc⟩:=h;have:cs[i]?=some (cs[i]'(by omega)):=oF (by omega);simp only[D.cell,D.cells,oB,this,ob];exact⟨hc _ (mM _),trivial⟩
theorem IsAg.sub {n:Nat}{x:D}(h:IsAg n x){o z:Nat}(hi:o+z<=n):IsAg z (x.sub o z):=by obtain⟨cs,rfl,J,hc⟩:=h;exact⟨_,rfl,by simp[D.cells];omega,λc I=>hc c (nD (oi I))⟩
theorem IsAg.val {n:Nat}{x:D}(h:IsAg n x):x.val=.agg (x.cells.map D.cv).toArray:=by obtain⟨cs,rfl,I,hc⟩:=h;rfl
theorem IsAg.length {n:Nat}{x:D}(h:IsAg n x):x.cells.length=n:=by obtain⟨cs,rfl,I,hc⟩:=h;exact I
theorem G5 {cs:List PV} {R:PV->Prop} {vs:List Value} (U:cs.length=vs.length) (hc:∀(i:Nat) (p:PV),cs[i]?=some p->p=.any\/vs[i]?=some (p.cv e))
  (hk:∀ p∈cs,p.Ok w (zg av pB e bx)/\(p=.any\/p.isC)/\∀ k∈p.refs,k∉pB/\k<bx.length) (h:pgR cs R):∃ q,R q/\ValOk av w e pB bx (.agg vs.toArray) q:=by
 unfold pgR at h;split at h
 ·rename_i I;rw[oa]at I;refine⟨_,h,.inr ?_,⟨PV.OkL_iff.2 λp O=>(hk p O).1,λp O=>(hk p O).2.1.resolve_left (PV.notAny_iff.1 (I p O))⟩,λk J=>?_⟩
  ·simp only[PV.val,PV.val1,PV.cvs_eq];congr 2;apply nK;intro i;rw[oG];cases hi:cs[i]? with
   | none=>simp at hi ⊢;omega
   | some p=>exact(hc i p hi).resolve_left (PV.notAny_iff.1 (I p (oA hi)))
  ·simp only[PV.refs]at J;obtain⟨p,O,J⟩:=PV.refsL_mem.1 J;exact(hk p O).2.2 k J
 ·exact⟨_,h,HW⟩
theorem Om {t:TypeId} {z zz k i o:Nat} {B:Bx} {R:PV->Prop} (hm:Mem av pB w e bx) (hB:bx[k]?=some B) (hk:k∉pB) (hz:kz P t=some z)
  (h:Ol z zz B i o R):∃ v q,(loadVar t ⟨(e.at k).getD 0,i*ez zz+o,none⟩).run P w=.ok v w/\R q/\ValOk av w e pB bx v q:=by
 have hr:=hm.br k B hB hk;have hok:=hm.bo k B hB hk;have hrf:=hm.bf k B hB hk;cases B with
 | gone=>exact h.elim
 | var cs=>
   simp only[Ol]at h;obtain⟨b,c,t',h1,h2,h3,h4⟩:=hr;obtain⟨ho1,ho2⟩:=hok;rw[PV.OkL_iff]at ho1;simp only[Bx.refs]at hrf;rw[h1];split at h
   ·simp only[ob,lH,nT];split at h
    ·rename_i hz0;subst hz0;split at h
     ·rename_i hlt;have hp:cs[o]?=some (cs.getD o .any):=by rw[oB];simp[hlt]
      have hc:c[o]?=some (c[o]'(by omega)):=o9 (by omega);refine⟨_,_,v9 hz ((qG h2).trans hc),h,?_,ho1 _ (oA hp),fun j hj=>hrf j (PV.refsL_mem.2 ⟨_,oA hp,hj⟩)⟩;rcases h4 o _ hp with h5 | h5
      ·exact .inl h5
      ·rcases ho2 _ (oA hp)with h6 | h6
       ·exact .inl h6
       ·rw[hc]at h5;exact .inr ((oU h5).trans (PV.val_isC h6).symm)
     ·exact h.elim
    ·rename_i hz0;split at h
     ·rename_i hle;have hvs:((c.toList.drop o).take z).length=z:=by simp;omega
      have:=qO hz hz0 (w:=w) (ad:=⟨b,o,none⟩) (cs:=(c.toList.drop o).take z) hvs (fun j v hj=>by
       rw[wA,qG h2];simp only[od,nU]at hj;split at hj
       ·simpa using hj
       ·cases hj)
      obtain⟨q,hq,hv⟩:=G5 (w:=w) (e:=e) (pB:=pB) (bx:=bx) (vs:=(c.toList.drop o).take z) (by rw[hvs];simp;omega)
       (fun i p hp=>by
        simp only[od,nU]at hp ⊢;split at hp
        ·rename_i hi;rcases h4 _ _ hp with h5 | h5
         ·exact .inl h5
         ·exact .inr (by simpa [hi]using h5)
        ·cases hp)
       (fun p hp=>by have hmem:=nD (oi hp);exact⟨ho1 _ hmem,ho2 _ hmem,fun j hj=>hrf j (PV.refsL_mem.2 ⟨_,hmem,hj⟩)⟩) h
      exact⟨_,q,this,hq,hv⟩
     ·exact h.elim
   ·exact h.elim
 | vd x n=>
   simp only[Ol]at h;obtain⟨b,c,t',h1,h2,h3,h4,h5⟩:=hr;rw[h1];split at h
   ·simp only[ob,lH,nT];split at h
    ·rename_i hz0;subst hz0;split at h
     ·rename_i hlt;obtain⟨h6,h7⟩:=h4.cell hlt;exact⟨_,_,v9 hz ((qG h2).trans (h5 _ _ h7)),h,DI (hok.cell _) h6⟩
     ·exact h.elim
    ·rename_i hz0;have hload:∀ o,o+z<=n->(loadVar t ⟨b,o,none⟩).run P w=.ok (x.sub o z).val w:=fun o hle=>by
      have hl:=h4.length
      have:=qO hz hz0 (w:=w) (ad:=⟨b,o,none⟩) (cs:=((x.cells.drop o).take z).map D.cv) (by simp;omega) (fun j v hj=>by
       rw[wA,qG h2];simp only[oG,od,nU]at hj;split at hj
       ·cases hu:x.cells[o+j]? with
        | none=>simp[hu]at hj
        | some u=>rw[hu]at hj;simp at hj;subst hj;exact h5 _ _ hu
       ·cases hj)
      exact this
     split at h
     ·rename_i h6;obtain⟨rfl,rfl⟩:=h6;refine⟨_,_,hload 0 (by omega),h,?_⟩;have hx:x.sub 0 z=x:=by obtain⟨cs,rfl,hl,_⟩:=h4;simp[D.sub,D.cells,<-hl]
      rw[hx];exact As hok h4
     ·split at h
      ·rename_i hle;exact⟨_,_,hload o hle,h,As (hok.sub o z) (h4.sub hle)⟩
      ·exact h.elim
   ·exact h.elim
 | arr t' z' es n=>
   simp only[Ol]at h;split at h
   ·rename_i hzz;subst hzz;obtain⟨hi,h⟩:=h;rcases hr with⟨_,rfl,_⟩ | ⟨b,c,h1,h2,h3,h4,h5,h6,h7⟩
    ·simp at hi
    ·rw [h1];simp only[ob];have hx:es[i]?=some (es.getD i default):=by rw[oB];simp[hi]
     have hmem:=oA hx;have hex:=h6 _ hmem;have hgx:=hok _ hmem;generalize es.getD i default=x at *;have hcell:∀(j:Nat) (u:D),x.cells[j]?=some u->w.cell? ⟨b,i*ez zz+j,none⟩=some u.cv:=fun j u hj=>by rw[qG h2];exact h7 _ _ (Af h6 hx hj)
     split at h
     ·rename_i hz0;subst hz0;split at h
      ·rename_i h8;obtain⟨rfl,rfl⟩:=h8;simp only[eOk,nj]at hex;have hc0:x.cells[0]?=some x:=by cases x<;>simp[D.isCell,D.cells]at hex ⊢
       exact⟨_,_,v9 hz (hcell 0 _ hc0),h,DI hgx hex⟩
      ·exact h.elim
     ·rename_i hz0;simp only[eOk,hz0,nQ]at hex;split at h
      ·rename_i hz1;subst hz1;split at h
       ·rename_i hlt;obtain⟨h8,h9⟩:=hex.cell hlt;exact⟨_,_,v9 hz (hcell _ _ h9),h,DI (hgx.cell _) h8⟩
       ·exact h.elim
      ·rename_i hz1;have hload:∀ o,o+z<=zz->(loadVar t ⟨b,i*ez zz+o,none⟩).run P w=.ok (x.sub o z).val w:=fun o hle=>by
        have hl:=hex.length
        have:=qO hz hz1 (w:=w) (ad:=⟨b,i*ez zz+o,none⟩) (cs:=((x.cells.drop o).take z).map D.cv) (by simp;omega) (fun j v hj=>by
         rw[wA];simp only[oG,od,nU]at hj;split at hj
         ·cases hu:x.cells[o+j]? with
          | none=>simp[hu]at hj
          | some u=>rw[hu]at hj;simp at hj;subst hj;rw[mP];exact hcell _ _ hu
         ·cases hj)
        exact this
       split at h
       ·rename_i h8;obtain⟨rfl,rfl⟩:=h8;refine⟨_,_,hload 0 (by omega),h,?_⟩;have hx:x.sub 0 z=x:=by obtain⟨cs,rfl,hl,_⟩:=hex;simp[D.sub,D.cells,<-hl]
        rw[hx];exact As hgx hex
       ·split at h
        ·rename_i hle;exact⟨_,_,hload o hle,h,As (hgx.sub o z) (hex.sub hle)⟩
        ·exact h.elim
   ·exact h.elim
end
variable {av:Nat->Prop} {P:Program} {w:World} {e:Env} {pB:List Nat} {bx:List Bx} {a:Act}
theorem Ck {t:TypeId}{f o z:Nat}(h:Ae P t f=some (o,z)):∃ fs I,P.underlying t=some (.struct fs)/\fs[f]?=some I/\kz P I.type=some z/\I.offset=o:=by
 unfold Ae at h;split at h
 ·rename_i fs J;split at h
  ·rename_i I O;split at h
   ·rename_i z' U;simp at h;exact⟨fs,I,J,O,by rw[U,h.2],h.1⟩
   ·cases h
  ·cases h
 ·cases h
theorem Good.slice {live:Nat->Prop} {ad:Option Addr} {z:Nat} {es:List D} {cap l h:Nat} (hg:Good w live (.sl ad z es cap)) (ab:l<=h) (hh:h<=es.length) :
  Good w live (.sl (if(cap:Int)=(l:Int)then ad else ad.map (·.add (l*ez z))) z ((es.take h).drop l) (cap - l)):=by
 obtain⟨h1,h2⟩:=hg;cases h1 with
 | nil=>
   simp at hh;have:l=0:=by omega
   subst this;subst hh;refine⟨?_,by simp[D.foot,zF]⟩;simp;exact .nil
 | @sl ad z es cap h3 h4 h5 h6 h7=>
   have I:∀ x∈(es.take h).drop l,x∈es:=λx hx=>oi (nD hx);have O:((es.take h).drop l).length=h - l:=by simp;omega
   by_cases J:es=[]
   ·subst J;have h0:l=0:=by simp at hh;omega
    subst h0;simp only[List.take_nil,List.drop_nil,lH,Nat.sub_zero];have:(if(cap:Int)=((0:Nat):Int)then some ad else(some ad).map (·.add 0))=some ad:=by split<;>simp[Addr.add]
    rw[this];exact⟨.sl (by simp) (by simp) (by simp) (by simp) (.inl rfl),by simp[D.foot]⟩
   have h3:=h3 J;have U:((some ad).map (·.add (l*ez z)):Option Addr)=some ⟨ad.block,ad.off+l*ez z,none⟩:=by obtain⟨b,o,s⟩:=ad;simp at h3;subst h3;simp[wA]
   by_cases Y:(cap:Int)=(l:Int)
   ·have:l=h:=by omega
    subst this;have he:(es.take l).drop l=[]:=by simp[List.drop_take]
    rw[if_pos Y,he];exact⟨.sl (by simp) (by simp) (by simp) (by simp) (.inl rfl),by simp[D.foot]⟩
   ·rw [if_neg Y,U];refine⟨.sl (λ_=>rfl) (by rw[O];omega) (λx hx=>h5 x (I x hx)) (λx hx=>h6 x (I x hx)) ?_,?_⟩
    ·rcases h7 with h7 | ⟨c,t,fz,h8,h9⟩
     ·left;have hl:=zW h5;rw[h7]at hl;have hp:=Cj z;have:es.length=0:=by
       rcases lP es.length with h0 | h0
       ·exact h0
       ·have:=Nat.mul_pos h0 hp;simp at hl;omega
      have:es=[]:=List.length_eq_zero_iff.1 this;subst this;simp[flat]
     ·right;refine⟨c,t,fz,h8,λi u hu=>?_⟩;have ac:flat es=flat (es.take l)++flat ((es.take h).drop l)++flat (es.drop h):=by
       rw[<-wH,<-wH];congr 1;have e1:es.take l=(es.take h).take l:=by rw[List.take_take,Nat.min_eq_left ab]
       rw[e1,nu,nu]
      have aa:(flat (es.take l)).length=l*ez z:=by rw[zW (z:=z) (λx hx=>h5 x (oi hx))];simp;rw[Nat.min_eq_left (by omega)]
      have:(flat es)[l*ez z+i]?=some u:=by have ah:i<(flat ((es.take h).drop l)).length:=(oC.1 hu).1;rw[ac,oO (by rw[oK,aa];omega),oS (by omega),aa];rw[show l*ez z+i - l*ez z=i by omega];exact hu
      have:=h9 _ _ this
      rw[<-mP]at this;exact this
    ·intro b hb;apply h2;by_cases he:es=[]
     ·subst he;simp[D.foot,zF]at hb
     ·simp only[D.foot]at hb ⊢;split at hb
      ·simp at hb
      ·rw[if_neg (by simpa using he)];rcases oH.1 hb with h10 | h10
       ·exact oH.2 (.inl h10)
       ·refine oH.2 (.inr ?_);obtain⟨x,hx,ae⟩:=zQ.1 h10;exact zQ.2 ⟨x,I x hx,ae⟩
theorem V9 {ad:Option Addr}{z:Nat}{es:List D}{cap:Nat}(h:Good w (zg av pB e bx) (.sl ad z es cap)):ValOk av w e pB bx (.slice ad es.length cap) (.sv ad z es cap):=
 ⟨.inr rfl,h,by simp[PV.refs]⟩
theorem tH {I:Option Operand} {ρ:Operand->PV} {d:Int} {R:Int->Prop} (J:∀ x,I=some x->ValOk av w e pB bx (a.eval x) (ρ x)) (h:VF (I.map ρ) d R) :
  ∃ n,R n/\((I=none/\n=d)\/∃ x k,I=some x/\a.eval x=.int k n):=by
 cases I with
 | none=>exact⟨d,h,.inl ⟨rfl,rfl⟩⟩
 | some x=>obtain⟨k,n,O,U⟩:=tG (J x rfl) h;exact⟨n,O,.inr ⟨x,k,rfl,U⟩⟩
theorem zZ {k:IntKind}{n:Int}{y:Nat}{c:BoundsCode}(I:0<=n)(J:n<=y):(Instr.sliceBound (.int k n) y c).run P w=.ok n.toNat w:=by simp[Instr.sliceBound,asIntOf,I,J]
theorem Iz (w:World) (ad:Addr) (c:Nat) (ns:List Int) (h:∀(j:Nat) (v:Value),((ns.map λn=>D.lit (.int .u8 n)).map D.cv)[j]?=some v->w.cell? (ad.add j)=some v) :
  (Conv.bytesToString (.slice (some ad) ns.length c)).run P w=.ok (.string (bytesOf ns)) w:=by
 refine run_bytesToString w ad ns.length c ns ?_
 have:=run_loadCells_list (P:=P) w ad (ns.map (Value.int .u8)) λj v I=>h j v (by rw[mf];exact I)
 simpa using this
theorem Q3 (ns:List Int):flat (ns.map λn=>D.lit (.int .u8 n))=ns.map λn=>D.lit (.int .u8 n):=by
 induction ns with
 | nil=>rfl
 | cons n ns I=>rw[oZ,vn,I];rfl
theorem GX {w:World}{ad:Addr}(hs:ad.spot=none){c:Array Value}{t:TypeId}{fz:Nat × Nat}(h:w.heap[ad.block]?=some (.cells c t fz))(j:Nat):w.cell? (ad.add j)=c[ad.off+j]?:=by obtain⟨b,o,s⟩:=ad;simp only at hs h ⊢;subst hs;rw[wA];exact qG h
theorem OB {rb:Nat->Option Bx} (hm:Mem av pB w e bx) (hb:∀ k B,rb k=some B->bx[k]?=some B/\k∉pB) {v:Value} {p:PV} {R:PV->Prop} (hv:ValOk av w e pB bx v p) (h:GG rb p R) :
  ∃ ns,(∃(a:Option Addr) (n c:Nat),v=.slice a n c/\(Conv.bytesToString v).run P w=.ok (.string (bytesOf ns)) w)/\R (.str (bytesOf ns)):=by
 unfold GG at h;split at h
 ·rename_i a z es c;split at h
  rotate_left
  ·exact h.elim
  obtain⟨ns,J,hR⟩:=h;have O:v=.slice a es.length c:=hv.1.resolve_left (by simp);refine⟨ns,⟨a,_,c,O,?_⟩,hR⟩;have hg:=hv.2.1;simp only[PV.Ok]at hg;obtain⟨hh,ac⟩:=hg;clear ac;rw[O];cases hh with
  | nil=>
    have:ns=[]:=by cases ns<;>simp at J;rfl
    subst this;simp[Conv.bytesToString,bytesOf]
  | sl h1 h2 h3 h4 h5=>
    rename_i ad;have I:es.length=ns.length:=by rw[J];simp
    rw[I];refine Iz w ad c ns λj u Y=>?_;rw[J,Q3]at h5;rw[oG]at Y;cases U:(ns.map λn=>D.lit (.int .u8 n))[j]? with
    | none=>rw[U]at Y;simp at Y
    | some y=>
      rw[U]at Y;simp at Y;subst Y;rcases h5 with h5 | ⟨cc,t,fz,h6,h7⟩
      ·rw[h5]at U;simp at U
      ·rw[GX (h1 λh=>by rw[h]at I;have:ns=[]:=oL I.symm;rw[this]at U;simp at U) h6];exact h7 j y U
 ·rename_i k z lo n c;split at h
  rotate_left
  ·exact h.elim
  rename_i t z' es cb hk;split at h
  rotate_left
  ·exact h.elim
  obtain⟨ak,ns,J,hR⟩:=h;obtain⟨ae,ah⟩:=hb k _ hk;have O:=hv.1.resolve_left (by simp);have I:n=ns.length:=by have:=lY List.length J;simp at this;omega
  rcases hm.br k _ ae ah with⟨h1,h2,h3⟩ | ⟨b,c',h1,h2,h3,h4,h5,h6,h7⟩
  ·subst h2;have:ns=[]:=by cases ns<;>simp at J;rfl
   subst this;refine⟨[],⟨none,n,c,by rw[O];simp[PV.val,PV.val1,PV.cv,h1],?_⟩,hR⟩;rw[O];simp[PV.val,PV.val1,PV.cv,h1,Conv.bytesToString,bytesOf]
  ·refine⟨ns,⟨some ⟨b,0,none⟩,n,c,by rw[O];simp[PV.val,PV.val1,PV.cv,h1],?_⟩,hR⟩;rw[O];have aa:(PV.sb k 0 0 n c).val e=.slice (some ⟨b,0,none⟩) ns.length c:=by simp[PV.val,PV.val1,PV.cv,h1,I]
   rw[aa];refine Iz w ⟨b,0,none⟩ c ns λj u Y=>?_;rw[oG]at Y;cases U:(ns.map λn=>D.lit (.int .u8 n))[j]? with
   | none=>rw[U]at Y;simp at Y
   | some y=>
     rw[U]at Y;simp at Y;subst Y;rw[GX rfl h2];have hy:es[j]?=some y:=by
      rw[<-J,od]at U;split at U
      ·exact U
      ·cases U
     have ai:(flat es)[j]?=some y:=by
      have ab:=h6 y (oA hy);have aj:y.cells[0]?=some y:=by simp[eOk]at ab;cases y<;>simp[D.isCell]at ab<;>rfl
      have:=Af h6 hy aj
      simpa [ez]using this
     simpa using h7 j y ai
 ·exact h.elim
theorem JH {ρ:Operand->PV} {rb:Nat->Option Bx} {o:Oper} {R:PV->Prop} (hm:Mem av pB w e bx) (ho:∀ x∈o.op.operands,OpdOk av a w e pB bx x (ρ x))
  (hrb:∀ k B,rb k=some B->bx[k]?=some B/\k∉pB) (h:C4 P ρ rb o.op o.type R) :
  ∃ v p,(execOp a.eval o).run P w=.ok (.value v) w/\R p/\ValOk av w e pB bx v p:=by
 obtain⟨dst,op,ty,pos,after,guard⟩:=o;simp only at ho h ⊢;cases op<;>simp only[C4]at h<;>try exact h.elim
 case move x=>exact⟨_,_,rfl,h,((ho x (by simp[Op.operands])).valOk).retag ty⟩
 case assign x=>exact⟨_,_,rfl,h,((ho x (by simp[Op.operands])).valOk).retag ty⟩
 case pick c x y=>
  obtain⟨v,h1,h2⟩:=Q6 ((ho c (by simp[Op.operands])).valOk) h;cases v with
  | true=>exact⟨_,_,by simp[execOp,asBool,h2],by simpa using h1,(ho x (by simp[Op.operands])).valOk⟩
  | false=>exact⟨_,_,by simp[execOp,asBool,h2],by simpa using h1,(ho y (by simp[Op.operands])).valOk⟩
 case load t x=>
  have hx:=ho x (by simp[Op.operands]);split at h
  ·exact h.elim
  ·rename_i z hz;split at h
   ·rename_i k zz i o' hρ;split at h
    ·rename_i B hB;obtain⟨h1,h2⟩:=hrb k B hB;obtain⟨v,q,h3,h4,h5⟩:=Om hm h1 h2 hz h;have hv:=hx.h.resolve_left (by rw[hρ];simp);rw[hρ]at hv;refine⟨v,q,?_,h4,h5⟩;simp only[execOp,Instr.loadAt,hv,PV.val,PV.val1,PV.cv,Instr.sureAddr,Sem.run_bind,Sem.run_pure,Result.andThen_ok,h3]
    ·exact h.elim
   ·rename_i ad z' y hρ;split at h
    ·rename_i hzz;subst hzz;have hok:=hx.ok;rw[hρ]at hok;simp only[PV.Ok]at hok;obtain⟨h1,h2,h3,h4,h5,h6⟩:=hok;have hv:=hx.h.resolve_left (by rw[hρ];simp);rw[hρ]at hv;obtain⟨b,off,sp⟩:=ad;simp at h3;subst h3;by_cases hz0:z'=0
     ·subst hz0;simp only[nj]at h;simp only[eOk,nj]at h2;have hc0:y.cells[0]?=some y:=by cases y<;>simp[D.isCell,D.cells]at h2 ⊢
      rcases h4 with h4 | ⟨c,t',fz,h7,h8⟩
      ·rw[h4]at hc0;simp at hc0
      ·have hl:=v9 hz (w:=w) (ad:=⟨b,off,none⟩) ((qG h7).trans (h8 0 y hc0));refine⟨y.cv,_,?_,h,DI h1 h2⟩;simp only[execOp,Instr.loadAt,hv,PV.val,PV.val1,PV.cv,Instr.sureAddr,Sem.run_bind,Sem.run_pure,Result.andThen_ok,hl]
     ·simp only[hz0,nQ]at h;simp only[eOk,hz0,nQ]at h2;have hlen:=h2.length;have hcell:∀ j v,(y.cells.map D.cv)[j]?=some v->w.cell? ((⟨b,off,none⟩:Addr).add j)=some v:=fun j v hj=>by
       rw[wA];rcases h4 with h4 | ⟨c,t',fz,h7,h8⟩
       ·rw[h4]at hj;simp at hj
       ·rw[qG h7];rw[oG]at hj;cases hu:y.cells[j]? with
        | none=>simp[hu]at hj
        | some u=>rw[hu]at hj;simp at hj;subst hj;exact h8 j u hu
      have hl:=qO hz hz0 (w:=w) (ad:=⟨b,off,none⟩) (cs:=y.cells.map D.cv) (by simp[hlen]) hcell;refine⟨y.val,_,?_,h,As h1 h2⟩;rw[h2.val];simp only[execOp,Instr.loadAt,hv,PV.val,PV.val1,PV.cv,Instr.sureAddr,Sem.run_bind,Sem.run_pure,Result.andThen_ok,hl]
    ·exact h.elim
   ·exact h.elim
 case nilCheck x=>
  have hx:=ho x (by simp[Op.operands]);have hv:=hx.valOk;split at h
  ·rename_i hρ;have h1:=hx.h.resolve_left (by rw[hρ];simp);rw[hρ]at h1 hv;exact⟨_,_,by simp only[execOp,h1,PV.val,PV.val1,PV.cv];rfl,h,by rw[h1]at hv;exact hv⟩
  ·rename_i hρ;have h1:=hx.h.resolve_left (by rw[hρ];simp);rw[hρ]at h1 hv;exact⟨_,_,by simp only[execOp,h1,PV.val,PV.val1,PV.cv];rfl,h,by rw[h1]at hv;exact hv⟩
  ·rename_i hρ;have h1:=hx.h.resolve_left (by rw[hρ];simp);rw[hρ]at h1 hv;exact⟨_,_,by simp only[execOp,h1,PV.val,PV.val1,PV.cv];rfl,h,by rw[h1]at hv;exact hv⟩
  ·exact h.elim
 case binOp op t x y yt=>obtain⟨p,h1,h2, -⟩:=yR (ho x (by simp[Op.operands])).valOk h;obtain⟨q,h3,h4, -⟩:=yR (ho y (by simp[Op.operands])).valOk h1;obtain⟨v,r,h5,h6,h7⟩:=Qo (x:=x) (y:=y) h2 h4 h3;exact⟨v,r,by simp only[execOp,Sem.run_bind]at h5 ⊢;rw[h5];rfl,h6,h7⟩
 case unOp op t x=>
  cases op<;>simp only at h<;>try exact h.elim
  case not=>
   obtain⟨p,h1,h2, -⟩:=yR (ho x (by simp[Op.operands])).valOk h;split at h1
   ·have:=h2.1.resolve_left (by simp)
    exact⟨_,_,by simp[execOp,this,Op.unary,PV.val,PV.val1,PV.cv],h1,zr⟩
   ·exact h1.elim
  case neg=>
   obtain⟨p,h1,h2, -⟩:=yR (ho x (by simp[Op.operands])).valOk h;split at h1
   ·have:=h2.1.resolve_left (by simp)
    exact⟨_,_,by simp only[execOp,this,Op.unary,PV.val,PV.val1,PV.cv,Op.intArith,Sem.run_bind,Sem.run_pure,Result.andThen_ok],h1,yE⟩
   ·exact h1.elim
 case convert s d x=>
  split at h
  ·rename_i k hd;split at h
   ·rename_i k' hs;obtain⟨p,h1,h2, -⟩:=yR (ho x (by simp[Op.operands])).valOk h;split at h1
    ·have:=h2.1.resolve_left (by simp)
     exact⟨_,_,by simp[execOp,this,convert,run_underlying hs,run_underlying hd,Conv.intToInt,PV.val,PV.val1,PV.cv],h1,yE⟩
    ·exact h1.elim
   ·exact h.elim
  ·rename_i hd;split at h
   ·rename_i el hs;split at h
    ·rename_i hz hu;obtain⟨p,h1,h2, -⟩:=yR (ho x (by simp[Op.operands])).valOk h;obtain⟨ns,⟨ad,n,c,e1,e2⟩,h4⟩:=OB (P:=P) hm hrb h2 h1;have hcv:(convert s d (a.eval x)).run P w=.ok (.string (bytesOf ns)) w:=by rw[e1]at e2 ⊢;cases ad<;>simp[convert,run_underlying hs,run_underlying hd,run_underlying hu,e2]
     exact⟨.string (bytesOf ns),_,by simp[execOp,hcv],h4,HX⟩
    ·exact h.elim
   ·exact h.elim
  ·exact h.elim
 case fieldAddr t x f=>
  have hx:=ho x (by simp[Op.operands]);split at h
  ·exact h.elim
  ·rename_i o' z hfi;obtain⟨fs,fd,hu,hf,hz,rfl⟩:=Ck hfi;have hne:ez z≠0:=by have:=Cj z;omega
   have hplace:∀ ad:Addr,(fieldPlace ad fd).run P w=.ok (ad.add fd.offset) w:=fun ad=>by simp[fieldPlace,vo hz,hne]
   split at h
   ·rename_i k z' i o'' hρ;have hv:=hx.h.resolve_left (by rw[hρ];simp);have hrf:=hx.rf;rw[hρ]at hv hrf;refine⟨_,_,?_,h,.inr rfl,trivial,hrf⟩;simp only[execOp,Instr.fieldAt,run_underlying hu,hv,PV.val,PV.val1,PV.cv,Instr.sureAddr,Sem.run_bind,Sem.run_pure,Result.andThen_ok,hf,hplace,wA,mP]
   ·rename_i ad n y hρ;split at h
    ·rename_i hle;have hv:=hx.h.resolve_left (by rw[hρ];simp);have hok:=hx.ok;rw[hρ]at hv hok;simp only[PV.Ok]at hok;obtain⟨h1,h2,h3,h4,h5,h6⟩:=hok;have hn0:n≠0:=by have:=Cj z;omega
     simp only[eOk,hn0,nQ]at h2;obtain⟨b,off,sp⟩:=ad;simp at h3;subst h3;refine⟨_,_,?_,h,.inr rfl,?_,by simp[PV.refs]⟩
     ·simp only[execOp,Instr.fieldAt,run_underlying hu,hv,PV.val,PV.val1,PV.cv,Instr.sureAddr,Sem.run_bind,Sem.run_pure,Result.andThen_ok,hf,hplace]
     ·simp only[PV.Ok,wA];have hrow:∀(cs:List D) (q:Nat),(∀(i:Nat) (u:D),cs[i]?=some u->y.cells[fd.offset+i]?=some u)->Row w ⟨b,off+fd.offset,none⟩ cs:=fun cs q hcs=>by
       rcases h4 with h4 | ⟨c,t',fz,h7,h8⟩
       ·left;cases hc:cs with
        | nil=>rfl
        | cons u us=>have:=hcs 0 u (by simp[hc]);rw[h4]at this;simp at this
       ·exact .inr ⟨c,t',fz,h7,fun i u hu=>by have:=h8 _ _ (hcs i u hu);simp only at this ⊢;rw[mP];exact this⟩
      split
      ·rename_i hz0;subst hz0;have hlt:fd.offset<n:=by simp[ez]at hle;omega
       obtain⟨h9,h10⟩:=h2.cell hlt;refine⟨h1.cell _,by simpa [eOk]using h9,trivial,hrow _ 0 fun i u hu=>?_,h5,h6⟩;cases i with
       | zero=>rw[mr,h10];revert hu;generalize y.cell fd.offset=c at *;intro hu;cases c<;>simp[D.isCell,D.cells]at h9 hu ⊢<;>exact hu
       | succ i=>revert hu;generalize y.cell fd.offset=c at *;intro hu;cases c<;>simp[D.isCell,D.cells]at h9 hu
      ·rename_i hz0;have he:ez z=z:=by simp[ez,hz0]
       rw[he]at hle;refine⟨h1.sub _ _,by simp only[eOk,hz0,nQ];exact h2.sub hle,trivial,hrow _ 0 fun i u hu=>?_,h5,h6⟩;simp only[D.sub,D.cells,od,nU]at hu;split at hu
       ·exact hu
       ·cases hu
    ·exact h.elim
   ·exact h.elim
 case indexAddr t x i=>
  split at h
  ·rename_i el hu;split at h
   ·exact h.elim
   ·rename_i z hz;obtain⟨k,n,h,hn⟩:=tG (ho i (by simp[Op.operands])).valOk h;obtain⟨p,h1,h2, -⟩:=yR (ho x (by simp[Op.operands])).valOk h;split at h1
    ·rename_i ad z' es cap;split at h1
     ·rename_i hzz;subst hzz;obtain⟨⟨hn0,hn1⟩,h1⟩:=h1;have hv:=h2.1.resolve_left (by simp);have hok:Good w (zg av pB e bx) (.sl ad z' es cap):=h2.2.1;have hlt:n.toNat<es.length:=by omega
      have hx:es[n.toNat]?=some (es.getD n.toNat default):=by rw[oB];simp[hlt]
      have hmem:=oA hx;have hge:=hok.elem hmem;obtain⟨hH,hF⟩:=hok;cases hH with
      | nil=>simp at hlt
      | @sl ad _ _ _ h3 h4 h5 h6 h7=>
        have hes:es≠[]:=fun h=>by subst h;simp at hlt
        have h3:=h3 hes;obtain⟨b,off,sp⟩:=ad;simp at h3;subst h3;have hfb:b∈(D.sl (some ⟨b,off,none⟩) z' es cap).foot:=by simp[D.foot,hes]
        refine⟨_,_,?_,h1,.inr rfl,?_,by simp[PV.refs]⟩
        ·simp only[execOp,Instr.indexAt,hn,hv,PV.val,PV.val1,PV.cv,asIntOf,run_underlying hu,Sem.run_bind,Sem.run_pure,Result.andThen_ok,ob];have hc:0<=n/\n<(es.length:Int):=⟨hn0,hn1⟩
         simp[hc,vo hz]
        ·simp only[PV.Ok,ob,wA];refine⟨hge,h5 _ hmem,trivial,?_,hF b hfb,Holds.lt (.sl (fun _=>rfl) h4 h5 h6 h7) b hfb⟩;rcases h7 with h7 | ⟨c,t',fz,h8,h9⟩
         ·left;generalize es.getD n.toNat default=y at *;cases hc:y.cells with
          | nil=>rfl
          | cons u us=>have:=Af h5 hx (i:=0) (u:=u) (by simp[hc]);rw[h7]at this;simp at this
         ·exact .inr ⟨c,t',fz,h8,fun j u hj=>by
           have:=h9 _ _ (Af h5 hx hj)
           simp only at this ⊢;rw[mP];exact this⟩
     ·exact h1.elim
    ·rename_i kb z' lo m c;split at h1
     ·rename_i t' z'' es c' hB;split at h1
      ·rename_i hzz;obtain⟨rfl,rfl⟩:=hzz;obtain⟨⟨hn0,hn1,hn2⟩,h1⟩:=h1;have hv:=h2.1.resolve_left (by simp);have hrf:=h2.2.2;obtain⟨hB1,hB2⟩:=hrb kb _ hB;refine⟨_,_,?_,h1,.inr rfl,trivial,hrf⟩;rcases hm.br kb _ hB1 hB2 with⟨_,rfl,_⟩ | ⟨b,cc,hb,_⟩
       ·simp at hn2
       ·simp only[execOp,Instr.indexAt,hn,hv,PV.val,PV.val1,PV.cv,asIntOf,run_underlying hu,Sem.run_bind,Sem.run_pure,Result.andThen_ok,hb,ob];have hc:0<=n/\n<(m:Int):=⟨hn0,hn1⟩
        simp[hc,vo hz,wA,nG]
      ·exact h1.elim
     ·exact h1.elim
    ·exact h1.elim
  ·exact h.elim
 case index t x i=>
  split at h
  ·rename_i hu;obtain⟨k,n,h,hn⟩:=tG (ho i (by simp[Op.operands])).valOk h;obtain⟨p,h1,h2, -⟩:=yR (ho x (by simp[Op.operands])).valOk h;split at h1
   ·rename_i s;obtain⟨⟨hn0,hn1⟩,h1⟩:=h1;have hv:=h2.1.resolve_left (by simp);have hlt:n.toNat<s.size:=by omega
    have hs:s[n.toNat]?=some (s.data.getD n.toNat 0):=by have:n.toNat<s.data.size:=hlt;rw[getElem?_pos s n.toNat hlt];simp[Array.getD,hlt];rfl
    exact⟨_,_,by simp[execOp,Instr.index,hn,hv,PV.val,PV.val1,PV.cv,asIntOf,run_underlying hu,hn0,hs],h1,yE⟩
   ·exact h1.elim
  ·exact h.elim
 case slice t x lo hi mx=>
  have hxo:=(ho x (by simp[Op.operands])).valOk;split at h
  ·rename_i hu;obtain⟨p,h1,h2, -⟩:=yR hxo h;split at h1
   ·rename_i s;have hv:=h2.1.resolve_left (by simp);obtain⟨l,h1,hl⟩:=tH (a:=a) (fun y hy=>(ho y (by simp[Op.operands,hy])).valOk) h1;obtain⟨u,h1,hh⟩:=tH (a:=a) (fun y hy=>(ho y (by simp[Op.operands,hy])).valOk) h1;obtain⟨⟨hl0,hlu,hus⟩,h1⟩:=h1;refine⟨_,_,?_,h1,HX⟩;have hu0:0<=u:=by omega
    have hln:l<=(u.toNat:Int):=by omega
    have hbounds:(Instr.sliceBounds false s.size s.size (lo.map a.eval) (hi.map a.eval) none).run P w=.ok (l.toNat,u.toNat,s.size) w:=by
     rcases hh with⟨rfl,rfl⟩ | ⟨yh,kh,rfl,hyh⟩
     ·rcases hl with⟨rfl,rfl⟩ | ⟨yl,kl,rfl,hyl⟩
      ·simp[Instr.sliceBounds]
      ·simp[Instr.sliceBounds,hyl,zZ hl0 hlu]
     ·rcases hl with⟨rfl,rfl⟩ | ⟨yl,kl,rfl,hyl⟩
      ·simp[Instr.sliceBounds,hyh,zZ hu0 hus]
      ·simp[Instr.sliceBounds,hyh,hyl,zZ hu0 hus,zZ hl0 hln]
    simp only[execOp,Instr.sliceAt,Sem.run_bind,run_underlying hu,Result.andThen_ok,hv,PV.val,PV.val1,PV.cv,Instr.slice,mc,ml,mI,nQ,hbounds,Sem.run_pure]
   ·exact h1.elim
  ·rename_i el hu;split at h
   ·exact h.elim
   ·rename_i z hz;obtain⟨p,h1,h2, -⟩:=yR hxo h;split at h1
    ·rename_i ad z' es cap;split at h1
     ·rename_i hzz;subst hzz;have hv:=h2.1.resolve_left (by simp);have hg:Good w (zg av pB e bx) (.sl ad z' es cap):=h2.2.1;obtain⟨l,h1,hl⟩:=tH (a:=a) (fun y hy=>(ho y (by simp[Op.operands,hy])).valOk) h1;obtain⟨u,h1,hh⟩:=tH (a:=a) (fun y hy=>(ho y (by simp[Op.operands,hy])).valOk) h1;obtain⟨⟨hl0,hlu,hus⟩,h1⟩:=h1;have hu0:0<=u:=by omega
      have hln:l<=(u.toNat:Int):=by omega
      have hle:es.length<=cap:=by
       obtain⟨hH,_⟩:=hg;cases hH with
       | nil=>simp
       | sl _ h _ _ _=>exact h
      have huc:u<=(cap:Int):=by omega
      have hg':=hg.slice (l:=l.toNat) (h:=u.toNat) (by omega) (by omega);have hlc:((l.toNat:Nat):Int)=l:=by omega
      rw[hlc]at hg';have hlen:((es.take u.toNat).drop l.toNat).length=u.toNat - l.toNat:=by simp;omega
      refine⟨_,_,?_,h1,V9 hg'⟩;have hbounds:(Instr.sliceBounds true es.length cap (lo.map a.eval) (hi.map a.eval) none).run P w=.ok (l.toNat,u.toNat,cap) w:=by
       rcases hh with⟨rfl,rfl⟩ | ⟨yh,kh,rfl,hyh⟩
       ·rcases hl with⟨rfl,rfl⟩ | ⟨yl,kl,rfl,hyl⟩
        ·simp[Instr.sliceBounds]
        ·simp[Instr.sliceBounds,hyl,zZ hl0 hlu]
       ·rcases hl with⟨rfl,rfl⟩ | ⟨yl,kl,rfl,hyl⟩
        ·simp[Instr.sliceBounds,hyh,zZ hu0 huc]
        ·simp[Instr.sliceBounds,hyh,hyl,zZ hu0 huc,zZ hl0 hln]
      rw[hlen];have hif:(if cap=l.toNat then ad else ad.map (·.add (l.toNat*ez z')))=(if(cap:Int)=l then ad else ad.map (·.add (l.toNat*ez z'))):=by
       by_cases hc:cap=l.toNat
       ·rw[if_pos hc,if_pos (by omega)]
       ·rw[if_neg hc,if_neg (by omega)]
      simp only[execOp,Instr.sliceAt,Sem.run_bind,run_underlying hu,Result.andThen_ok,hv,PV.val,PV.val1,PV.cv,Instr.slice,mc,hbounds,Sem.run_pure,vo hz,hif]
     ·exact h1.elim
    ·rename_i kb z' lo' n c;split at h1
     ·have hv:=h2.1.resolve_left (by simp);have hrf:=h2.2.2;obtain⟨u,h1,hh⟩:=tH (a:=a) (fun y hy=>(ho y (by simp[Op.operands,hy])).valOk) h1;obtain⟨⟨hu0,huc⟩,h1⟩:=h1;refine⟨_,_,?_,h1,.inr rfl,trivial,hrf⟩;have hbounds:(Instr.sliceBounds true n c ((none:Option Operand).map a.eval) (hi.map a.eval) none).run P w=.ok (0,u.toNat,c) w:=by
       rcases hh with⟨rfl,rfl⟩ | ⟨yh,kh,rfl,hyh⟩
       ·simp[Instr.sliceBounds]
       ·simp[Instr.sliceBounds,hyh,zZ hu0 huc]
      simp only[mc]at hbounds;cases hb:e.at kb with
      | none=>simp only[execOp,Instr.sliceAt,Sem.run_bind,run_underlying hu,Result.andThen_ok,hv,PV.val,PV.val1,PV.cv,hb,Instr.slice,mc,hbounds,Sem.run_pure,vo hz];simp
      | some b=>simp only[execOp,Instr.sliceAt,Sem.run_bind,run_underlying hu,Result.andThen_ok,hv,PV.val,PV.val1,PV.cv,hb,Instr.slice,mc,hbounds,Sem.run_pure,vo hz];simp[Addr.add]
     ·rename_i y;split at h1
      rotate_left
      ·exact h1.elim
      rename_i hzz;subst hzz;have hv:=h2.1.resolve_left (by simp);have hrf:=h2.2.2;obtain⟨kl,l,h1,hl⟩:=tG (ho y (by simp[Op.operands])).valOk h1;obtain⟨u,h1,hh⟩:=tH (a:=a) (fun y hy=>(ho y (by simp[Op.operands,hy])).valOk) h1;obtain⟨⟨hl0,hlu,huc,hlc⟩,h1⟩:=h1;have hu0:0<=u:=by omega
      have hln:l<=(u.toNat:Int):=by omega
      refine⟨_,_,?_,h1,.inr rfl,trivial,hrf⟩;have hbounds:(Instr.sliceBounds true n c ((some y:Option Operand).map a.eval) (hi.map a.eval) none).run P w=.ok (l.toNat,u.toNat,c) w:=by
       rcases hh with⟨rfl,rfl⟩ | ⟨yh,kh,rfl,hyh⟩
       ·simp[Instr.sliceBounds,hl,zZ hl0 hlu]
       ·simp[Instr.sliceBounds,hyh,hl,zZ hu0 huc,zZ hl0 hln]
      have hlo:∀ b:Nat,(if c=l.toNat then some (⟨b,lo'*ez z',none⟩:Addr)else some ((⟨b,lo'*ez z',none⟩:Addr).add (l.toNat*ez z')))=some ⟨b,(lo'+loN z' c l)*ez z',none⟩:=fun b=>by
       rcases Va hl0 hlc with⟨h3,h4⟩ | ⟨h3,h4⟩
       ·rw[if_pos h3,h4,mr]
       ·rw[if_neg h3,h4];simp[Addr.add,nG]
      cases hb:e.at kb with
      | none=>simp only[execOp,Instr.sliceAt,Sem.run_bind,run_underlying hu,Result.andThen_ok,hv,PV.val,PV.val1,PV.cv,hb,Instr.slice,mc,hbounds,Sem.run_pure,vo hz];simp
      | some b=>
        simp only[execOp,Instr.sliceAt,Sem.run_bind,run_underlying hu,Result.andThen_ok,hv,PV.val,PV.val1,PV.cv,hb,Instr.slice,mc,hbounds,Sem.run_pure,vo hz];simp only[oe,nL]
        have:=hlo b
        simp[this]
    ·exact h1.elim
  ·exact h.elim
 case field t x f=>
  have hx:=ho x (by simp[Op.operands]);split at h
  ·exact h.elim
  ·rename_i o' z hfi;obtain⟨fs,fd,hu,hf,hz,rfl⟩:=Ck hfi;have hpart:∀(cs:List Value) (v:Value),(if z=0 then cs[fd.offset]?=some v else v=.agg ((cs.drop fd.offset).take z).toArray)->(part fd.type cs.toArray fd.offset).run P w=.ok v w:=fun cs v hcs=>by
    unfold part;rw[Sem.run_bind,Kf hz];simp only[Result.andThen_ok];split at hcs
    ·rename_i hz0;subst hz0;simp[hcs]
    ·rename_i hz0;subst hcs;have he:ez z=z:=by simp[ez,hz0]
     simp[hz0,vo hz,he]
   split at h
   ·rename_i cs hρ;have hv:=hx.h.resolve_left (by rw[hρ];simp);have hok:=hx.ok;have hrf:=hx.rf;rw[hρ]at hv hok hrf;simp only[PV.Ok]at hok;obtain⟨ho1,ho2⟩:=hok;rw[PV.OkL_iff]at ho1;simp only[PV.refs]at hrf;split at h
    ·rename_i hz0;subst hz0;split at h
     ·rename_i hlt;have hp:cs[fd.offset]?=some (cs.getD fd.offset .any):=by rw[oB];simp[hlt]
      have hmem:=oA hp;have hr:=hpart (PV.cvs e cs) ((cs.getD fd.offset .any).cv e) (by simp only[nj,PV.cvs_eq,oG,hp,oe]);refine⟨_,_,?_,h,.inr (PV.val_isC (ho2 _ hmem)).symm,ho1 _ hmem,fun k hk=>hrf k (PV.refsL_mem.2 ⟨_,hmem,hk⟩)⟩;simp only[execOp,Instr.field,run_underlying hu,hv,PV.val,PV.val1,asAgg,Sem.run_bind,Sem.run_pure,Result.andThen_ok,hf,hr]
     ·exact h.elim
    ·rename_i hz0;split at h
     ·rename_i hle;have hr:=hpart (PV.cvs e cs) (.agg (((PV.cvs e cs).drop fd.offset).take z).toArray) (by simp only[hz0,nQ]);obtain⟨q,hq,hvq⟩:=G5 (w:=w) (e:=e) (pB:=pB) (bx:=bx) (cs:=(cs.drop fd.offset).take z) (vs:=((PV.cvs e cs).drop fd.offset).take z)
       (by simp[PV.cvs_eq])
       (fun i p hp=>.inr (by
        simp only[PV.cvs_eq,od,nU,oG]at hp ⊢;split at hp
        ·rename_i hi;simp[hi,hp]
        ·cases hp))
       (fun p hp=>by have hmem:=nD (oi hp);exact⟨ho1 _ hmem,.inr (ho2 _ hmem),fun k hk=>hrf k (PV.refsL_mem.2 ⟨_,hmem,hk⟩)⟩) h
      refine⟨_,q,?_,hq,hvq⟩;simp only[execOp,Instr.field,run_underlying hu,hv,PV.val,PV.val1,asAgg,Sem.run_bind,Sem.run_pure,Result.andThen_ok,hf,hr]
     ·exact h.elim
   ·rename_i n y hρ;have hv:=hx.h.resolve_left (by rw[hρ];simp);have hok:=hx.ok;rw[hρ]at hv hok;simp only[PV.Ok]at hok;obtain⟨hg,ha⟩:=hok;have hyv:=ha.val;split at h
    ·rename_i hz0;subst hz0;split at h
     ·rename_i hlt;obtain⟨h1,h2⟩:=ha.cell hlt;have hr:=hpart (y.cells.map D.cv) (y.cell fd.offset).cv (by simp only[nj,oG,h2,oe]);refine⟨_,_,?_,h,DI (hg.cell _) h1⟩;simp only[execOp,Instr.field,run_underlying hu,hv,PV.val,PV.val1,hyv,asAgg,Sem.run_bind,Sem.run_pure,Result.andThen_ok,hf,hr]
     ·exact h.elim
    ·rename_i hz0;split at h
     ·rename_i hle;have hr:=hpart (y.cells.map D.cv) (y.sub fd.offset z).val (by simp only[hz0,nQ];simp[D.sub,D.val,List.map_take,List.map_drop]);refine⟨_,_,?_,h,As (hg.sub _ _) (ha.sub hle)⟩;simp only[execOp,Instr.field,run_underlying hu,hv,PV.val,PV.val1,hyv,asAgg,Sem.run_bind,Sem.run_pure,Result.andThen_ok,hf,hr]
     ·exact h.elim
   ·exact h.elim
 case extract x i=>
  have hx:=ho x (by simp[Op.operands]);split at h
  ·rename_i l hρ;split at h
   ·exact h.elim
   ·rename_i p htp hp;have hv:=hx.h.resolve_left (by rw[hρ];simp);have hok:=hx.ok;have hrf:=hx.rf;rw[hρ]at hv hok hrf;simp only[PV.Ok]at hok;rw[PV.OkL_iff]at hok;have hmem:=oA hp;have hi:((l.map (PV.val1 e)).toArray)[i]?=some (p.val1 e):=by simp[hp]
    refine⟨p.val1 e,p,?_,h,?_,hok p hmem,fun k hk=>hrf k (by simp only[PV.refs];exact PV.refsL_mem.2 ⟨p,hmem,hk⟩)⟩
    ·simp only[execOp,Instr.extract,hv,PV.val,hi,Sem.run_bind,Sem.run_pure,Result.andThen_ok]
    ·cases p<;>first | exact .inr rfl | exact .inl rfl | exact absurd rfl (htp _)
   ·exact h.elim
  ·exact h.elim
 case lookup t m x ok=>
  split at h
  ·rename_i k _ hu;obtain⟨p,h1,h2, -⟩:=yR (ho x (by simp[Op.operands])).valOk h;split at h1
   ·rename_i s y hρ;obtain⟨b,es,c,rfl,oo,hg,hR⟩:=h1;have hm':=ho m (by simp[Op.operands]);have hok:=hm'.ok;have hv:=hm'.h.resolve_left (by rw[hρ];simp);rw[hρ]at hok hv;simp only[PV.Ok]at hok;have hs:=h2.1.resolve_left (by simp);have hh:w.heap[b]?=some (.map es c):=by cases hok.1.1;assumption
    refine⟨_,_,?_,hR,.inr rfl,by simp[PV.Ok,PV.OkL],by simp[PV.refs,PV.refsL]⟩;simp only[execOp,hs,hv,PV.val,PV.val1,PV.cv,D.cv,Sem.run_bind,hg w b hh,Result.andThen_ok,Sem.run_pure,oZ,lI]
   ·exact h1.elim
  ·exact h.elim
 case makeFunc f first caps=>
  split at h
  ·rename_i f hfirst;have hfi:first=#[]:=by cases first;simp_all
   subst hfi;split at h
   ·rename_i hall;rw[oa]at hall;have hc:∀ c∈caps.toList,(ρ c).cv e=a.eval c/\(ρ c).Ok w (zg av pB e bx)/\∀ k∈(ρ c).refs,k∉pB/\k<bx.length:=fun c hcm=>by
     have hx:=ho c (by simp[Op.operands];exact ow.1 hcm);have hcap:=hall (ρ c) (lL hcm);have hne:ρ c≠.any:=fun h=>by rw[h]at hcap;cases hcap
     refine⟨?_,hx.ok,hx.rf⟩;have hv:=hx.h.resolve_left hne;rw[hv];revert hcap;generalize ρ c=p;intro hcap;cases p<;>first | rfl | cases hcap
    refine⟨_,_,rfl,h,.inr ?_,PV.OkL_iff.2 fun p hp=>?_,fun k hk=>?_⟩
    ·simp only[PV.val,PV.val1,PV.cv,PV.cvs_eq,mf];have:caps.toList.map (PV.cv e∘ρ)=caps.toList.map a.eval:=nH fun c hcm=>(hc c hcm).1;rw[this];simp only[List.map_toArray,lI];congr 1;apply Array.ext';simp
    ·obtain⟨c,hcm,rfl⟩:=oT.1 hp;exact(hc c hcm).2.1
    ·simp only[PV.refs]at hk;obtain⟨p,hp,hk⟩:=PV.refsL_mem.1 hk;obtain⟨c,hcm,rfl⟩:=oT.1 hp;exact(hc c hcm).2.2 k hk
   ·exact h.elim
  ·exact h.elim
 case call c=>
  obtain⟨callee,args,argTypes⟩:=c;simp only at h;split at h
  ·rename_i x t hargs htys;have ha:args=#[x]:=by cases args;simp_all
   have ht:argTypes=#[t]:=by cases argTypes;simp_all
   subst ha;subst ht;have hx:=(ho x (by simp[Op.operands,Call.operands])).valOk;split at h
   ·rename_i el hu;obtain⟨p,h1,h2, -⟩:=yR hx h;split at h1
    ·have hv:=h2.1.resolve_left (by simp);exact⟨_,_,by simp[execOp,resolve,invoke,builtin,Builtin.len_,run_underlying hu,hv,PV.val,PV.val1,PV.cv,goInt],h1,yE⟩
    ·rename_i kb z' lo n c;have hv:=h2.1.resolve_left (by simp);refine⟨_,_,?_,h1,yE⟩;cases hb:e.at kb<;>simp[execOp,resolve,invoke,builtin,Builtin.len_,run_underlying hu,hv,PV.val,PV.val1,PV.cv,hb,goInt]
    ·exact h1.elim
   ·rename_i hu;obtain⟨p,h1,h2, -⟩:=yR hx h;split at h1
    ·have hv:=h2.1.resolve_left (by simp);exact⟨_,_,by simp[execOp,resolve,invoke,builtin,Builtin.len_,run_underlying hu,hv,PV.val,PV.val1,PV.cv,goInt],h1,yE⟩
    ·exact h1.elim
   ·exact h.elim
  ·rename_i x y s t hargs htys;have ha:args=#[x,y]:=by cases args;simp_all
   have ht:argTypes=#[s,t]:=by cases argTypes;simp_all
   subst ha;subst ht;obtain⟨p,h1,h2, -⟩:=yR (ho x (by simp[Op.operands,Call.operands])).valOk h;obtain⟨q,h3,h4, -⟩:=yR (ho y (by simp[Op.operands,Call.operands])).valOk h1;split at h3
   ·have hv:=h2.1.resolve_left (by simp);have hv':=h4.1.resolve_left (by simp);exact⟨_,_,by simp[execOp,resolve,invoke,builtin,Builtin.max_,Builtin.max2,hv,hv',PV.val,PV.val1,PV.cv],h3,yE⟩
   ·exact h3.elim
  ·rename_i x y s t hargs htys;have ha:args=#[x,y]:=by cases args;simp_all
   have ht:argTypes=#[s,t]:=by cases argTypes;simp_all
   subst ha;subst ht;obtain⟨p,h1,h2, -⟩:=yR (ho x (by simp[Op.operands,Call.operands])).valOk h;obtain⟨q,h3,h4, -⟩:=yR (ho y (by simp[Op.operands,Call.operands])).valOk h1;split at h3
   ·have hv:=h2.1.resolve_left (by simp);have hv':=h4.1.resolve_left (by simp);exact⟨_,_,by simp[execOp,resolve,invoke,builtin,Builtin.min_,Builtin.min2,hv,hv',PV.val,PV.val1,PV.cv],h3,yE⟩
   ·exact h3.elim
  ·exact h.elim
def AJ:PV->Option (List PV)
 | .pg cs=>some cs
 | .dg n x=>some ((List.range n).map λj=>.dc (x.cell j))
 | .any=>none
 | .tp _=>none
 | .d _=>none
 | p=>some [p]
def E2 (P:Program)(t:TypeId):Option (List PV):=
 match(P.info? t).bind (·.zero)with
 | some z=>if z.cells.toList.all (·.oneCell')=true then some (BW (zsh P 8 t) (z.cells.toList.map u7))else none
 | none=>none
def qP (off:Nat)(ps cs:List PV):List PV:=cs.take off++ps++cs.drop (off+ps.length)
def MX (I:List (Nat × Nat)):List PV->List (Nat × PV)->Option (List PV)
 | cs,[]=>some cs
 | cs,(i,p)::rest=>match I[i]?,AJ p with
   | some (off,n),some ps=>if ps.length=n/\off+n<=cs.length then MX I (qP off ps cs) rest else none
   | _,_=>none
def C6 (P:Program):List Field->Option (List (Nat × Nat))
 | []=>some []
 | f::fs=>match kz P f.type,C6 P fs with
   | some z,some l=>some ((f.offset,ez z)::l)
   | _,_=>none
def Dj (P:Program)(ρ:Operand->PV)(t:TypeId)(parts:List (Nat × Operand))(R:PV->Prop):Prop:=
 match P.underlying t,E2 P t with
 | some (.struct fs),some cs=>match C6 P fs.toList with
   | some I=>match MX I cs (parts.map λ(i,x)=>(i,ρ x))with
     | some cs'=>pgR cs' R
     | none=>False
   | none=>False
 | _,_=>False
mutual
def Aq:PV->Option D
 | .int k n=>some (.lit (.int k n))
 | .bool b=>some (.lit (.bool b))
 | .str s=>some (.lit (.string s))
 | .lit x=>some (.lit x)
 | .sv a z es cap=>some (.sl a z es cap)
 | .dc x=>some x
 | .pd ad z x=>some (.pt ad z x)
 | .fn f caps=>match K5 caps with
   | some ds=>some (.fn f ds)
   | none=>none
 | _=>none
def K5:List PV->Option (List D)
 | []=>some []
 | p::ps=>match Aq p,K5 ps with
   | some d,some ds=>some (d::ds)
   | _,_=>none
end
def OM (z:Nat)(p:PV):Option D:=
 match p with
 | .pg cs=>if z=cs.length/\z≠0 then(match K5 cs with | some ds=>some (.ag ds) | none=>none)else none
 | .dg n x=>if n=z/\z≠0 then some x else none
 | p=>if z=0 then Aq p else none
def BR (z:Nat)(ρ:Operand->PV):Nat->List (Nat × Operand)->Option (List D)
 | _,[]=>some []
 | k,(i,x)::rest=>if i=k then(match OM z (ρ x),BR z ρ (k+1) rest with
  | some d,some ds=>some (d::ds)
  | _,_=>none)else none
def Rg (P:Program)(el:TypeId)(z:Nat):Option D:=
 match E2 P el with
 | some cs=>if z=0 then(match cs with | [p]=>Aq p | _=>none)else OM z (.pg cs)
 | none=>none
def Pz (P:Program) (ρ:Operand->PV) (op:Op) (R:Bx->(Nat->PV)->Prop):Prop:=
 match op with
 | .alloc t=>match E2 P t with
   | some cs=>R (.var cs) (λk=>.pb k 0 0 0)
   | none=>False
 | .box t x=>match ρ x with
   | .pg cs=>R (.var cs) (λk=>.pb k 0 0 0)
   | .dg n y=>R (.vd y n) (λk=>.pb k 0 0 0)
   | .any=>False
   | .tp _=>False
   | .d _=>False
   | p=>R (.var [retag P t p]) (λk=>.pb k 0 0 0)
 | .buildSlice t n parts=>match P.underlying t with
   | some (.slice el)=>match kz P el with
     | some z=>match BR z ρ 0 parts.toList with
       | some es=>if es.length=n/\n*ez z<=2 ^ 24/\(E2 P el).isSome=true then R (.arr el z es n) (λk=>.sb k z 0 n n)else False
       | none=>False
     | none=>False
   | _=>False
 | .makeSlice t l c=>match P.underlying t with
   | some (.slice el)=>match kz P el,P.info? el with
     | some z,some i=>match Rg P el z with
       | some zd=>UR (ρ l) λn=>UR (ρ c) λm=>(0<=n/\n<=m/\(i.bytes:Int)*m<=140737488355328/\m<=9223372036854775807) /\
        R (.arr el z (List.replicate n.toNat zd) m.toNat) (λk=>.sb k z 0 n.toNat m.toNat)
       | none=>False
     | _,_=>False
   | _=>False
 | _=>False
variable {av:Nat->Prop} {P:Program} {w:World} {e:Env} {pB:List Nat} {bx:List Bx} {a:Act}
mutual
theorem wN:∀ {p:PV} {d:D},Aq p=some d->∀ {live:Nat->Prop},p.Ok w live->Good w live d/\d.isCell/\d.cv=p.cv e/\p.isC/\p.refs=[]
 | .int ..,d,h,live,I=>by simp[Aq]at h;subst h;exact⟨Good.lit,rfl,rfl,trivial,rfl⟩
 | .bool ..,d,h,live,I=>by simp[Aq]at h;subst h;exact⟨Good.lit,rfl,rfl,trivial,rfl⟩
 | .str ..,d,h,live,I=>by simp[Aq]at h;subst h;exact⟨Good.lit,rfl,rfl,trivial,rfl⟩
 | .lit ..,d,h,live,I=>by simp[Aq]at h;subst h;simp[PV.Ok]at I;exact⟨Good.lit,I,rfl,I,rfl⟩
 | .sv ..,d,h,live,I=>by simp[Aq]at h;subst h;simp[PV.Ok]at I;exact⟨I,trivial,rfl,trivial,rfl⟩
 | .dc ..,d,h,live,I=>by simp[Aq]at h;subst h;simp[PV.Ok]at I;exact⟨I.1,I.2,rfl,trivial,rfl⟩
 | .pd ad z x,d,h,live,I=>by
   simp[Aq]at h;subst h;simp only[PV.Ok]at I
   obtain⟨J,O,U,h4,h5,h6⟩:=I
   refine⟨⟨.pt U O h4 J.1,λb hb=>?_⟩,trivial,rfl,trivial,rfl⟩
   simp only[D.foot]at hb
   rcases oH.1 hb with rfl | hb
   ·exact h5
   ·exact J.2 b hb
 | .fn f caps,d,h,live,I=>by
   simp only[Aq]at h
   split at h
   ·rename_i ds Y
    simp at h;subst h
    simp only[PV.Ok]at I
    obtain⟨J,O,U⟩:=EM Y I
    refine⟨⟨.fn (λc hc=>(J c hc).2) λc hc=>(J c hc).1.1,λb hb=>?_⟩,trivial,?_,trivial,by simp only[PV.refs];exact U⟩
    ·simp only[D.foot]at hb
     obtain⟨c,hc,aa⟩:=zQ.1 hb
     exact(J c hc).1.2 b aa
    ·simp only[D.cv,PV.cv,D.cvL_eq,O]
   ·cases h
 | .any,d,h,live,I=>by simp[Aq]at h
 | .d ..,d,h,live,I=>by simp[Aq]at h
 | .dg ..,d,h,live,I=>by simp[Aq]at h
 | .pb ..,d,h,live,I=>by simp[Aq]at h
 | .sb ..,d,h,live,I=>by simp[Aq]at h
 | .pg ..,d,h,live,I=>by simp[Aq]at h
 | .tp ..,d,h,live,I=>by simp[Aq]at h
theorem EM:∀ {ps:List PV} {ds:List D},K5 ps=some ds->∀ {live:Nat->Prop},PV.OkL w live ps->(∀ d∈ds,Good w live d/\d.isCell)/\ds.map D.cv=PV.cvs e ps/\PV.refsL ps=[]
 | [],ds,h,live,I=>by simp[K5]at h;subst h;simp[PV.cvs,PV.refsL]
 | p::ps,ds,h,live,I=>by
   simp only[K5]at h
   split at h
   ·rename_i d ab J O
    simp at h;subst h
    obtain⟨a1,a2,a3,_,a4⟩:=wN J I.1
    obtain⟨b1,b2,b3⟩:=EM O I.2
    refine⟨λx hx=>?_,by simp[PV.cvs,a3,b2],by simp[PV.refsL,a4,b3]⟩
    rcases oH.1 hx with rfl | hx
    ·exact⟨a1,a2⟩
    ·exact b1 x hx
   ·cases h
end
theorem rn {ps:List PV}{ds:List D}(h:K5 ps=some ds){live:Nat->Prop}(I:PV.OkL w live ps):(∀ d∈ds,Good w live d/\d.isCell)/\ds.map D.cv=PV.cvs e ps:=
 let⟨J,O,_⟩:=EM h I;⟨J,O⟩
theorem t6 {ps:List PV}{ds:List D}(h:K5 ps=some ds):ds.length=ps.length:=by
 induction ps generalizing ds with
 | nil=>simp[K5]at h;subst h;rfl
 | cons p ps I=>
   simp only[K5]at h;split at h
   ·rename_i d J U O;simp at h;subst h;simp[I O]
   ·cases h
theorem Dy {z:Nat}{p:PV}{d:D}(h:OM z p=some d){live:Nat->Prop}(I:p.Ok w live):Good w live d/\eOk z d/\d.val=p.val e:=by
 unfold OM at h;split at h
 ·rename_i cs;split at h
  ·rename_i J;split at h
   ·rename_i ds O;simp at h;subst h;simp only[PV.Ok]at I;obtain⟨a1,U⟩:=rn (e:=e) O I.1;refine⟨Good.ag λc hc=>(a1 c hc).1,?_,by simp[D.val,PV.val,PV.val1,U]⟩;simp only[eOk,J.2,nQ];exact⟨ds,rfl,by rw[t6 O,J.1],λc hc=>(a1 c hc).2⟩
   ·cases h
  ·cases h
 ·rename_i n x;split at h
  ·rename_i J;obtain⟨rfl,J⟩:=J;simp at h;subst h;simp only[PV.Ok]at I;exact⟨I.1,by simp only[eOk,J,nQ];exact I.2,rfl⟩
  ·cases h
 ·split at h
  ·rename_i J;subst J;obtain⟨a1,U,Y,a4,_⟩:=wN (e:=e) h I;exact⟨a1,by simpa [eOk]using U,by rw[D.val_isCell U,Y,PV.val_isC a4]⟩
  ·cases h
theorem Sn (off:Nat):∀(vs:List Value) (k:Nat) (cs:Array Value),off+k+vs.length<=cs.size ->
  ((vs.zipIdx k).foldl (λcs (c,j)=>cs.setIfInBounds (off+j) c) cs).toList=cs.toList.take (off+k)++vs++cs.toList.drop (off+k+vs.length)
 | [],k,cs,h=>by simp
 | v::vs,k,cs,h=>by
   simp only[List.zipIdx_cons,List.foldl_cons];rw[Sn off vs (k+1) _ (by simp at h ⊢;omega)];simp only[Array.toList_setIfInBounds]
   have:=list_seg_step cs.toList (off+k) v vs (by simp at h ⊢;omega)
   simpa [mP]using this
theorem Pa {place:Nat->Option (Nat × Nat)} {cells:Array Value} {i off n:Nat} {v:Value} {rest:List (Nat × Value)} (I:place i=some (off,n)) (hn:v.cells.size=n) (J:off+n<=cells.size) :
  Instr.fill place cells ((i,v)::rest)=Instr.fill place (cells.toList.take off++v.cells.toList++cells.toList.drop (off+n)).toArray rest:=by
 have hc:(decide (v.cells.size≠n)||decide (off+v.cells.size>cells.size))=false:=by simp;omega
 have O:=Sn off v.cells.toList 0 cells (by simp;omega);simp only[Instr.fill,I,hc,mI,nQ];congr 1;apply Array.ext';rw[<-Array.foldl_toList];simp only[Array.toList_zipIdx];rw[O];simp[hn]
def CellsAre (e:Env)(vs:List Value)(ps:List PV):Prop:=vs.length=ps.length/\∀(i:Nat) (p:PV),ps[i]?=some p->p=.any\/vs[i]?=some (p.cv e)
def Da (av:Nat->Prop)(w:World)(e:Env)(pB:List Nat)(bx:List Bx)(ps:List PV):Prop:=∀ p∈ps,p.Ok w (zg av pB e bx)/\(p=.any\/p.isC)/\∀ k∈p.refs,k∉pB/\k<bx.length
theorem CellsAre.append {vs I:List Value}{ps J:List PV}(h:CellsAre e vs ps)(U:CellsAre e I J):CellsAre e (vs++I) (ps++J):=by
 refine⟨by simp[h.1,U.1],λi p O=>?_⟩;rw[lE]at O ⊢;rw[h.1];split at O
 ·rename_i hi;rw[if_pos hi];exact h.2 i p O
 ·rename_i hi;rw[if_neg hi];exact U.2 _ p O
theorem CellsAre.take {vs:List Value}{ps:List PV}(h:CellsAre e vs ps)(n:Nat):CellsAre e (vs.take n) (ps.take n):=by
 refine⟨by simp[h.1],λi p I=>?_⟩;simp only[od]at I ⊢;split at I
 ·rename_i hi;rw[if_pos hi];exact h.2 i p I
 ·cases I
theorem CellsAre.drop {vs:List Value}{ps:List PV}(h:CellsAre e vs ps)(n:Nat):CellsAre e (vs.drop n) (ps.drop n):=by refine⟨by simp[h.1],λi p I=>?_⟩;simp only[nU]at I ⊢;exact h.2 _ p I
theorem Gp {p:PV}(h:p.isC){live:Nat->Prop}(I:p.Ok w live):(p.cv e).oneCell'=true:=by
 cases p<;>simp[PV.isC]at h<;>simp only[PV.Ok]at I<;>simp only[PV.cv]<;>try rfl
 case lit=>exact h
 case d=>exact zV h
 case dc=>exact zV I.2
 case sb=>split<;>rfl
theorem vK {v:Value} {p:PV} {ps:List PV} (h:AJ p=some ps) (hv:ValOk av w e pB bx v p) :
  CellsAre e v.cells.toList ps/\(∀ p∈ps,p.Ok w (zg av pB e bx)/\p.isC/\∀ k∈p.refs,k∉pB/\k<bx.length)/\∀ x∈v.cells.toList,x.oneCell'=true:=by
 obtain⟨h1,O,h3⟩:=hv;have one:∀ q:PV,q.isC->p=q->CellsAre e v.cells.toList [q]/\(∀ p∈[q],p.Ok w (zg av pB e bx)/\p.isC/\∀ k∈p.refs,k∉pB/\k<bx.length)/\∀ x∈v.cells.toList,x.oneCell'=true:=λq I aa=>by
  subst aa;have ab:p≠.any:=λh=>by subst h;exact I
  have U:=(h1.resolve_left ab).trans (PV.val_isC I);have Y:v.oneCell'=true:=by rw[U];exact Gp I O
  have J:v.cells=#[v]:=by cases v<;>simp[Value.cells,Value.oneCell']at Y ⊢
  rw[J];refine⟨⟨rfl,λi r hr=>?_⟩,λr hr=>?_,by simpa using Y⟩
  ·cases i with
   | zero=>simp at hr;subst hr;exact .inr (by simp[U])
   | succ i=>simp at hr
  ·simp at hr;subst hr;exact⟨O,I,h3⟩
 cases p<;>simp[AJ]at h
 case pg cs=>
  subst h;have hv:=h1.resolve_left (by simp);simp only[PV.Ok]at O;obtain⟨a1,a2⟩:=O;rw[PV.OkL_iff]at a1;simp only[PV.refs]at h3;have J:v.cells.toList=cs.map (PV.cv e):=by rw[hv];simp[PV.val,PV.val1,Value.cells,PV.cvs_eq]
  refine⟨⟨by rw[J];simp,λi q I=>.inr (by rw[J,oG,I];rfl)⟩,λq I=>⟨a1 q I,a2 q I,λk hk=>h3 k (PV.refsL_mem.2 ⟨q,I,hk⟩)⟩,?_⟩;rw[J];intro x hx;obtain⟨q,I,rfl⟩:=oT.1 hx;exact Gp (a2 q I) (a1 q I)
 case dg n x=>
  subst h;have hv:=h1.resolve_left (by simp);simp only[PV.Ok]at O;obtain⟨hg,ha⟩:=O;have J:v.cells.toList=x.cells.map D.cv:=by rw[hv];simp only[PV.val,PV.val1,ha.val,Value.cells]
  have hl:=ha.length;refine⟨⟨by rw[J];simp[hl],λi q I=>.inr ?_⟩,λq I=>?_,?_⟩
  ·rw[oG]at I;cases hr:(List.range n)[i]? with
   | none=>simp[hr]at I
   | some j=>
     rw[hr]at I;simp at I;subst I;have hi:i<n:=by have:=(oC.1 hr).1;simpa using this
     have hj:j=i:=by have:=(oC.1 hr).2;simpa using this.symm
     subst hj;rw[J,oG,(ha.cell hi).2];rfl
  ·obtain⟨j,hj,rfl⟩:=oT.1 I;exact⟨⟨hg.cell j,(ha.cell (by simpa using hj)).1⟩,trivial,by simp[PV.refs]⟩
  ·rw[J];intro y hy;obtain⟨u,hu,rfl⟩:=oT.1 hy;obtain⟨cs,rfl,_,hc⟩:=ha;exact zV (hc u hu)
 case lit x=>subst h;exact one _ O rfl
 all_goals(subst h;exact one _ (by simp[PV.isC]) rfl)
theorem uT {t:TypeId} {cs:List PV} (h:E2 P t=some cs):∃ i z,P.info? t=some i/\i.zero=some z/\(∀(w:World) (e:Env),CellsAre e z.cells.toList cs) /\
  (∀(w:World) (live:Nat->Prop),∀ p∈cs,p.Ok w live/\p.isC/\p.refs=[])/\∀ x∈z.cells.toList,x.oneCell'=true:=by
 unfold E2 at h;cases hi:P.info? t with
 | none=>simp[hi]at h
 | some i=>
   cases O:i.zero with
   | none=>simp[hi,O]at h
   | some z=>
     simp only[hi,O,lJ]at h;split at h
     ·rename_i I;rw[oa]at I;simp at h;subst h;refine⟨i,z,rfl,O,λw e=>?_,λw live=>?_,I⟩
      ·have U:=AN (zsh P 8 t) (z.cells.toList.map u7) w (λ_=>False) e (PV.OkL_iff.2 λp J=>by obtain⟨v,_,rfl⟩:=oT.1 J;exact(zw v w _ e).1);obtain⟨_,_,hc,_⟩:=U;rw[PV.cvs_eq,PV.cvs_eq,mf]at hc;have Y:(z.cells.toList.map (PV.cv e∘u7))=z.cells.toList:=by
        conv=>rhs;rw[<-List.map_id z.cells.toList]
        exact nH λv hv=>((zw v w (λ_=>False) e).2.2.2 (I v hv)).1
       rw[Y]at hc;have hl:=lY List.length hc;refine⟨by simpa using hl.symm,λi p J=>.inr ?_⟩;rw[<-hc,oG,J];rfl
      ·have U:=AN (zsh P 8 t) (z.cells.toList.map u7) w live [] (PV.OkL_iff.2 λp J=>by obtain⟨v,_,rfl⟩:=oT.1 J;exact(zw v w _ []).1);obtain⟨h1,h2,_,h4⟩:=U;rw[PV.OkL_iff]at h1;intro p J;refine⟨h1 p J,h4 (λq hq=>by obtain⟨v,hv,rfl⟩:=oT.1 hq;exact((zw v w live []).2.2.2 (I v hv)).2) p J,?_⟩;refine nl.2 λk hk=>?_;have:k∈PV.refsL (z.cells.toList.map u7):=h2 ▸ PV.refsL_mem.2 ⟨p,J,hk⟩;obtain⟨q,hq,hk⟩:=PV.refsL_mem.1 this;obtain⟨v,_,rfl⟩:=oT.1 hq;rw[(zw v w live []).2.1]at hk;simp at hk
     ·cases h
theorem uY {t:TypeId}{i:TypeInfo}{z:Value}(hi:P.info? t=some i)(I:i.zero=some z):(zeroValue t).run P w=.ok z w:=by simp[zeroValue,typeInfo,hi,I]
theorem Ks {fs:List Field} {I:List (Nat × Nat)} (h:C6 P fs=some I) :
  (fs.mapM λf=>do pure (f.offset,<-sizeOf f.type):Sem (List (Nat × Nat))).run P w=.ok I w:=by
 induction fs generalizing I with
 | nil=>simp[C6]at h;subst h;rfl
 | cons f fs J=>
   simp only[C6]at h;split at h
   ·rename_i z l O U;simp at h;subst h;rw[List.mapM_cons];simp only[Sem.run_bind,vo O,J U,Sem.run_pure,Result.andThen_ok]
   ·cases h
theorem ON {pl:List (Nat × Nat)} {cs cs':List PV} {parts:List (Nat × PV)} {vs:List (Nat × Value)} {cells:Array Value} (h:MX pl cs parts=some cs') (hc:CellsAre e cells.toList cs)
  (J:Da av w e pB bx cs) (hp:parts.length=vs.length) (hv:∀(j:Nat) i p,parts[j]?=some (i,p)->∃ v,vs[j]?=some (i,v)/\ValOk av w e pB bx v p) :
  ∃ I,Instr.fill (pl.toArray[·]?) cells vs=some I/\CellsAre e I.toList cs'/\Da av w e pB bx cs':=by
 induction parts generalizing cs vs cells with
 | nil=>simp at hp;have ah:vs=[]:=List.length_eq_zero_iff.1 hp.symm;subst ah;simp[MX]at h;subst h;exact⟨cells,rfl,hc,J⟩
 | cons x parts ih=>
   obtain⟨i,p⟩:=x;cases vs with
   | nil=>simp at hp
   | cons y vs=>
     obtain⟨v,U,Y⟩:=hv 0 i p rfl;simp at U;subst U;simp only[MX]at h;split at h
     ·rename_i off n ps h1 h2;split at h
      ·rename_i ai;obtain⟨a1,a2,a3⟩:=vK h2 Y;have aa:=a1.1;have aj:=hc.1;have ab:qP off ps cs=cs.take off++ps++cs.drop (off+ps.length):=rfl;have O:=Pa (place:=(pl.toArray[·]?)) (cells:=cells) (i:=i) (off:=off) (n:=n) (v:=v) (rest:=vs) (by simpa using h1) (by simp at aa;omega) (by simp at aj;omega);have ac:CellsAre e (cells.toList.take off++v.cells.toList++cells.toList.drop (off+n)) (qP off ps cs):=by rw[ab,ai.1];exact((hc.take off).append a1).append (hc.drop _)
       have ae:Da av w e pB bx (qP off ps cs):=by
        rw[ab];intro q hq;rcases oM.1 hq with hq | hq
        ·rcases oM.1 hq with hq | hq
         ·exact J q (oi hq)
         ·exact⟨(a2 q hq).1,.inr (a2 q hq).2.1,(a2 q hq).2.2⟩
        ·exact J q (nD hq)
       obtain⟨I,b1,b2,b3⟩:=ih h (cells:=(cells.toList.take off++v.cells.toList++cells.toList.drop (off+n)).toArray) (vs:=vs) (by simpa using ac) ae (by simpa using hp)
        (λj i p hj=>hv (j+1) i p (by simpa using hj))
       exact⟨I,by rw[O];exact b1,b2,b3⟩
      ·cases h
     ·cases h
theorem J9 {ρ:Operand->PV} {t:TypeId} {parts:Array (Nat × Operand)} {R:PV->Prop} (ho:∀ x∈(Op.build t parts).operands,OpdOk av a w e pB bx x (ρ x)) (h:Dj P ρ t parts.toList R) :
  ∃ v p,(Instr.build t (parts.map fun(i,x)=>(i,a.eval x))).run P w=.ok v w/\R p/\ValOk av w e pB bx v p:=by
 unfold Dj at h;split at h
 ·rename_i fs cs hu hz;split at h
  ·rename_i pl hpl;split at h
   ·rename_i cs' hfill;obtain⟨i,z,hi,hz',hcells,hok,_⟩:=uT hz;have hpl':=Ks (w:=w) hpl;obtain⟨cells',b1,b2,b3⟩:=ON (w:=w) (e:=e) (pB:=pB) (bx:=bx) (cells:=z.cells) (vs:=parts.toList.map fun(i,x)=>(i,a.eval x)) hfill (hcells w e)
     (fun p hp=>⟨(hok w _ p hp).1,.inr (hok w (fun _=>False) p hp).2.1,by rw[(hok w (zg av pB e bx) p hp).2.2];simp⟩) (by simp)
     (fun j i p hj=>by
      rw[oG]at hj;cases hx:parts.toList[j]? with
      | none=>simp[hx]at hj
      | some y=>rw[hx]at hj;simp at hj;obtain⟨rfl,rfl⟩:=hj;have hmem:=oA hx;refine⟨a.eval y.2,by rw[oG,hx];rfl,(ho y.2 ?_).valOk⟩;simp only[Op.operands];simp;exact⟨y.1,ow.1 (by simpa using hmem)⟩)
    obtain⟨q,hq,hvq⟩:=G5 (w:=w) (e:=e) (pB:=pB) (bx:=bx) (vs:=cells'.toList) b2.1.symm b2.2 b3 h;refine⟨_,q,?_,hq,by simpa using hvq⟩;have hm:(fs.mapM (fun f=>do pure (f.offset,<-sizeOf f.type)):Sem (Array (Nat × Nat))).run P w=.ok pl.toArray w:=by rw[Array.mapM_eq_mapM_toList];simp only[Sem.run_map,hpl',Result.andThen_ok]
    have hparts:(parts.map fun(i,x)=>(i,a.eval x)).toList=parts.toList.map fun(i,x)=>(i,a.eval x):=by simp
    unfold Instr.build;simp only[Sem.run_bind,uY hi hz',Result.andThen_ok,run_underlying hu,hm,hparts,b1,Sem.run_pure]
   ·exact h.elim
  ·exact h.elim
 ·exact h.elim
structure NewBox (av:Nat->Prop) (w:World) (e:Env) (pB:List Nat) (bx:List Bx) (v:Value) (w':World) (B:Bx) (f:Nat->PV):Prop where
 val:∀(k:Nat) (e':Env),e'.at k=some w.heap.size->v=(f k).val e'
 fr:∀ k,(f k).refs=[k]
 fok:∀(k:Nat) (w:World) (live:Nat->Prop),(f k).Ok w live
 rel:∀ e':Env,(∀ k∈B.refs,e'.at k=e.at k)->B.Rel w' e' (some w.heap.size)
 ok:B.Ok w (zg av pB e bx)
 rf:∀ k∈B.refs,k∉pB/\k<bx.length
 ng:B≠.gone
theorem Nz {cs:List PV}{c:Array Value}{t:TypeId}{o:Obj}(hc:CellsAre e c.toList cs):∀ e':Env,(∀ k∈(Bx.var cs).refs,e'.at k=e.at k)->(Bx.var cs).Rel (w.alloc (.cells c t)) e' (some w.heap.size):=by
 intro e' J;refine⟨w.heap.size,c,t,rfl,heap_alloc_new w _,by have:=hc.1;simpa using this,λi p I=>?_⟩;rcases hc.2 i p I with h | h
 ·exact .inl h
 ·refine .inr ?_;rw[PV.cv_congr p λk hk=>J k (by simp only[Bx.refs];exact PV.refsL_mem.2 ⟨p,oA I,hk⟩)];simpa using h
theorem Al {B:Bx} {w':World} (rel:∀ e':Env,(∀ k∈B.refs,e'.at k=e.at k)->B.Rel w' e' (some w.heap.size)) (ok:B.Ok w (zg av pB e bx))
  (rf:∀ k∈B.refs,k∉pB/\k<bx.length) (ng:B≠.gone):NewBox av w e pB bx (.pointer (some ⟨w.heap.size,0,none⟩)) w' B (λk=>.pb k 0 0 0):=
 ⟨λk e' h=>by simp[PV.val,PV.val1,PV.cv,h],λ_=>rfl,λ_ _ _=>trivial,rel,ok,rf,ng⟩
theorem JI {w':World} {t:TypeId} {z n m:Nat} {es:List D} {c:Array Value} (J:w'.heap[w.heap.size]?=some (.cells c t (0,0))) (hc:c.size=m*ez z) (hn:es.length=n) (O:n<=m) (U:m<=maxLen)
   (I:∀ x∈es,eOk z x/\Good w (zg av pB e bx) x) (Y:∀(i:Nat) (u:D),(flat es)[i]?=some u->c[i]?=some u.cv) :
   NewBox av w e pB bx (.slice (some ⟨w.heap.size,0,none⟩) n m) w' (.arr t z es m) (λk=>.sb k z 0 n m):=
 ⟨λk e' h=>by simp[PV.val,PV.val1,PV.cv,h],λ_=>rfl,λ_ _ _=>trivial,
  λe' _=>.inr ⟨w.heap.size,c,rfl,J,Nat.le_of_eq hc.symm,by omega,U,λx hx=>(I x hx).1,Y⟩,λx hx=>(I x hx).2,by simp[Bx.refs],by simp⟩
theorem Dw {z:Nat}{d:D}(h:eOk z d):d.val.cells.toList=d.cells.map D.cv:=by
 unfold eOk at h;split at h
 ·cases d with
  | ag cs=>exact h.elim
  | lit x=>simp[D.isCell]at h;cases x<;>simp[Value.oneCell']at h<;>rfl
  | sl a z es cap=>rfl
  | pt ad z x=>rfl
  | fn f caps=>rfl
  | mp b es c=>rfl
 ·obtain⟨cs,rfl,_,_⟩:=h;simp[D.val,D.cells,Value.cells]
theorem Pb {z:Nat}:∀(ds:List D) (k:Nat) (cells:Array Value),(∀ d∈ds,eOk z d)->(k+ds.length)*ez z<=cells.size ->
  ∃ I,Instr.fill (λi=>some (i*ez z,ez z)) cells ((ds.map D.val).zipIdx k |>.map λx=>(x.2,x.1))=some I /\
    I.toList=cells.toList.take (k*ez z)++(flat ds).map D.cv++cells.toList.drop ((k+ds.length)*ez z)
 | [],k,cells,_,_=>⟨cells,rfl,by simp[flat]⟩
 | d::ds,k,cells,h,U=>by
   have hd:=h d (by simp);have aa:d.val.cells.size=ez z:=by rw[<-ny,Dw hd,om,xT hd]
   have Y:k*ez z+ez z<=cells.size:=by simp only[oJ]at U;have:(k+1)*ez z<=(k+(ds.length+1))*ez z:=oc _ (by omega);rw[nG,mt]at this;omega
   have h1:=Pa (place:=λi=>some (i*ez z,ez z)) (cells:=cells) (i:=k) (off:=k*ez z) (n:=ez z) (v:=d.val)
    (rest:=(ds.map D.val).zipIdx (k+1) |>.map λx=>(x.2,x.1)) rfl aa Y
   obtain⟨I,h2,h3⟩:=Pb ds (k+1) (cells.toList.take (k*ez z)++d.val.cells.toList++cells.toList.drop (k*ez z+ez z)).toArray (λx hx=>h x (by simp[hx]))
    (by simp only[oJ]at U;rw[show k+1+ds.length=k+(ds.length+1) by omega];simp;omega)
   refine⟨I,by simpa using h1.trans h2,?_⟩;rw[h3];simp only[List.toList_toArray,vn,mF,Dw hd];have e1:(k+1)*ez z=k*ez z+ez z:=by rw[nG,mt]
   have J:(cells.toList.take (k*ez z)).length=k*ez z:=by simp;omega
   have O:(d.cells.map D.cv).length=ez z:=by simp[xT hd]
   have ht:(cells.toList.take (k*ez z)++d.cells.map D.cv++cells.toList.drop (k*ez z+ez z)).take ((k+1)*ez z)=cells.toList.take (k*ez z)++d.cells.map D.cv:=by rw[List.take_append_of_le_length (by simp only[oK,J,O];omega),oX (by simp only[oK,J,O];omega)]
   have ab:(cells.toList.take (k*ez z)++d.cells.map D.cv++cells.toList.drop (k*ez z+ez z)).drop ((k+1+ds.length)*ez z)=cells.toList.drop ((k+(d::ds).length)*ez z):=by
    have e2:(k+1+ds.length)*ez z=k*ez z+ez z+ds.length*ez z:=by rw[nG,e1]
    rw[List.drop_append,mg (by simp only[oK,J,O];omega),oV,List.drop_drop];simp only[oK,J,O];congr 1;simp only[oJ];rw[show k+(ds.length+1)=k+1+ds.length by omega,e2];omega
   rw[ht,ab];simp
theorem Gc {z:Nat} {ρ:Operand->PV}:∀(parts:List (Nat × Operand)) (k:Nat) (ds:List D),BR z ρ k parts=some ds->(∀ x∈parts,OpdOk av a w e pB bx x.2 (ρ x.2)) ->
  (∀ d∈ds,eOk z d/\Good w (zg av pB e bx) d)/\(parts.map λ(i,x)=>(i,a.eval x))=((ds.map D.val).zipIdx k |>.map λx=>(x.2,x.1))
 | [],k,ds,h,_=>by simp[BR]at h;subst h;simp
 | (i,x)::rest,k,ds,h,Y=>by
   simp only[BR]at h;split at h
   ·rename_i I;subst I;split at h
    ·rename_i d J O h2;simp at h;subst h;have hx:=Y (i,x) (by simp);obtain⟨a1,a2,a3⟩:=Dy (e:=e) O hx.ok;obtain⟨b1,b2⟩:=Gc rest (i+1) J h2 (λy hy=>Y y (by simp[hy]));have U:ρ x≠.any:=λhh=>by rw[hh]at O;simp[OM,Aq]at O
     have hv:=hx.h.resolve_left U;refine⟨λy hy=>?_,?_⟩
     ·rcases oH.1 hy with rfl | hy
      ·exact⟨a2,a1⟩
      ·exact b1 y hy
     ·simp only[oZ,List.zipIdx_cons,b2];rw[hv,a3]
    ·cases h
   ·cases h
theorem RK {ρ:Operand->PV} {o:Oper} {R:Bx->(Nat->PV)->Prop} (ho:∀ x∈o.op.operands,OpdOk av a w e pB bx x (ρ x)) (h:Pz P ρ o.op R) :
  ∃ v c t B f,(execOp a.eval o).run P w=.ok (.value v) (w.alloc (.cells c t))/\R B f/\NewBox av w e pB bx v (w.alloc (.cells c t)) B f:=by
 obtain⟨dst,op,ty,pos,after,guard⟩:=o;simp only at ho h ⊢;cases op<;>simp only[Pz]at h<;>try exact h.elim
 case alloc t=>
  split at h
  ·rename_i cs hz;obtain⟨i,z,hi,bm,U,O,_⟩:=uT hz;refine⟨_,z.cells,t,_,_,?_,h,Al (Nz (o:=.cells z.cells t) (U w e)) ⟨PV.OkL_iff.2 λp J=>(O w _ p J).1,λp J=>.inr (O w (λ_=>False) p J).2.1⟩ ?_ (by simp)⟩
   ·simp only[execOp,Instr.alloc,Sem.run_bind,uY hi bm,Result.andThen_ok,newVar,newRow,newObj,Sem.run,Sem.run_pure];rfl
   ·intro k hk;simp only[Bx.refs]at hk;obtain⟨p,J,hk⟩:=PV.refsL_mem.1 hk;rw[(O w (λ_=>False) p J).2.2]at hk;simp at hk
  ·exact h.elim
 case box t x=>
  have hx:=ho x (by simp[Op.operands]);have ab:∀ v,a.eval x=v->(execOp a.eval { dst:=dst,op:=Op.box t x,type:=ty,pos:=pos,after:=after,guard:=guard }).run P w=.ok (.value (.pointer (some ⟨w.heap.size,0,none⟩))) (w.alloc (.cells v.cells t)):=λv hv=>by simp only[execOp,Instr.box,Sem.run_bind,hv,newVar,newRow,newObj,Sem.run,Sem.run_pure,Result.andThen_ok];rfl
  have one:∀ q:PV,q=retag P t (ρ x)->q.isC->(∃ cs,AJ (ρ x)=some cs/\cs.length=1/\∀ c∈cs,c=ρ x)->R (.var [q]) (λk=>.pb k 0 0 0) ->
    ∃ v c t' B f,(execOp a.eval { dst:=dst,op:=Op.box t x,type:=ty,pos:=pos,after:=after,guard:=guard }).run P w=.ok (.value v) (w.alloc (.cells c t'))/\R B f/\NewBox av w e pB bx v (w.alloc (.cells c t')) B f:=λq hq al ah hR=>by
   obtain⟨cs,ac,hl,ae⟩:=ah;have am:=hx.valOk;obtain⟨a1,a2,a3⟩:=vK ac am
   match cs,hl with
   | [c0],_=>
     have ao:=ae c0 (by simp);subst ao;obtain⟨r1,r2,r3,r4⟩:=HC (P:=P) t (ρ x) w (zg av pB e bx) e hx.ok;have ce:q.isC:=al;refine⟨_,_,t,_,_,ab _ rfl,hR,Al (Nz (o:=.cells (a.eval x).cells t) (e:=e) (cs:=[q]) ?_) ⟨⟨by rw[hq];exact r1,trivial⟩,λp J=>.inr (by simp at J;rw[J];exact al)⟩ ?_ (by simp)⟩
     ·refine⟨a1.1,λi p J=>?_⟩;cases i with
      | succ i=>simp at J
      | zero=>
        simp at J;subst J;rcases a1.2 0 (ρ x) rfl with h | h
        ·left;rw[hq];exact r4.2 h
        ·right;rw[h,<-PV.val_isC al,hq,r3,PV.val_isC (a2 _ (by simp)).2.1]
     ·intro k hk;simp only[Bx.refs,PV.refsL,ou]at hk;rw[hq,r2]at hk;exact hx.rf k hk
  have aw:∀ p:PV,p.isC->(retag P t p).isC:=λp J=>by
   cases p<;>simp[PV.isC]at J<;>simp only[retag,uh]<;>try trivial
   ·split
    ·split<;>trivial
    ·trivial
  split at h
  ·rename_i cs hρ;have am:=hx.valOk;obtain⟨a1,a2,a3⟩:=vK (ps:=cs) (by rw[hρ];rfl) am;exact⟨_,_,t,_,_,ab _ rfl,h,Al (Nz (o:=.cells (a.eval x).cells t) a1) ⟨PV.OkL_iff.2 λp J=>(a2 p J).1,λp J=>.inr (a2 p J).2.1⟩
    (λk hk=>by simp only[Bx.refs]at hk;obtain⟨p,J,hk⟩:=PV.refsL_mem.1 hk;exact(a2 p J).2.2 k hk) (by simp)⟩
  ·rename_i n y hρ;have hv:=hx.h.resolve_left (by rw[hρ];simp);have O:=hx.ok;rw[hρ]at hv O;simp only[PV.Ok]at O;obtain⟨hg,ha⟩:=O;have ax:(a.eval x).cells.toList=y.cells.map D.cv:=by rw[hv];simp only[PV.val,PV.val1,ha.val,Value.cells]
   have ai:(a.eval x).cells.size=n:=by rw[<-ny,ax,om,ha.length]
   refine⟨_,_,t,_,_,ab _ rfl,h,Al (λe' _=>⟨w.heap.size,_,t,rfl,heap_alloc_new w _,ai,ha,λi u hu=>?_⟩) hg (by simp[Bx.refs]) (by simp)⟩;rw[<-nw,ax,oG,hu];rfl
  ·exact h.elim
  ·exact h.elim
  ·exact h.elim
  ·rename_i p h1 h2 h3 h4 h5;have ah:∃ cs,AJ (ρ x)=some cs/\cs.length=1/\∀ c∈cs,c=ρ x:=by cases J:ρ x<;>simp[J]at h1 h2 h3 h4 h5<;>exact⟨_,rfl,rfl,by simp⟩
   have ay:(ρ x).isC:=by
    obtain⟨cs,ac,hl,ae⟩:=ah;obtain⟨_,a2,_⟩:=vK ac hx.valOk
    match cs,hl with
    | [c0],_=>have:=a2 c0 (by simp);rw[ae c0 (by simp)]at this;exact this.2.1
   exact one _ rfl (aw _ ay) ah h
 case buildSlice t n parts=>
  split at h
  ·rename_i el hu;split at h
   ·rename_i z hz;split at h
    ·rename_i es aj;split at h
     ·rename_i hc;obtain⟨hl,cd,bp⟩:=hc;obtain⟨cf,az⟩:=mQ.1 bp;obtain⟨i3,zv,bq,aq,_⟩:=uT az;obtain⟨i,hi,ai⟩:=D5 hz;obtain⟨b1,b2⟩:=Gc (w:=w) (e:=e) (pB:=pB) (bx:=bx) (a:=a) parts.toList 0 es aj (λy hy=>ho y.2 (by simp only[Op.operands];simp;exact⟨y.1,ow.1 (by simpa using hy)⟩));have a0:n<=maxLen:=by
       have:=Cj z
       have:n*1<=n*ez z:=mw n this;unfold maxLen;omega
      have aa:(parts.map λ(i,x)=>(i,a.eval x)).toList=parts.toList.map λ(i,x)=>(i,a.eval x):=by simp
      have ak:¬(n*ez z>2 ^ 24):=by omega
      have a4:∀ zc:Array Value,∃ I,Instr.fill (λi=>some (i*ez z,ez z)) ((Array.range (n*ez z)).map (zc[· % zc.size]!)) ((es.map D.val).zipIdx |>.map λx=>(x.2,x.1))=some I/\I.toList=(flat es).map D.cv:=λzc=>by obtain⟨I,f1,f2⟩:=Pb es 0 ((Array.range (n*ez z)).map (zc[· % zc.size]!)) (λd hd=>(b1 d hd).1) (by simp[hl]);refine⟨I,f1,?_⟩;rw[f2];simp only[lH,my,oV,nT,hl];rw[mg (by simp),ou]
      have a5:=zW (λd hd=>(b1 d hd).1);have fin:∀ I:Array Value,I.toList=(flat es).map D.cv->NewBox av w e pB bx (.slice (some ⟨w.heap.size,0,none⟩) n n) (w.alloc (.cells I el)) (.arr el z es n) (λk=>.sb k z 0 n n):=λI a6=>JI (heap_alloc_new w _) (by rw[<-ny,a6,om,a5,hl]) hl (oD n) a0 b1 (λi u hu=>by rw[<-nw,a6,oG,hu];rfl);by_cases a7:n*ez z=0
      ·obtain⟨I,f1,f2⟩:=a4 #[];refine⟨_,I,el,_,_,?_,h,fin I f2⟩;simp only[execOp,Instr.buildSlice,Sem.run_bind,run_underlying hu,Result.andThen_ok,vo hz,if_neg ak,if_pos a7,aa,b2,f1,Sem.run_pure,newRow,newObj,Sem.run];rfl
      ·obtain⟨I,f1,f2⟩:=a4 zv.cells;refine⟨_,I,el,_,_,?_,h,fin I f2⟩;simp only[execOp,Instr.buildSlice,Sem.run_bind,run_underlying hu,Result.andThen_ok,vo hz,if_neg ak,if_neg a7,uY bq aq,aa,b2,f1,Sem.run_pure,newRow,newObj,Sem.run];rfl
     ·exact h.elim
    ·exact h.elim
   ·exact h.elim
  ·exact h.elim
 case makeSlice t l c=>
  split at h
  ·rename_i el hu;split at h
   ·rename_i z i hz hi;split at h
    ·rename_i zd Y;obtain⟨k1,n,h',hn⟩:=tG (ho l (by simp[Op.operands])).valOk h;obtain⟨k2,m,bt,hm⟩:=tG (ho c (by simp[Op.operands])).valOk h';obtain⟨⟨g1,g2,g3,g4⟩,a8⟩:=bt;obtain⟨i',a9,ai⟩:=D5 hz;have:i'=i:=by rw[hi]at a9;exact(oU a9).symm
     subst this;unfold Rg at Y;split at Y
     ·rename_i cs ac;obtain⟨i2,zv,ba,aq,U,O,_⟩:=uT ac;have:i2=i':=by rw[hi]at ba;exact(oU ba).symm
      subst this;have bv:eOk z zd/\Good w (zg av pB e bx) zd/\zd.cells.map D.cv=zv.cells.toList:=by
       split at Y
       ·rename_i bw;subst bw;split at Y
        ·rename_i p;obtain⟨q1,q2,q3,q4,_⟩:=wN (w:=w) (e:=e) Y (O w (zg av pB e bx) p (by simp)).1;refine⟨by simpa [eOk]using q2,q1,?_⟩;have ao:zd.cells=[zd]:=by cases zd<;>simp[D.isCell,D.cells]at q2 ⊢
         rw[ao,oZ,lI,q3]
         have:=U w e
         have h0:=this.2 0 p rfl;have bz:p≠.any:=λhh=>by subst hh;exact q4
         have h0:=h0.resolve_left bz;have b6:zv.cells.toList.length=1:=this.1
         match au:zv.cells.toList,b6 with
         | [v0],_=>rw[au]at h0;simp at h0;rw[h0]
        ·cases Y
       ·obtain⟨q1,q2,q3⟩:=Dy (w:=w) (e:=e) (live:=zg av pB e bx) Y ⟨PV.OkL_iff.2 λp J=>(O w _ p J).1,λp J=>(O w (λ_=>False) p J).2.1⟩;refine⟨q2,q1,?_⟩;have bb:=Dw q2;rw[q3]at bb;rw[<-bb];have hc:=U w e;rw[show(PV.val e (.pg cs)).cells.toList=cs.map (PV.cv e)from by simp[PV.val,PV.val1,Value.cells,PV.cvs_eq]];apply nK;intro j;rw[oG];cases hj:cs[j]? with
        | none=>have hl:=hc.1;simp at hj;rw[oY (by omega)];rfl
        | some p=>
          have J:=oA hj
          have:=(hc.2 j p hj).resolve_left (λhh=>by have:=(O w (λ_=>False) p J).2.1;rw[hh]at this;exact this)
          rw[this];rfl
      obtain⟨z1,z2,z3⟩:=bv;have hr:=run_make (P:=P) w t el i2 zv hu hi aq k1 k2 n m g1 g2 (by omega) g4;have bc:m.toNat*i2.size=m.toNat*ez z:=by rw[ai]
      refine⟨_,madeCells zv.cells (m.toNat*i2.size),el,_,_,by simp only[execOp,Sem.run_bind,hn,hm,hr,Result.andThen_ok,Sem.run_pure],a8,JI (heap_alloc_new w _) (by rw[size_madeCells,bc]) (by simp) (by omega) (by unfold maxLen;omega)
       (λx hx=>by rw[(List.mem_replicate.1 hx).2];exact⟨z1,z2⟩) (λj u hj=>?_)⟩
      have aj:∀ x∈List.replicate n.toNat zd,eOk z x:=λx hx=>by rw[(List.mem_replicate.1 hx).2];exact z1
      have bg:j<n.toNat*ez z:=by
       have:=(oC.1 hj).1
       rw[zW aj,mX]at this;exact this
      have J:=Cj z;have hq:j / ez z<n.toNat:=by rw[Nat.div_lt_iff_lt_mul J];exact bg
      have hr:j % ez z<ez z:=Nat.mod_lt _ J;have au:=xT z1;have bh:zd.cells[j % ez z]?=some (zd.cells[j % ez z]'(by omega)):=oF (by omega);have bi:=Af aj (j:=j / ez z) (e:=zd) (by rw[mz];simp[hq]) bh;have b7:j / ez z*ez z+j % ez z=j:=by rw[Nat.mul_comm];exact Nat.div_add_mod j (ez z)
      rw[b7,hj]at bi;have b9:=oU bi;have bj:zv.cells.size=ez z:=by rw[<-ny,<-z3,om,au]
      have ca:j<m.toNat*i2.size:=by rw[bc];exact nI bg (oc _ (by omega))
      unfold madeCells;rw[Array.getElem?_map,Array.getElem?_range];simp only[ca,nj,oe,bj];congr 1;have cc:zv.cells[j % ez z]?=some u.cv:=by rw[<-nw,<-z3,oG,bh,b9];rfl
      rw[getElem!_def,cc]
     ·cases Y
    ·exact h.elim
   ·exact h.elim
  ·exact h.elim
end Go.Proofs.YtlaniepnglheoaaGreat
