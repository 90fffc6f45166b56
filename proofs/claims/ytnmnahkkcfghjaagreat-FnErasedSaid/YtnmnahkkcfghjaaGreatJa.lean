/- Ghost data (snapshots of values with the memory behind them), and what memory says of them. No program in sight. -/
import Derived.WalkKit
import Derived.Lib.ItoaNum
set_option linter.unusedVariables false
set_option linter.unusedSimpArgs false
namespace Go.Proofs.YtnmnahkkcfghjaaGreat
open Go
abbrev oA:=@List.getD_eq_getElem?_getD
abbrev oB:=@List.mem_of_getElem?
abbrev oC:=@List.getElem?_eq_some_iff
abbrev oD:=@Nat.le_refl
abbrev oE:=@List.getElem?_map
abbrev oF:=@List.mem_cons
abbrev oG:=@Bool.and_eq_true
abbrev oH:=@List.getElem?_eq_getElem
abbrev oI:=@List.length_append
abbrev oJ:=@List.mem_append
abbrev oK:=@Int.toNat_natCast
abbrev oL:=@ByteArray.size_append
abbrev oM:=@List.getElem?_append_left
abbrev oN:=@Nat.le_trans
abbrev oO:=@List.length_cons
abbrev oP:=@List.eq_nil_of_length_eq_zero
abbrev oQ:=@List.mem_map
abbrev oR:=@List.mem_iff_getElem?
abbrev oS:=@List.getElem?_append_right
abbrev oT:=@List.getElem?_eq_none
abbrev oU:=@Array.getElem?_eq_some_iff
abbrev oV:=@List.length_map
abbrev oW:=@Option.some.inj
abbrev oX:=@List.length_nil
abbrev oY:=@List.mem_singleton
abbrev oZ:=@List.all_eq_true
abbrev oa:=@List.getElem?_take
abbrev ob:=@Option.map_some
abbrev oc:=@List.nil_append
abbrev od:=@List.not_mem_nil
abbrev oe:=@Nat.mul_le_mul_right
abbrev oh:=@List.mem_of_mem_take
abbrev oi:=@List.take_of_length_le
abbrev ol:=@List.map_cons
abbrev om:=@Array.mem_toList_iff
abbrev oq:=@Array.getElem?_eq_getElem
abbrev ou:=@List.mem_of_mem_drop
abbrev ow:=@List.getElem?_set_ne
abbrev o0:=@List.mem_append_left
abbrev o3:=@decide_eq_true_eq
abbrev o5:=@List.length_take
abbrev o6:=@List.map_congr_left
abbrev o7:=@Nat.lt_of_lt_of_le
abbrev o8:=@Nat.add_mul
abbrev o9:=@Option.getD_some
abbrev nA:=@Nat.eq_of_beq_eq_true
abbrev nB:=@List.length_singleton
abbrev nC:=@List.getElem?_set_self
abbrev nD:=@List.ext_getElem?
abbrev nE:=@Option.some.injEq
abbrev nF:=@List.mem_or_eq_of_mem_set
abbrev nG:=@List.cons_append
abbrev nH:=@Array.getD_eq_getD_getElem?
abbrev nI:=@List.getElem?_drop
abbrev nJ:=@Nat.zero_add
abbrev nK:=@beq_iff_eq
abbrev nL:=@List.getElem?_set
abbrev nM:=@List.eq_nil_iff_forall_not_mem
abbrev nN:=@Array.toList_inj
abbrev nO:=@List.append_nil
abbrev nP:=@List.length_set
abbrev nQ:=@List.nodup_append
abbrev nR:=@Bool.not_eq_true'
abbrev nS:=@Array.getElem?_toList
abbrev nT:=@List.mem_append_right
abbrev nU:=@Array.length_toList
abbrev nV:=@List.eq_of_mem_replicate
abbrev nW:=@List.mem_filterMap
abbrev nX:=@List.getElem?_cons_succ
abbrev nY:=@forall_eq_or_imp
abbrev nZ:=@List.mem_cons_of_mem
abbrev na:=@if_false
abbrev nc:=@List.map_append
abbrev nf:=@List.nodup_cons
abbrev nh:=@List.filterMap_cons
abbrev ni:=@List.take_append_drop
abbrev nj:=@List.size_toArray
abbrev nk:=@Nat.pow_le_pow_right
abbrev nl:=@or_false
abbrev np:=@Int.tmod_eq_emod_of_nonneg
abbrev nq:=@List.mem_flatMap
abbrev nu:=@List.getElem?_eq_none_iff
abbrev nw:=@List.append_assoc
abbrev ny:=@List.mem_filter
abbrev mA:=@List.mem_cons_self
abbrev mB:=@not_true_eq_false
abbrev mC:=@congrArg
abbrev mD:=@List.nodup_nil
abbrev mE:=@Decidable.not_not
abbrev mF:=@List.length_replicate
abbrev mG:=@List.getElem_mem
abbrev mH:=@List.map_map
abbrev mI:=@Option.map_none
abbrev mJ:=@Bool.or_eq_true
abbrev mK:=@ByteArray.size_extract
abbrev mL:=@Nat.le_of_succ_le_succ
abbrev mM:=@Int.le_refl
abbrev mN:=@Option.isSome_none
abbrev mO:=@List.set_cons_zero
abbrev mP:=@List.append_of_mem
abbrev mQ:=@decide_eq_true
abbrev mR:=@Option.isSome_some
abbrev mS:=@decide_eq_true_iff
abbrev mT:=@Nat.le_of_ble_eq_true
abbrev mU:=@List.length_filter_le
abbrev mV:=@if_true
abbrev mW:=@Nat.add_zero
abbrev mX:=@Nat.le_succ
abbrev mY:=@Nat.mul_le_mul_left
abbrev mZ:=@List.getElem?_replicate
abbrev ma:=@List.length_drop
abbrev mb:=@Nat.one_mul
abbrev mc:=@Bool.false_eq_true
abbrev md:=@List.drop_eq_nil_of_le
abbrev me:=@List.set_cons_succ
abbrev mf:=@Bool.eq_iff_iff
abbrev mg:=@decide_eq_false
abbrev mi:=@Nat.add_assoc
abbrev mj:=@Array.size_append
abbrev ml:=@List.length_filter_lt_length_iff_exists
abbrev mm:=@List.getElem?_append
abbrev mn:=@List.take_zero
abbrev mo:=@Nat.zero_mul
abbrev mq:=@Option.bind_some
abbrev mr:=@List.mem_reverse
abbrev ms:=@Nat.pow_succ
abbrev mt:=@List.drop_eq_getElem_cons
abbrev mu:=@List.getD_cons_zero
abbrev mv:=@List.getD_cons_succ
abbrev mw:=@List.set_eq_of_length_le
abbrev my:=@Nat.eq_zero_or_pos
abbrev mz:=@List.getElem?_cons_zero
abbrev m8:=@Nat.le_mul_of_pos_right
abbrev m9:=@Iff.rfl
abbrev lA:=@List.map_nil
abbrev lB:=@of_decide_eq_true
abbrev lC:=@Option.map_eq_some_iff
abbrev lD:=@Nat.lt_of_not_le
abbrev lE:=@Nat.le_of_not_lt
/-- A snapshot: a value of one cell that holds no live address; a struct's cells; a slice with what it holds. 'z = 0': elements of one cell; 'z > 0': structs of z cells. -/
inductive D where
 | lit (x:Value)
 | ag (cs:List D)
 | sl (a:Option Addr) (z:Nat) (es:List D) (cap:Nat)
 /-- a pointer to a place that nobody writes, and what stands there -/
 | pt (ad:Addr) (z:Nat) (x:D)
 /-- a function with what it has captured -/
 | fn (f:FuncId) (caps:List D)
 /-- a map that nobody writes, and its entries -/
 | mp (b:Nat) (es:Array MapEntry) (clock:Nat)
instance:Inhabited D:=⟨.lit undef⟩
mutual
def D.cv:D->Value
 | .lit x=>x
 | .sl a _ es cap=>.slice a es.length cap
 | .ag _=>undef
 | .pt ad _ _=>.pointer (some ad)
 | .fn f caps=>.func (.func f) #[] (D.cvL caps).toArray
 | .mp b _ _=>.map (some b)
def D.cvL:List D->List Value
 | []=>[]
 | d::ds=>d.cv::D.cvL ds
end
theorem D.cvL_eq:∀ l:List D,D.cvL l=l.map D.cv
 | []=>rfl
 | d::ds=>by simp only [D.cvL,ol,D.cvL_eq ds]
def D.cells:D->List D
 | .ag cs=>cs
 | .lit x=>[.lit x]
 | .sl a z es cap=>[.sl a z es cap]
 | .pt ad z x=>[.pt ad z x]
 | .fn f caps=>[.fn f caps]
 | .mp b es c=>[.mp b es c]
def D.val (d:D):Value:=match d with
 | .ag cs=>.agg (cs.map D.cv).toArray
 | d=>d.cv
def D.isCell:D->Prop
 | .ag _=>False
 | .lit x=>x.oneCell'=true
 | .sl ..=>True
 | .pt ..=>True
 | .fn ..=>True
 | .mp ..=>True
/-- a struct's field, as a cell; a part of several cells. -/
def D.cell (x:D) (i:Nat):D:=x.cells.getD i default
def D.sub (x:D) (o n:Nat):D:=.ag ((x.cells.drop o).take n)
def IsAg (n:Nat) (x:D):Prop:=∃ cs,x=.ag cs/\cs.length=n/\∀ c∈cs,c.isCell
def ez (z:Nat):Nat:=if z=0 then 1 else z
def eOk (z:Nat) (e:D):Prop:=if z=0 then e.isCell else IsAg z e
def z9 (es:List D):List D:=es.flatMap D.cells
mutual
def D.foot:D->List Nat
 | .lit _=>[]
 | .ag cs=>zF cs
 | .sl none _ es _=>zF es
 | .sl (some ad) _ es _=>if es.isEmpty then [] else ad.block::zF es
 | .pt ad _ x=>ad.block::x.foot
 | .fn _ caps=>zF caps
 | .mp b _ _=>[b]
def zF:List D->List Nat
 | []=>[]
 | d::ds=>d.foot++zF ds
end
/-- the cells at an address are these -/
def Row (w:World) (ad:Addr) (cs:List D):Prop:=
 cs=[]\/∃ c t fz,w.heap[ad.block]?=some (.cells c t fz)/\∀ i u,cs[i]?=some u->c[ad.off+i]?=some u.cv
inductive Holds (w:World):D->Prop
 | lit {x:Value}:Holds w (.lit x)
 | ag {cs:List D}:(∀ c∈cs,Holds w c)->Holds w (.ag cs)
 | nil {z:Nat}:Holds w (.sl none z [] 0)
 | sl {ad:Addr} {z:Nat} {es:List D} {cap:Nat}:(es≠[]->ad.spot=none)->es.length<=cap->(∀ e∈es,eOk z e)->(∀ e∈es,Holds w e)->Row w ad (z9 es)->Holds w (.sl (some ad) z es cap)
 | pt {ad:Addr} {z:Nat} {x:D}:ad.spot=none->eOk z x->Row w ad x.cells->Holds w x->Holds w (.pt ad z x)
 | fn {f:FuncId} {caps:List D}:(∀ c∈caps,c.isCell)->(∀ c∈caps,Holds w c)->Holds w (.fn f caps)
 | mp {b:Nat} {es:Array MapEntry} {c:Nat}:w.heap[b]?=some (.map es c)->Holds w (.mp b es c)
theorem zP {b:Nat} {ds:List D}:b∈zF ds↔∃ d∈ds,b∈d.foot:=by
 induction ds with
 | nil=>simp [zF]
 | cons d ds I=>simp [zF,I]
theorem zK (a b:List D):zF (a++b)=zF a++zF b:=by
 induction a with
 | nil=>simp [zF]
 | cons d ds I=>simp [zF,I]
theorem xL (a b:List D):z9 (a++b)=z9 a++z9 b:=by simp [z9]
theorem vn (a:D) (b:List D):z9 (a::b)=a.cells++z9 b:=by simp [z9]
theorem yc {z:Nat} {e:D} (h:eOk z e):e.cells.length=ez z:=by
 unfold eOk at h
 unfold ez
 split at h
 ·rename_i I;simp only [I,mV];cases e<;>simp [D.cells,D.isCell] at h ⊢
 ·rename_i I;simp only [I,na];obtain ⟨cs,rfl,J,_⟩:=h;exact J
theorem zAU {z:Nat} {e:D} (h:eOk z e):∀ c∈e.cells,c.isCell:=by
 unfold eOk at h
 split at h
 ·cases e<;>simp [D.cells,D.isCell] at h ⊢<;>exact h
 ·obtain ⟨cs,rfl,_,h⟩:=h;exact h
theorem zQ {z:Nat} {es:List D} (h:∀ e∈es,eOk z e):(z9 es).length=es.length*ez z:=by
 induction es with
 | nil=>simp [z9]
 | cons e es I=>
   rw [vn,oI,yc (h e (by simp)),I (λx J=>h x (by simp [J])),oO]
   rw [o8];omega
theorem zHu {z:Nat} {es:List D} (h:∀ e∈es,eOk z e):∀ c∈z9 es,c.isCell:=by
 intro c hc
 obtain ⟨e,J,I⟩:=nq.1 hc
 exact zAU (h e J) c I
theorem rX {z:Nat} {es:List D} (h:∀ e∈es,eOk z e) {j:Nat} {e:D} (I:es[j]?=some e) {i:Nat} {u:D} (hi:e.cells[i]?=some u) :
  (z9 es)[j*ez z+i]?=some u:=by
 induction es generalizing j with
 | nil=>simp at I
 | cons x es U=>
   rw [vn]
   have O:=yc (h x (by simp))
   cases j with
   | zero=>
     simp at I;subst I
     have J:i<x.cells.length:=(oC.1 hi).1
     rw [mo,nJ,oM J];exact hi
   | succ j=>
     simp at I
     rw [oS (by rw [O,o8];omega),O]
     rw [show (j+1)*ez z+i - ez z=j*ez z+i by rw [o8];omega]
     exact U (λy Y=>h y (by simp [Y])) I
theorem xH {c:D} (h:c.isCell):c.cv.oneCell'=true:=by
 cases c<;>simp [D.isCell,D.cv,Value.oneCell'] at h ⊢
 exact h
theorem zA2 (z:Nat):0<ez z:=by unfold ez;split<;>omega
theorem Row.mono {w w':World} {ad:Addr} {cs:List D} (h:Row w ad cs) (I:cs≠[]->w'.heap[ad.block]?=w.heap[ad.block]?):Row w' ad cs:=by
 rcases h with h | ⟨c,t,fz,J,O⟩
 ·exact .inl h
 ·by_cases hc:cs=[]
  ·exact .inl hc
  ·exact .inr ⟨c,t,fz,(I hc).trans J,O⟩
theorem zPp {es:List D} (h:z9 es≠[]):es≠[]:=by intro e;subst e;exact h rfl
theorem Holds.mono {w w':World} {d:D} (h:Holds w d):(∀ b∈d.foot,w'.heap[b]?=w.heap[b]?)->Holds w' d:=by
 induction h with
 | lit=>intro _;exact .lit
 | ag _ J=>
   intro I
   refine .ag λc hc=>J c hc λb O=>I b ?_
   simp only [D.foot];exact zP.2 ⟨c,hc,O⟩
 | nil=>intro _;exact .nil
 | @sl ad z es cap U h2 h3 _ h5 J=>
   intro I
   by_cases Y:es=[]
   ·subst Y;exact .sl U h2 (by simp) (by simp) (.inl rfl)
   ·have hf:(D.sl (some ad) z es cap).foot=ad.block::zF es:=by simp [D.foot,Y]
    rw [hf] at I
    refine .sl U h2 h3 (λe he=>J e he λb aa=>I b ?_) (h5.mono λ_=>I _ (by simp))
    exact nZ _ (zP.2 ⟨e,he,aa⟩)
 | pt U h2 h3 _ J=>
   intro I
   simp only [D.foot] at I
   exact .pt U h2 (h3.mono λ_=>I _ (by simp)) (J λb ab=>I b (by simp [ab]))
 | fn U _ J=>
   intro I
   simp only [D.foot] at I
   exact .fn U λc hc=>J c hc λb O=>I b (zP.2 ⟨c,hc,O⟩)
 | mp h=>
   intro I
   exact .mp ((I _ (by simp [D.foot])).trans h)
theorem Holds.lt {w:World} {d:D} (h:Holds w d):∀ b∈d.foot,b<w.heap.size:=by
 induction h with
 | lit=>simp [D.foot]
 | ag _ J=>
   intro b hb
   simp only [D.foot] at hb
   obtain ⟨c,hc,I⟩:=zP.1 hb
   exact J c hc b I
 | nil=>simp [D.foot,zF]
 | mp h=>
   intro b hb
   simp only [D.foot,oY] at hb
   subst hb
   exact (oU.1 h).1
 | @sl ad z es cap h1 h2 U _ Y J=>
   intro b hb
   by_cases O:es=[]
   ·subst O;simp [D.foot] at hb
   ·have hf:(D.sl (some ad) z es cap).foot=ad.block::zF es:=by simp [D.foot,O]
    rw [hf] at hb
    rcases oF.1 hb with rfl | hb
    ·rcases Y with Y | ⟨c,t,fz,h6,_⟩
     ·exfalso
      have:=zQ U
      rw [Y] at this
      have hp:=zA2 z
      have:0<es.length:=List.length_pos_iff.2 O
      have:=Nat.mul_pos this hp
      simp at *;omega
     ·exact (oU.1 h6).1
    ·obtain ⟨c,hc,I⟩:=zP.1 hb
     exact J c hc b I
 | @pt ad z x h1 h2 U _ J=>
   intro b hb
   simp only [D.foot] at hb
   rcases oF.1 hb with rfl | hb
   ·rcases U with U | ⟨c,t,fz,h6,_⟩
    ·exfalso
     have h4:=yc h2
     have:=zA2 z
     rw [U] at h4
     simp at h4;omega
    ·exact (oU.1 h6).1
   ·exact J b hb
 | @fn f caps h1 _ J=>
   intro b hb
   simp only [D.foot] at hb
   obtain ⟨c,hc,I⟩:=zP.1 hb
   exact J c hc b I
/-- Held, and apart from the blocks that may still be written. -/
def Good (w:World) (live:Nat->Prop) (d:D):Prop:=Holds w d/\∀ b∈d.foot,¬live b
theorem Good.elem {w:World} {live:Nat->Prop} {a:Option Addr} {z:Nat} {es:List D} {cap:Nat} (h:Good w live (.sl a z es cap)) {e:D} (I:e∈es):Good w live e:=by
 obtain ⟨O,U⟩:=h
 cases O with
 | nil=>simp at I
 | sl _ _ _ Y _=>
   refine ⟨Y e I,λb hb=>U b ?_⟩
   have J:es≠[]:=λh=>by subst h;simp at I
   simp [D.foot,J]
   exact .inr (zP.2 ⟨e,I,hb⟩)
theorem Good.part {w:World} {live:Nat->Prop} {cs:List D} (h:Good w live (.ag cs)) {c:D} (hc:c∈cs):Good w live c:=by
 obtain ⟨I,J⟩:=h
 cases I with
 | ag h=>exact ⟨h c hc,λb O=>J b (by simp only [D.foot];exact zP.2 ⟨c,hc,O⟩)⟩
theorem Good.ag {w:World} {live:Nat->Prop} {cs:List D} (h:∀ c∈cs,Good w live c):Good w live (.ag cs):=
 ⟨.ag λc hc=>(h c hc).1,λb I=>by simp only [D.foot] at I;obtain ⟨c,hc,I⟩:=zP.1 I;exact (h c hc).2 b I⟩
theorem Good.lit {w:World} {live:Nat->Prop} {x:Value}:Good w live (.lit x):=⟨.lit,by simp [D.foot]⟩
theorem Good.cells {w:World} {live:Nat->Prop} {d:D} (h:Good w live d):∀ c∈d.cells,Good w live c:=by
 cases d with
 | lit x=>simp [D.cells];exact h
 | ag cs=>exact λc hc=>h.part hc
 | sl a z es cap=>simp [D.cells];exact h
 | pt ad z x=>simp [D.cells];exact h
 | fn f caps=>simp [D.cells];exact h
 | mp b es c=>simp [D.cells];exact h
theorem Good.default {w:World} {live:Nat->Prop}:Good w live default:=Good.lit
theorem Good.cell {w:World} {live:Nat->Prop} {d:D} (h:Good w live d) (i:Nat):Good w live (d.cell i):=by
 unfold D.cell
 rw [oA]
 cases hc:d.cells[i]? with
 | none=>exact Good.default
 | some c=>exact h.cells c (oB hc)
theorem Good.sub {w:World} {live:Nat->Prop} {d:D} (h:Good w live d) (o n:Nat):Good w live (d.sub o n):=
 Good.ag λc hc=>h.cells c (ou (oh hc))
theorem Good.mono {w w':World} {live live':Nat->Prop} {d:D} (h:Good w live d) (O:∀ b,b<w.heap.size->¬live b->w'.heap[b]?=w.heap[b]?)
  (U:∀ b,b<w.heap.size->live' b->live b):Good w' live' d:=
 ⟨h.1.mono λb I=>O b (h.1.lt b I) (h.2 b I),λb I J=>h.2 b I (U b (h.1.lt b I) J)⟩
inductive PV where
 | any
 | int (k:IntKind) (n:Int)
 | bool (v:Bool)
 | str (v:ByteArray)
 | lit (x:Value)
 | sv (a:Option Addr) (z:Nat) (es:List D) (cap:Nat)
 | d (x:D)
 | dc (x:D)
 | dg (n:Nat) (x:D)
 | pb (k z i o:Nat)
 | pd (ad:Addr) (z:Nat) (x:D)
 | sb (k z lo n c:Nat)
 | fn (f:FuncId) (caps:List PV)
 | pg (cs:List PV)
 | tp (l:List PV)
instance:Inhabited PV:=⟨.any⟩
abbrev Env:=List (Option Nat)
def Env.at (e:Env) (k:Nat):Option Nat:=e.getD k none
mutual
def PV.cv (e:Env):PV->Value
 | .any=>undef
 | .int k n=>.int k n
 | .bool v=>.bool v
 | .str v=>.string v
 | .lit x=>x
 | .sv a _ es cap=>.slice a es.length cap
 | .d x=>x.cv
 | .dc x=>x.cv
 | .dg _ _=>undef
 | .pb k z i o=>.pointer (some ⟨(e.at k).getD 0,i*ez z+o,none⟩)
 | .pd ad _ _=>.pointer (some ad)
 | .sb k z lo n c=>match e.at k with
   | none=>.slice none n c
   | some b=>.slice (some ⟨b,lo*ez z,none⟩) n c
 | .fn f caps=>.func (.func f) #[] (PV.cvs e caps).toArray
 | .pg _=>undef
 | .tp _=>undef
def PV.cvs (e:Env):List PV->List Value
 | []=>[]
 | p::ps=>p.cv e::PV.cvs e ps
end
def PV.val1 (e:Env):PV->Value
 | .pg cs=>.agg (PV.cvs e cs).toArray
 | .d x=>x.val
 | .dg _ x=>x.val
 | p=>p.cv e
def PV.val (e:Env):PV->Value
 | .tp l=>.tuple (l.map (PV.val1 e)).toArray
 | p=>p.val1 e
mutual
def PV.refs:PV->List Nat
 | .pb k _ _ _=>[k]
 | .sb k _ _ _ _=>[k]
 | .fn _ caps=>PV.refsL caps
 | .pg cs=>PV.refsL cs
 | .tp l=>PV.refsL l
 | _=>[]
def PV.refsL:List PV->List Nat
 | []=>[]
 | p::ps=>p.refs++PV.refsL ps
end
def PV.isC:PV->Prop
 | .any=>False
 | .pg _=>False
 | .tp _=>False
 | .dg _ _=>False
 | .d x=>x.isCell
 | .lit x=>x.oneCell'=true
 | _=>True
def PV.notAny:PV->Bool
 | .any=>false
 | _=>true
def PV.cellsL (cs:List PV):Prop:=∀ p∈cs,p=.any\/p.isC
mutual
def PV.Ok (w:World) (live:Nat->Prop):PV->Prop
 | .lit x=>x.oneCell'=true
 | .sv a z es cap=>Good w live (.sl a z es cap)
 | .d x=>Good w live x
 | .dc x=>Good w live x/\x.isCell
 | .dg n x=>Good w live x/\IsAg n x
 | .pd ad z x=>Good w live x/\eOk z x/\ad.spot=none/\Row w ad x.cells/\¬live ad.block/\ad.block<w.heap.size
 | .fn _ caps=>PV.OkL w live caps
 | .pg cs=>PV.OkL w live cs/\∀ p∈cs,p.isC
 | .tp l=>PV.OkL w live l
 | _=>True
def PV.OkL (w:World) (live:Nat->Prop):List PV->Prop
 | []=>True
 | p::ps=>p.Ok w live/\PV.OkL w live ps
end
theorem PV.OkL_iff {w:World} {live:Nat->Prop} {l:List PV}:PV.OkL w live l↔∀ p∈l,p.Ok w live:=by
 induction l with
 | nil=>simp [PV.OkL]
 | cons p ps I=>simp [PV.OkL,I]
theorem PV.refsL_mem {k:Nat} {l:List PV}:k∈PV.refsL l↔∃ p∈l,k∈p.refs:=by
 induction l with
 | nil=>simp [PV.refsL]
 | cons p ps I=>simp [PV.refsL,I]
theorem PV.cvs_eq {e:Env} {l:List PV}:PV.cvs e l=l.map (PV.cv e):=by
 induction l with
 | nil=>rfl
 | cons p ps I=>simp [PV.cvs,I]
inductive Bx where
 | var (cs:List PV)
 | vd (x:D) (n:Nat)
 | arr (t:TypeId) (z:Nat) (es:List D) (c:Nat)
 | gone
instance:Inhabited Bx:=⟨.gone⟩
def zO1 (c:Array Value) (i:Nat) (e:Env) (p:PV):Prop:=p=.any\/c[i]?=some (p.cv e)
def Bx.Rel (w:World) (e:Env) (at_:Option Nat):Bx->Prop
 | .var cs=>∃ b c t,at_=some b/\w.heap[b]?=some (.cells c t (0,0))/\c.size=cs.length/\∀ i p,cs[i]?=some p->zO1 c i e p
 | .vd x n=>∃ b c t,at_=some b/\w.heap[b]?=some (.cells c t (0,0))/\c.size=n/\IsAg n x/\∀ (i:Nat) (u:D),x.cells[i]?=some u->c[i]?=some u.cv
 | .arr t z es n=>(at_=none/\es=[]/\n=0)\/∃ b c,at_=some b/\w.heap[b]?=some (.cells c t (0,0))/\n*ez z<=c.size/\es.length<=n/\n<=maxLen /\
  (∀ x∈es,eOk z x)/\∀ (i:Nat) (u:D),(z9 es)[i]?=some u->c[i]?=some u.cv
 | .gone=>True
def Bx.Ok (w:World) (live:Nat->Prop):Bx->Prop
 | .var cs=>PV.OkL w live cs/\PV.cellsL cs
 | .vd x _=>Good w live x
 | .arr _ _ es _=>∀ x∈es,Good w live x
 | .gone=>True
def Bx.refs:Bx->List Nat
 | .var cs=>PV.refsL cs
 | _=>[]
def Bx.isArr:Bx->Bool
 | .arr ..=>true
 | .gone=>true
 | _=>false
/-- box k lives in block b -/
def Lives (pB:List Nat) (e:Env) (bx:List Bx) (k b:Nat):Prop:=k∉pB/\e.at k=some b/\∃ B,bx[k]?=some B/\B≠.gone
def zT (av:Nat->Prop) (pB:List Nat) (e:Env) (bx:List Bx) (b:Nat):Prop:=av b\/∃ k,Lives pB e bx k b
/-- the boxes, as memory has them -/
structure Mem (av:Nat->Prop) (pB:List Nat) (w:World) (e:Env) (bx:List Bx):Prop where
 el:e.length=bx.length
 br:∀ k B,bx[k]?=some B->k∉pB->B.Rel w e (e.at k)
 bo:∀ (k:Nat) (B:Bx),bx[k]?=some B->k∉pB->B.Ok w (zT av pB e bx)
 bf:∀ (k:Nat) (B:Bx),bx[k]?=some B->k∉pB->∀ j∈B.refs,j∉pB/\j<bx.length
 inj:∀ k j b,Lives pB e bx k b->Lives pB e bx j b->k=j
/-- what else a world holds stays -/
structure KU (w0 w:World):Prop where
 os:w.os=w0.os
 out:w.output=w0.output
theorem KU.rfl {w:World}:KU w w:=⟨Eq.refl _,Eq.refl _⟩
theorem KU.trans {w0 w w':World} (h:KU w0 w) (I:KU w w'):KU w0 w':=⟨I.os.trans h.os,I.out.trans h.out⟩
/-- where marks are written, what is new is not shared with a string -/
def Fz (z:Nat × Nat):Prop:=True
theorem fz0:Fz (0,0):=trivial
theorem Fz.of {z:Nat × Nat} (h:z=(0,0)):Fz z:=h ▸ fz0
/-- what has become of old memory: nothing, but for the blocks of the boxes that were handed in -/
structure Fram (w0:World) (e0:Env) (w:World):Prop where
 ku:KU w0 w
 size:w0.heap.size<=w.heap.size
 old:∀ b,b<w0.heap.size->some b∉e0->w.heap[b]?=w0.heap[b]?
 fz:∀ (b:Nat) (c:Array Value) (t:TypeId) (z:Nat × Nat),(w0.heap.size<=b\/some b∈e0)->w.heap[b]?=some (.cells c t z)->Fz z
structure St where
 sl:List PV
 bx:List Bx
 N:Nat
 /-- the blocks of the first boxes, where they are to stay; older blocks that may be written -/
 pin:Option (List (Option Nat) × List Nat):=none
def St.pins (st:St):List (Option Nat):=match st.pin with
 | some (L,_)=>L
 | none=>[]
/-- the blocks of the library's variables, and what they hold -/
def glob:List (Nat × Array Value):=[]
def avG (b:Nat):Prop:=∃ x∈glob,x.1=b
structure GlobIs (w:World):Prop where
 h:∀ x∈glob,∃ t fz,w.heap[x.1]?=some (.cells x.2 t fz)
theorem GlobIs.keep {w w':World} (h:GlobIs w) (J:∀ b,avG b->w'.heap[b]?=w.heap[b]?):GlobIs w':=⟨λx I=>by
 obtain ⟨t,fz,O⟩:=h.h x I
 exact ⟨t,fz,(J x.1 ⟨x,I,rfl⟩).trans O⟩⟩
theorem GlobIs.lt {w:World} (h:GlobIs w) {b:Nat} (I:avG b):b<w.heap.size:=by
 obtain ⟨x,J,rfl⟩:=I
 obtain ⟨t,fz,O⟩:=h.h x J
 exact (oU.1 O).1
/-- memory that is left alone: it is old; the library's variables are among it -/
structure Avl (av:Nat->Prop) (w0:World) (e0:Env):Prop where
 lt:∀ b,av b->b<w0.heap.size
 g:GlobIs w0
 ga:∀ b,avG b->av b
 ge:∀ b,avG b->some b∉e0
structure Rel (av:Nat->Prop) (w0:World) (e0:Env) (pS pB:List Nat) (a:Act) (w:World) (e:Env) (st:St):Prop extends Mem av pB w e st.bx,Fram w0 e0 w where
 nd:a.defers=[]
 sz:st.sl.length<=a.tmps.size
 hN:st.N<=w.heap.size
 hs:∀ (i:Nat) (p:PV),st.sl[i]?=some p->i∉pS->p=.any\/a.tmps.getD i undef=p.val e
 so:∀ (i:Nat) (p:PV),st.sl[i]?=some p->i∉pS->p.Ok w (zT av pB e st.bx)
 sr:∀ (i:Nat) (p:PV),st.sl[i]?=some p->i∉pS->∀ k∈p.refs,k∉pB/\k<st.bx.length
 own:∀ k b,Lives pB e st.bx k b->w0.heap.size<=b\/(some b∈e0/\k<st.pins.length)
 avl:Avl av w0 e0
 avn:∀ k b,Lives pB e st.bx k b->¬av b
 pin:∀ k b,st.pins[k]?=some (some b)->e.at k=some b/\k∉pB
 pit:∀ L T,st.pin=some (L,T)->∀ x∈T,some x∈e0
theorem Rel.glob {av:Nat->Prop} {w0 w:World} {e0 e:Env} {pS pB:List Nat} {a:Act} {st:St} (h:Rel av w0 e0 pS pB a w e st):GlobIs w:=
 h.avl.g.keep λb I=>h.old b (h.avl.lt b (h.avl.ga b I)) (h.avl.ge b I)
theorem PV.Ok.mono {w w':World} {live live':Nat->Prop} (I:∀ b,b<w.heap.size->¬live b->w'.heap[b]?=w.heap[b]?) (O:w.heap.size<=w'.heap.size)
  (J:∀ b,b<w.heap.size->live' b->live b):∀ p:PV,p.Ok w live->p.Ok w' live'
 | .sv a z es cap,h=>by simp only [PV.Ok] at h ⊢;exact h.mono I J
 | .d x,h=>by simp only [PV.Ok] at h ⊢;exact h.mono I J
 | .dc x,h=>by simp only [PV.Ok] at h ⊢;exact ⟨h.1.mono I J,h.2⟩
 | .dg n x,h=>by simp only [PV.Ok] at h ⊢;exact ⟨h.1.mono I J,h.2⟩
 | .pd ad z x,h=>by
   simp only [PV.Ok] at h ⊢
   obtain ⟨h1,h0,h2,h3,U,Y⟩:=h
   exact ⟨h1.mono I J,h0,h2,h3.mono λ_=>I _ Y U,λh=>U (J _ Y h),by omega⟩
 | .fn f caps,h=>by simp only [PV.Ok] at h ⊢;exact go caps h
 | .pg cs,h=>by simp only [PV.Ok] at h ⊢;exact ⟨go cs h.1,h.2⟩
 | .tp l,h=>by simp only [PV.Ok] at h ⊢;exact go l h
 | .any,_=>trivial
 | .int ..,_=>trivial
 | .bool ..,_=>trivial
 | .str ..,_=>trivial
 | .lit x,h=>by simp only [PV.Ok] at h ⊢;exact h
 | .pb ..,_=>trivial
 | .sb ..,_=>trivial
 where go:∀ l:List PV,PV.OkL w live l->PV.OkL w' live' l
 | [],_=>trivial
 | p::ps,h=>⟨PV.Ok.mono I O J p h.1,go ps h.2⟩
theorem PV.OkL.mono {w w':World} {live live':Nat->Prop} (J:∀ b,b<w.heap.size->¬live b->w'.heap[b]?=w.heap[b]?) (I:w.heap.size<=w'.heap.size)
  (O:∀ b,b<w.heap.size->live' b->live b) (l:List PV) (h:PV.OkL w live l):PV.OkL w' live' l:=
 PV.OkL_iff.2 λp U=>PV.Ok.mono J I O p (PV.OkL_iff.1 h p U)
theorem Bx.Ok.mono {w w':World} {live live':Nat->Prop} (I:∀ b,b<w.heap.size->¬live b->w'.heap[b]?=w.heap[b]?) (J:w.heap.size<=w'.heap.size)
  (O:∀ b,b<w.heap.size->live' b->live b) {B:Bx} (h:B.Ok w live):B.Ok w' live':=by
 cases B with
 | var cs=>exact ⟨PV.OkL.mono I J O cs h.1,h.2⟩
 | vd x n=>exact Good.mono h I O
 | arr t z es c=>exact λx U=>(h x U).mono I O
 | gone=>trivial
/-- a value reads alike under two environments that agree on the boxes that it names -/
theorem PV.cv_congr {e e':Env}:∀ p:PV,(∀ k∈p.refs,e'.at k=e.at k)->p.cv e'=p.cv e
 | .pb k z i o,h=>by simp [PV.cv,h k (by simp [PV.refs])]
 | .sb k z lo n c,h=>by simp [PV.cv,h k (by simp [PV.refs])]
 | .fn f caps,h=>by simp only [PV.cv];rw [go caps (by simpa [PV.refs] using h)]
 | .any,_=>rfl
 | .int ..,_=>rfl
 | .bool ..,_=>rfl
 | .str ..,_=>rfl
 | .lit ..,_=>rfl
 | .sv ..,_=>rfl
 | .d ..,_=>rfl
 | .dc ..,_=>rfl
 | .dg ..,_=>rfl
 | .pd ..,_=>rfl
 | .pg ..,_=>rfl
 | .tp ..,_=>rfl
 where go:∀ l:List PV,(∀ k∈PV.refsL l,e'.at k=e.at k)->PV.cvs e' l=PV.cvs e l
 | [],_=>rfl
 | p::ps,h=>by
   simp only [PV.cvs]
   rw [PV.cv_congr p λk I=>h k (by simp [PV.refsL,I]),go ps λk I=>h k (by simp [PV.refsL,I])]
theorem PV.val1_congr {e e':Env} (p:PV) (h:∀ k∈p.refs,e'.at k=e.at k):p.val1 e'=p.val1 e:=by
 cases p with
 | pg cs=>simp only [PV.val1];rw [PV.cv_congr.go cs (by simpa [PV.refs] using h)]
 | d x=>rfl
 | dg n x=>rfl
 | _=>exact PV.cv_congr _ h
theorem PV.val_congr {e e':Env} (p:PV) (h:∀ k∈p.refs,e'.at k=e.at k):p.val e'=p.val e:=by
 cases p with
 | tp l=>
   simp only [PV.val]
   congr 2
   exact o6 λq I=>PV.val1_congr q λk J=>h k (by simp only [PV.refs];exact PV.refsL_mem.2 ⟨q,I,J⟩)
 | pg cs=>exact PV.val1_congr _ h
 | _=>exact PV.val1_congr _ h
theorem Bx.Rel.congr {w w':World} {e e':Env} {at_:Option Nat} {B:Bx} (h:B.Rel w e at_) (U:∀ b,at_=some b->w'.heap[b]?=w.heap[b]?) (he:∀ k∈B.refs,e'.at k=e.at k):B.Rel w' e' at_:=by
 cases B with
 | var cs=>
   obtain ⟨b,c,t,I,J,O,h4⟩:=h
   refine ⟨b,c,t,I,(U b I).trans J,O,λi p Y=>?_⟩
   rcases h4 i p Y with h5 | h5
   ·exact .inl h5
   ·exact .inr (by rw [PV.cv_congr p λk hk=>he k (by simp only [Bx.refs];exact PV.refsL_mem.2 ⟨p,oB Y,hk⟩)];exact h5)
 | vd x n=>
   obtain ⟨b,c,t,I,J,O⟩:=h
   exact ⟨b,c,t,I,(U b I).trans J,O⟩
 | arr t z es n=>
   rcases h with h | ⟨b,c,I,J,O⟩
   ·exact .inl h
   ·exact .inr ⟨b,c,I,(U b I).trans J,O⟩
 | gone=>exact True.intro
theorem Lives.lt {av:Nat->Prop} {pB:List Nat} {w:World} {e:Env} {bx:List Bx} (h:Mem av pB w e bx) {k b:Nat} (Y:Lives pB e bx k b):b<w.heap.size:=by
 obtain ⟨h1,h2,B,h3,h4⟩:=Y
 have O:=h.br k B h3 h1
 rw [h2] at O
 cases B with
 | var cs=>obtain ⟨U,c,t,I,J,_⟩:=O;cases I;exact (oU.1 J).1
 | vd x n=>obtain ⟨U,c,t,I,J,_⟩:=O;cases I;exact (oU.1 J).1
 | arr t z es n=>
   rcases O with ⟨I,_⟩ | ⟨U,c,I,J,_⟩
   ·cases I
   ·cases I;exact (oU.1 J).1
 | gone=>exact absurd rfl h4
theorem Env.at_append_lt {e:Env} {k:Nat} {x:Option Nat} (h:k<e.length):Env.at (e++[x]) k=e.at k:=by
 simp [Env.at,oA,oM h]
theorem Env.at_append_eq {e:Env} {x:Option Nat}:Env.at (e++[x]) e.length=x:=by
 simp [Env.at,oA]
theorem Env.at_set_ne {e:Env} {k j:Nat} {x:Option Nat} (h:k≠j):Env.at (e.set j x) k=e.at k:=by
 simp [Env.at,oA,ow (Ne.symm h)]
theorem Env.at_set_eq {e:Env} {k:Nat} {x:Option Nat} (h:k<e.length):Env.at (e.set k x) k=x:=by
 simp [Env.at,oA,h]
theorem Env.at_ge {e:Env} {k:Nat} (h:e.length<=k):e.at k=none:=by
 simp [Env.at,oA,oT h]
/-- an element's kind: 0 one cell, n a struct of n cells -/
def kz (P:Program) (t:TypeId):Option Nat:=
 match P.info? t,P.underlying t with
 | some i,some (.struct _)=>if i.size=0 then none else some i.size
 | some _,some (.array ..)=>none
 | some i,some _=>if i.size=1 then some 0 else none
 | _,_=>none
/-- the kinds of the elements of the slices among a type's cells -/
def zsh (P:Program):Nat->TypeId->List Nat
 | 0,_=>[]
 | n+1,t=>match P.underlying t with
   | some (.struct fs)=>fs.toList.flatMap λf=>zsh P n f.type
   | some (.slice e)=>[(kz P e).getD 0]
   | _=>[0]
/-- nil, as the program's text has it, gets its elements' kind where it is used -/
def wy (z:Nat):PV->PV
 | .sv a z' es c=>match Nat.beq z' 1000003 with
   | true=>match a,es,c with
     | none,[],0=>.sv none z [] 0
     | a,es,c=>.sv a z' es c
   | false=>.sv a z' es c
 | p=>p
def r5:List Nat->List PV->List PV
 | z::I,p::ps=>wy z p::r5 I ps
 | _,ps=>ps
def retag (P:Program) (t:TypeId) (p:PV):PV:=
 match p with
 | .pg cs=>.pg (r5 (zsh P 8 t) cs)
 | p=>wy ((zsh P 1 t).getD 0 0) p
def vO:Value->PV
 | .int k n=>.int k n
 | .bool b=>.bool b
 | .string s=>.str s
 | .slice none 0 0=>.sv none 1000003 [] 0
 | .agg _=>.any
 | .tuple _=>.any
 | x=>.lit x
def zKK:Value->PV
 | .agg cs=>if cs.toList.all (·.oneCell') then .pg (cs.toList.map vO) else .any
 | v=>vO v
def opd (sl:List PV):Operand->PV
 | .tmp t=>sl.getD t .any
 | .const v=>zKK v
 | .global _=>.any
 | .func f=>.fn f []
/-- a value of a type of one cell is brought to its form -/
def frc (P:Program) (t:TypeId) (p:PV) (R:PV->Prop):Prop:=
 match p with
 | .dc x=>match P.underlying t with
   | some (.int k)=>∃ n,x=.lit (.int k n)/\R (.int k n)
   | some .bool=>∃ v,x=.lit (.bool v)/\R (.bool v)
   | some .string=>∃ v,x=.lit (.string v)/\R (.str v)
   | some (.slice el)=>match kz P el with
     | some z=>∃ a es cap,x=.sl a z es cap/\R (.sv a z es cap)
     | none=>False
   | _=>False
 | p=>R p
def zM5 (p:PV) (R:Int->Prop):Prop:=
 match p with
 | .int _ n=>R n
 | .dc x=>∃ k n,x=.lit (.int k n)/\R n
 | _=>False
def zQy (p:PV) (R:Bool->Prop):Prop:=
 match p with
 | .bool v=>R v
 | .dc x=>∃ v,x=.lit (.bool v)/\R v
 | _=>False
def zN1 (p:Option PV) (I:Int) (R:Int->Prop):Prop:=
 match p with
 | none=>R I
 | some p=>zM5 p R
def rh (P:Program) (t:TypeId) (f:Nat):Option (Nat × Nat):=
 match P.underlying t with
 | some (.struct fs)=>match fs[f]? with
   | some I=>match kz P I.type with
     | some z=>some (I.offset,z)
     | none=>none
   | none=>none
 | _=>none
def zR2 (op:BinOp) (k:IntKind) (a b:Int) (R:PV->Prop):Prop:=
 match op with
 | .add=>R (.int k (k.wrap (a+b)))
 | .sub=>R (.int k (k.wrap (a - b)))
 | .mul=>R (.int k (k.wrap (a*b)))
 | .quo=>b≠0/\R (.int k (k.wrap (a.tdiv b)))
 | .rem=>b≠0/\R (.int k (a.tmod b))
 | .and=>R (.int k (k.wrap (BitVec.ofInt k.bits a &&& BitVec.ofInt k.bits b).toNat))
 | .xor=>R (.int k (k.wrap (BitVec.ofInt k.bits a ^^^ BitVec.ofInt k.bits b).toNat))
 | .eql=>R (.bool (a==b))
 | .neq=>R (.bool (a != b))
 | .lss=>R (.bool (decide (a<b)))
 | .leq=>R (.bool (decide (a<=b)))
 | .gtr=>R (.bool (decide (a>b)))
 | .geq=>R (.bool (decide (a≥b)))
 | _=>False
def zSC (op:BinOp) (a b:ByteArray) (R:PV->Prop):Prop:=
 match op with
 | .add=>a.size+b.size<=maxLen/\R (.str (a++b))
 | .eql=>R (.bool (a.toList==b.toList))
 | .neq=>R (.bool (!(a.toList==b.toList)))
 | .lss=>R (.bool (Op.bytesLess a.toList b.toList))
 | .leq=>R (.bool (Op.bytesLess a.toList b.toList||a.toList==b.toList))
 | .geq=>R (.bool (!Op.bytesLess a.toList b.toList))
 | _=>False
def zN6 (op:BinOp) (a b:Bool) (R:PV->Prop):Prop:=
 match op with
 | .eql=>R (.bool (a==b))
 | .neq=>R (.bool (!(a==b)))
 | _=>False
/-- a slice against nil -/
def zSB (P:Program) (op:BinOp) (t:TypeId) (a b:Option Addr) (I:Nat) (J:List D) (cb:Nat) (R:PV->Prop):Prop:=
 match Nat.beq I 1000003,P.underlying t with
 | true,some (.slice _)=>match b,J,cb with
   | none,[],0=>match op with
     | .eql=>R (.bool a.isNone)
     | .neq=>R (.bool (!a.isNone))
     | _=>False
   | _,_,_=>False
 | _,_=>False
def zRU (P:Program) (op:BinOp) (t:TypeId) (p q:PV) (R:PV->Prop):Prop:=
 match p,q with
 | .int k a,.int I b=>
   match op with
   | .shr=>0<=b/\R (.int k (a.fdiv (2 ^ (min b.toNat k.bits))))
   | .shl=>0<=b/\R (.int k (k.wrap (a*2 ^ (min b.toNat k.bits))))
   | _=>if k=I then zR2 op k a b R else False
 | .str a,.str b=>zSC op a b R
 | .bool a,.bool b=>match P.underlying t with
   | some .bool=>zN6 op a b R
   | _=>False
 | .sv a _ _ _,.sv b J O cb=>zSB P op t a b J O cb R
 | _,_=>False
/-- a place in a box is read -/
def pgR (cs:List PV) (R:PV->Prop):Prop:=if cs.all PV.notAny=true then R (.pg cs) else R .any
def zIZ (z zz:Nat) (B:Bx) (i o:Nat) (R:PV->Prop):Prop:=
 match B with
 | .var cs=>match i with
   | 0 => if z=0 then (if o<cs.length then R (cs.getD o .any) else False)
          else if o+z<=cs.length then pgR ((cs.drop o).take z) R else False
   | _+1=>False
 | .vd x n=>match i with
   | 0 => if z=0 then (if o<n then R (.dc (x.cell o)) else False)
          else if o=0/\z=n then R (.dg n x) else if o+z<=n then R (.dg z (x.sub o z)) else False
   | _+1=>False
 | .arr _ z' es _=>if zz=z' then i<es.length /\
  (if z'=0 then (if z=0/\o=0 then R (.dc (es.getD i default)) else False)
   else if z=0 then (if o<z' then R (.dc ((es.getD i default).cell o)) else False)
   else if o=0/\z=z' then R (.dg z (es.getD i default)) else if o+z<=z' then R (.dg z ((es.getD i default).sub o z)) else False) else False
 | .gone=>False
def PV.isCap:PV->Bool
 | .pb ..=>true
 | .int ..=>true
 | .bool ..=>true
 | .str ..=>true
 | .sb ..=>true
 | .sv ..=>true
 | .fn ..=>true
 | .pd ..=>true
 | .dc ..=>true
 | .lit ..=>true
 | _=>false
/-- bytes made a text -/
def bytesOf (ns:List Int):ByteArray:=ns.foldl (λr n=>r.push (UInt8.ofNat n.toNat)) ByteArray.empty
def zCR (rb:Nat->Option Bx) (p:PV) (R:PV->Prop):Prop:=
 match p with
 | .sv _ z es _=>match z with
   | 0=>∃ ns:List Int,es=ns.map (λn=>D.lit (.int .u8 n))/\R (.str (bytesOf ns))
   | _+1=>False
 | .sb k z lo n _=>match rb k with
   | some (.arr _ z' es _)=>match z,z',lo with
     | 0,0,0=>n<=es.length/\∃ ns:List Int,es.take n=ns.map (λn=>D.lit (.int .u8 n))/\R (.str (bytesOf ns))
     | _,_,_=>False
   | _=>False
 | _=>False
/-- where a part of a row of the caller's own begins: nothing of it lies behind the row -/
def loC (z:Nat) (l:Int) (c:Nat):Prop:=match z with
 | 0=>l<(c:Int)
 | _+1=>True
def loN (z c:Nat) (l:Int):Nat:=match z with
 | 0=>l.toNat
 | _+1=>if (c:Int)=l then 0 else l.toNat
theorem zM8 {z c:Nat} {l:Int} (I:0<=l) (hc:loC z l c):(c=l.toNat/\loN z c l=0)\/(c≠l.toNat/\loN z c l=l.toNat):=by
 cases z with
 | zero=>simp only [loC] at hc;exact .inr ⟨by omega,rfl⟩
 | succ n=>
   by_cases h:(c:Int)=l
   ·exact .inl ⟨by omega,by simp [loN,h]⟩
   ·exact .inr ⟨by omega,by simp [loN,h]⟩
/-- what a map of strings holds for a string -/
def zQ7 (P:Program) (t:TypeId) (es:Array MapEntry) (c:Nat) (s:ByteArray) (o:Option ByteArray):Prop:=∀ (w:World) (b:Nat),w.heap[b]?=some (.map es c)->(Instr.lookup t (.map (some b)) (.string s) true).run P w=.ok (.tuple #[.string (o.getD ByteArray.empty),.bool o.isSome]) w
def qn (P:Program) (ρ:Operand->PV) (rb:Nat->Option Bx) (op:Op) (ty:TypeId) (R:PV->Prop):Prop:=
 match op with
 | .move x=>R (retag P ty (ρ x))
 | .assign x=>R (retag P ty (ρ x))
 | .pick c a b=>zQy (ρ c) λv=>if v=true then R (ρ a) else R (ρ b)
 | .load t x=>match kz P t with
   | none=>False
   | some z=>match ρ x with
     | .pb k zz i o=>match rb k with
       | some B=>zIZ z zz B i o R
       | none=>False
     | .pd _ z' y=>if z'=z then R (if z=0 then .dc y else .dg z y) else False
     | _=>False
 | .nilCheck x=>match ρ x with
   | .pb k z i o=>R (.pb k z i o)
   | .pd ad z y=>R (.pd ad z y)
   | .fn f caps=>R (.fn f caps)
   | _=>False
 | .binOp op t x y O=>frc P t (ρ x) λp=>frc P O (ρ y) λq=>zRU P op t p q R
 | .unOp op t x=>match op with
   | .not=>frc P t (ρ x) λp=>match p with
     | .bool v=>R (.bool (!v))
     | _=>False
   | .neg=>frc P t (ρ x) λp=>match p with
     | .int k n=>R (.int k (k.wrap (0 - n)))
     | _=>False
   | _=>False
 | .convert s d x=>match P.underlying d with
   | some (.int k)=>match P.underlying s with
     | some (.int _)=>frc P s (ρ x) λp=>match p with
       | .int _ n=>R (.int k (k.wrap n))
       | _=>False
     | _=>False
   | some .string=>match P.underlying s with
     | some (.slice el)=>match kz P el,P.underlying el with
       | some 0,some (.int .u8)=>frc P s (ρ x) λp=>zCR rb p R
       | _,_=>False
     | _=>False
   | _=>False
 | .fieldAddr t x f=>match rh P t f with
   | none=>False
   | some (o,z)=>match ρ x with
     | .pb k z' i U=>R (.pb k z' i (U+o))
     | .pd ad n y=>if o+ez z<=n then R (.pd (ad.add o) z (if z=0 then y.cell o else y.sub o z)) else False
     | _=>False
 | .indexAddr t x i=>match P.underlying t with
   | some (.slice el)=>match kz P el with
     | none=>False
     | some z=>zM5 (ρ i) λn=>frc P t (ρ x) λp=>match p with
       | .sv a z' es _=>if z'=z then (0<=n/\n<(es.length:Int))/\R (.pd ((a.getD default).add (n.toNat*ez z)) z (es.getD n.toNat default)) else False
       | .sb k z' lo m _=>match rb k with
         | some (.arr _ J es _)=>if z'=z/\J=z then (0<=n/\n<(m:Int)/\lo+n.toNat<es.length)/\R (.pb k z' (lo+n.toNat) 0) else False
         | _=>False
       | _=>False
   | _=>False
 | .index t x i=>match P.underlying t with
   | some .string=>zM5 (ρ i) λn=>frc P t (ρ x) λp=>match p with
     | .str s=>(0<=n/\n<(s.size:Int))/\R (.int .u8 ((s.data.getD n.toNat 0).toNat:Int))
     | _=>False
   | _=>False
 | .slice t x lo hi mx=>match mx,P.underlying t with
   | none,some .string=>frc P t (ρ x) λp=>match p with
     | .str s=>zN1 (lo.map ρ) 0 λl=>zN1 (hi.map ρ) (s.size:Int) λh=>(0<=l/\l<=h/\h<=(s.size:Int))/\R (.str (s.extract l.toNat h.toNat))
     | _=>False
   | none,some (.slice el)=>match kz P el with
     | none=>False
     | some z=>frc P t (ρ x) λp=>match p with
       | .sv a z' es cap=>if z'=z then zN1 (lo.map ρ) 0 λl=>zN1 (hi.map ρ) (es.length:Int) λh=>(0<=l/\l<=h/\h<=(es.length:Int)) /\
        R (.sv (if (cap:Int)=l then a else a.map (·.add (l.toNat*ez z))) z ((es.take h.toNat).drop l.toNat) (cap - l.toNat)) else False
       | .sb k z' I n c=>match lo with
         | none=>zN1 (hi.map ρ) (n:Int) λh=>(0<=h/\h<=(c:Int))/\R (.sb k z' I h.toNat c)
         | some y=>if z'=z then zM5 (ρ y) λl=>zN1 (hi.map ρ) (n:Int) λh=>(0<=l/\l<=h/\h<=(c:Int)/\loC z l c)/\R (.sb k z' (I+loN z c l) (h.toNat - l.toNat) (c - l.toNat)) else False
       | _=>False
   | _,_=>False
 | .field t x f=>match rh P t f with
   | none=>False
   | some (o,z)=>match ρ x with
     | .pg cs=>if z=0 then (if o<cs.length then R (cs.getD o .any) else False) else if o+z<=cs.length then pgR ((cs.drop o).take z) R else False
     | .dg n y=>if z=0 then (if o<n then R (.dc (y.cell o)) else False) else if o+z<=n then R (.dg z (y.sub o z)) else False
     | _=>False
 | .extract x i=>match ρ x with
   | .tp l=>match l[i]? with
     | some (.tp _)=>False
     | some p=>R p
     | none=>False
   | _=>False
 | .lookup t m x ok=>match ok,P.underlying t with
   | true,some (.map k _)=>frc P k (ρ x) λp=>match p,ρ m with
     | .str s,.dc y=>∃ b es c,y=.mp b es c/\∃ o:Option ByteArray,zQ7 P t es c s o/\R (.tp [.str (o.getD ByteArray.empty),.bool o.isSome])
     | _,_=>False
   | _,_=>False
 | .makeFunc f first caps=>match f,first.toList with
   | .func f,[]=>if (caps.toList.map ρ).all PV.isCap=true then R (.fn f (caps.toList.map ρ)) else False
   | _,_=>False
 | .call c=>match c.callee,c.args.toList,c.argTypes.toList with
   | .builtin .len,[x],[t]=>match P.underlying t with
     | some (.slice _)=>frc P t (ρ x) λp=>match p with
       | .sv _ _ es _=>R (.int .i64 (es.length:Int))
       | .sb _ _ _ n _=>R (.int .i64 (n:Int))
       | _=>False
     | some .string=>frc P t (ρ x) λp=>match p with
       | .str s=>R (.int .i64 (s.size:Int))
       | _=>False
     | _=>False
   | .builtin .max,[x,y],[s,t]=>frc P s (ρ x) λp=>frc P t (ρ y) λq=>match p,q with
     | .int k a,.int _ b=>R (.int k (if b>a then b else a))
     | _,_=>False
   | .builtin .min,[x,y],[s,t]=>frc P s (ρ x) λp=>frc P t (ρ y) λq=>match p,q with
     | .int k a,.int _ b=>R (.int k (if b<a then b else a))
     | _,_=>False
   | _,_,_=>False
 | _=>False
variable {P:Program}
theorem zAV {t:TypeId} {z:Nat} (h:kz P t=some z):∃ i,P.info? t=some i/\i.size=ez z:=by
 unfold kz at h
 cases hi:P.info? t with
 | none=>simp [hi] at h
 | some i=>
   refine ⟨i,rfl,?_⟩
   simp only [hi] at h
   unfold ez
   split at h
   ·split at h
    ·cases h
    ·rename_i hs;cases h;simp_all
   ·cases h
   ·split at h
    ·rename_i hs;cases h;simp_all
    ·cases h
   ·cases h
theorem zIa {t:TypeId} {i:TypeInfo} (h:P.info? t=some i) (w:World):(sizeOf t).run P w=.ok i.size w:=by
 simp [sizeOf,typeInfo,h]
theorem we {t:TypeId} {z:Nat} (h:kz P t=some z) (w:World):(sizeOf t).run P w=.ok (ez z) w:=by
 obtain ⟨i,hi,hs⟩:=zAV h
 rw [zIa hi,hs]
theorem zEs {t:TypeId} {z:Nat} (h:kz P t=some z) (w:World):(isAgg t).run P w=.ok (decide (z≠0)) w:=by
 unfold kz at h
 cases hi:P.info? t with
 | none=>simp [hi] at h
 | some i=>
   cases I:P.underlying t with
   | none=>simp [hi,I] at h
   | some d=>
     simp only [hi,I] at h
     unfold isAgg
     rw [Sem.run_bind,run_underlying I w]
     cases d<;>simp at h ⊢
     case struct fs=>obtain ⟨O,J⟩:=h;subst J;simp [O]
     all_goals (obtain ⟨_,J⟩:=h;exact J.symm)
theorem tQ {w:World} {b off:Nat} {c:Array Value} {t:TypeId} {fz:Nat × Nat} (h:w.heap[b]?=some (.cells c t fz)):w.cell? ⟨b,off,none⟩=c[off]?:=by
 simp [World.cell?,h]
theorem xA (b o n:Nat):Addr.add ⟨b,o,none⟩ n=⟨b,o+n,none⟩:=by
 unfold Addr.add;split<;>simp_all
theorem wU {t:TypeId} (h:kz P t=some 0) {w:World} {ad:Addr} {v:Value} (hc:w.cell? ad=some v):(loadVar t ad).run P w=.ok v w:=by
 simp [loadVar,zEs h,hc]
theorem tX {t:TypeId} {z:Nat} (h:kz P t=some z) (I:z≠0) {w:World} {ad:Addr} {cs:List Value} (O:cs.length=z)
  (hc:∀ j v,cs[j]?=some v->w.cell? (ad.add j)=some v):(loadVar t ad).run P w=.ok (.agg cs.toArray) w:=by
 have J:=run_loadCells_list (P:=P) w ad cs hc
 rw [O] at J
 have U:ez z=z:=by simp [ez,I]
 simp [loadVar,zEs h,I,we h,U,J]
/-- what is known of an operand -/
structure OpdOk (av:Nat->Prop) (a:Act) (w:World) (e:Env) (pB:List Nat) (bx:List Bx) (x:Operand) (p:PV):Prop where
 h:p=.any\/a.eval x=p.val e
 ok:p.Ok w (zT av pB e bx)
 rf:∀ k∈p.refs,k∉pB/\k<bx.length
theorem zIm (z:Nat) (p:PV):wy z p=p\/(p=.sv none 0 [] 0/\wy z p=.sv none z [] 0)\/(∃ y,p=.sv none y [] 0/\wy z p=.sv none z [] 0):=by
 unfold wy
 split
 ·split
  ·split
   ·exact .inr (.inr ⟨_,rfl,rfl⟩)
   ·exact .inl rfl
  ·exact .inl rfl
 ·exact .inl rfl
theorem pX {w:World} {live:Nat->Prop} {z:Nat}:Good w live (.sl none z [] 0):=⟨.nil,by simp [D.foot,zF]⟩
theorem zA6 (z:Nat) (p:PV) (w:World) (live:Nat->Prop) (e:Env) (h:p.Ok w live) :
  (wy z p).Ok w live/\(wy z p).refs=p.refs/\(wy z p).cv e=p.cv e/\(wy z p).val e=p.val e/\(wy z p=.any↔p=.any)/\((wy z p).isC↔p.isC):=by
 rcases zIm z p with I | ⟨rfl,I⟩ | ⟨y,rfl,I⟩
 ·rw [I];exact ⟨h,rfl,rfl,rfl,m9,m9⟩
 ·rw [I];exact ⟨pX,rfl,rfl,rfl,by simp,m9⟩
 ·rw [I];exact ⟨pX,rfl,rfl,rfl,by simp,m9⟩
theorem rC (I:List Nat) (ps:List PV) (w:World) (live:Nat->Prop) (e:Env) (h:PV.OkL w live ps) :
  PV.OkL w live (r5 I ps)/\PV.refsL (r5 I ps)=PV.refsL ps/\PV.cvs e (r5 I ps)=PV.cvs e ps/\((∀ p∈ps,p.isC)->∀ p∈r5 I ps,p.isC):=by
 induction ps generalizing I with
 | nil=>cases I<;>exact ⟨h,rfl,rfl,id⟩
 | cons p ps J=>
   cases I with
   | nil=>exact ⟨h,rfl,rfl,id⟩
   | cons z I=>
     obtain ⟨O,U⟩:=h
     obtain ⟨a1,Y,a3,_,a5,a6⟩:=zA6 z p w live e O
     obtain ⟨b1,b2,b3,b4⟩:=J I U
     refine ⟨⟨a1,b1⟩,by simp [r5,PV.refsL,Y,b2],by simp [r5,PV.cvs,a3,b3],λhc q hq=>?_⟩
     simp only [r5,oF] at hq
     rcases hq with rfl | hq
     ·exact a6.2 (hc p (by simp))
     ·exact b4 (λx hx=>hc x (by simp [hx])) q hq
theorem zCE (t:TypeId) (p:PV) (w:World) (live:Nat->Prop) (e:Env) (h:p.Ok w live) :
  (retag P t p).Ok w live/\(retag P t p).refs=p.refs/\(retag P t p).val e=p.val e/\(retag P t p=.any↔p=.any):=by
 have one:∀ z,(wy z p).Ok w live/\(wy z p).refs=p.refs/\(wy z p).val e=p.val e/\(wy z p=.any↔p=.any):=λz=>
  let ⟨a,b,_,c,d,_⟩:=zA6 z p w live e h;⟨a,b,c,d⟩
 cases p with
 | pg cs=>
   simp only [PV.Ok] at h
   obtain ⟨a,b,c,d⟩:=rC (zsh P 8 t) cs w live e h.1
   refine ⟨⟨a,d h.2⟩,?_,?_,by simp [retag]⟩
   ·simp [retag,PV.refs,b]
   ·simp [retag,PV.val,PV.val1,c]
 | _=>exact one ((zsh P 1 t).getD 0 0)
theorem zh (x:Value) (w:World) (live:Nat->Prop) (e:Env):(vO x).Ok w live/\(vO x).refs=[]/\(vO x=.any\/(vO x).val e=x)/\(x.oneCell'=true->(vO x).cv e=x/\(vO x).isC):=by
 unfold vO
 split<;>simp_all [PV.Ok,PV.refs,PV.val,PV.val1,PV.cv,PV.isC,Value.oneCell',pX]
theorem zIc (x:Value) (w:World) (live:Nat->Prop) (e:Env):(zKK x).Ok w live/\(zKK x).refs=[]/\(zKK x=.any\/(zKK x).val e=x):=by
 unfold zKK
 split
 ·rename_i cs
  split
  ·rename_i I
   rw [oZ] at I
   refine ⟨⟨PV.OkL_iff.2 λp J=>?_,λp J=>?_⟩,?_,.inr ?_⟩
   ·obtain ⟨v,_,rfl⟩:=oQ.1 J
    exact (zh v w live e).1
   ·obtain ⟨v,U,rfl⟩:=oQ.1 J
    exact ((zh v w live e).2.2.2 (I v U)).2
   ·have:∀ k,k∉PV.refsL (cs.toList.map vO):=λk O=>by
     obtain ⟨p,J,O⟩:=PV.refsL_mem.1 O
     obtain ⟨v,_,rfl⟩:=oQ.1 J
     rw [(zh v w live e).2.1] at O
     simp at O
    exact nM.2 this
   ·simp only [PV.val,PV.val1,PV.cvs_eq,mH]
    have:cs.toList.map (PV.cv e∘vO)=cs.toList:=by
     conv=>rhs;rw [<-List.map_id cs.toList]
     exact o6 λv U=>((zh v w live e).2.2.2 (I v U)).1
    rw [this]
  ·exact ⟨trivial,rfl,.inl rfl⟩
 ·exact ⟨(zh x w live e).1,(zh x w live e).2.1,(zh x w live e).2.2.1⟩
/-- what a value operation's result is good for -/
def ValOk (av:Nat->Prop) (w:World) (e:Env) (pB:List Nat) (bx:List Bx) (v:Value) (p:PV):Prop:=
 (p=.any\/v=p.val e)/\p.Ok w (zT av pB e bx)/\∀ k∈p.refs,k∉pB/\k<bx.length
section
variable {av:Nat->Prop} {w:World} {e:Env} {pB:List Nat} {bx:List Bx} {a:Act}
theorem OpdOk.valOk {x:Operand} {p:PV} (h:OpdOk av a w e pB bx x p):ValOk av w e pB bx (a.eval x) p:=⟨h.h,h.ok,h.rf⟩
theorem zDP {v:Value}:ValOk av w e pB bx v .any:=⟨.inl rfl,trivial,by simp [PV.refs]⟩
theorem zn {k:IntKind} {n:Int}:ValOk av w e pB bx (.int k n) (.int k n):=⟨.inr rfl,trivial,by simp [PV.refs]⟩
theorem zf {b:Bool}:ValOk av w e pB bx (.bool b) (.bool b):=⟨.inr rfl,trivial,by simp [PV.refs]⟩
theorem zDH {s:ByteArray}:ValOk av w e pB bx (.string s) (.str s):=⟨.inr rfl,trivial,by simp [PV.refs]⟩
theorem qd {x:D} (h:Good w (zT av pB e bx) x) (hc:x.isCell):ValOk av w e pB bx x.cv (.dc x):=⟨.inr rfl,⟨h,hc⟩,by simp [PV.refs]⟩
theorem rT {n:Nat} {x:D} (h:Good w (zT av pB e bx) x) (hc:IsAg n x):ValOk av w e pB bx x.val (.dg n x):=⟨.inr rfl,⟨h,hc⟩,by simp [PV.refs]⟩
theorem ValOk.retag {v:Value} {p:PV} (h:ValOk av w e pB bx v p) (t:TypeId):ValOk av w e pB bx v (retag P t p):=by
 obtain ⟨I,J,O⟩:=h
 obtain ⟨a1,U,Y,a4⟩:=zCE (P:=P) t p w (zT av pB e bx) e J
 exact ⟨I.imp a4.2 (λh=>h.trans Y.symm),a1,λk hk=>O k (U ▸ hk)⟩
/-- a forced operand: its value is the form's -/
theorem zt {t:TypeId} {v:Value} {p:PV} {R:PV->Prop} (J:ValOk av w e pB bx v p) (h:frc P t p R):∃ q,R q/\ValOk av w e pB bx v q/\(q=.any->p=.any):=by
 unfold frc at h
 split at h
 ·rename_i x
  obtain ⟨I,O,U⟩:=J
  have I:=I.resolve_left (by simp)
  simp only [PV.Ok] at O
  split at h
  ·obtain ⟨n,rfl,h⟩:=h;exact ⟨_,h,⟨.inr (by rw [I];rfl),trivial,by simp [PV.refs]⟩,by simp⟩
  ·obtain ⟨n,rfl,h⟩:=h;exact ⟨_,h,⟨.inr (by rw [I];rfl),trivial,by simp [PV.refs]⟩,by simp⟩
  ·obtain ⟨n,rfl,h⟩:=h;exact ⟨_,h,⟨.inr (by rw [I];rfl),trivial,by simp [PV.refs]⟩,by simp⟩
  ·split at h
   ·obtain ⟨a,es,cap,rfl,h⟩:=h;exact ⟨_,h,⟨.inr (by rw [I];rfl),O.1,by simp [PV.refs]⟩,by simp⟩
   ·exact h.elim
  ·exact h.elim
 ·exact ⟨_,h,J,id⟩
theorem ve {v:Value} {p:PV} {R:Int->Prop} (I:ValOk av w e pB bx v p) (h:zM5 p R):∃ k n,R n/\v=.int k n:=by
 unfold zM5 at h
 split at h
 ·exact ⟨_,_,h,by have:=I.1.resolve_left (by simp);exact this⟩
 ·obtain ⟨k,n,rfl,h⟩:=h;exact ⟨_,_,h,by have:=I.1.resolve_left (by simp);exact this⟩
 ·exact h.elim
theorem zJ2 {v:Value} {p:PV} {R:Bool->Prop} (I:ValOk av w e pB bx v p) (h:zQy p R):∃ n,R n/\v=.bool n:=by
 unfold zQy at h
 split at h
 ·exact ⟨_,h,by have:=I.1.resolve_left (by simp);exact this⟩
 ·obtain ⟨n,rfl,h⟩:=h;exact ⟨_,h,by have:=I.1.resolve_left (by simp);exact this⟩
 ·exact h.elim
theorem zJv {op:BinOp} {k:IntKind} {x y:Int} {R:PV->Prop} {t:TypeId} (h:zR2 op k x y R) :
  ∃ v q,(binOp op t (.int k x) (.int k y)).run P w=.ok v w/\R q/\ValOk av w e pB bx v q:=by
 cases op<;>simp only [zR2] at h
 case quo=>obtain ⟨I,h⟩:=h;exact ⟨_,_,by simp [binOp,Op.intDiv,I],h,zn⟩
 case rem=>obtain ⟨I,h⟩:=h;exact ⟨_,_,by simp [binOp,Op.intDiv,I],h,zn⟩
 case add=>exact ⟨_,_,by simp [binOp,Op.intArith],h,zn⟩
 case sub=>exact ⟨_,_,by simp [binOp,Op.intArith],h,zn⟩
 case mul=>exact ⟨_,_,by simp [binOp,Op.intArith],h,zn⟩
 case and=>exact ⟨_,_,by simp only [binOp,Op.intBits,ne_eq,mB,na,Sem.run_pure],h,zn⟩
 case xor=>exact ⟨_,_,by simp only [binOp,Op.intBits,ne_eq,mB,na,Sem.run_pure],h,zn⟩
 case eql=>exact ⟨_,_,by simp [binOp,Op.intCmp],h,zf⟩
 case neq=>exact ⟨_,_,by simp only [binOp,Op.intCmp,ne_eq,mB,na,Sem.run_pure],h,zf⟩
 case lss=>exact ⟨_,_,by simp only [binOp,Op.intCmp,ne_eq,mB,na,Sem.run_pure],h,zf⟩
 case leq=>exact ⟨_,_,by simp only [binOp,Op.intCmp,ne_eq,mB,na,Sem.run_pure],h,zf⟩
 case gtr=>exact ⟨_,_,by simp only [binOp,Op.intCmp,ne_eq,mB,na,Sem.run_pure],h,zf⟩
 case geq=>exact ⟨_,_,by simp only [binOp,Op.intCmp,ne_eq,mB,na,Sem.run_pure],h,zf⟩
theorem zKQ {op:BinOp} {v1 v2:Value} {p q:PV} {R:PV->Prop} {t:TypeId} {x y:Operand} (U:ValOk av w e pB bx v1 p) (Y:ValOk av w e pB bx v2 q) (h:zRU P op t p q R) :
  ∃ v r,(do eqGuard op t x y v1 v2;binOp op t v1 v2:Sem Value).run P w=.ok v w/\R r/\ValOk av w e pB bx v r:=by
 unfold zRU at h
 split at h
 ·rename_i k a k' b
  have e1:v1=.int k a:=U.1.resolve_left (by simp)
  have I:v2=.int k' b:=Y.1.resolve_left (by simp)
  subst e1;subst I
  have J:eqGuard op t x y (.int k a) (.int k' b)=pure ():=by cases op<;>rfl
  rw [J]
  split at h
  ·obtain ⟨O,h⟩:=h
   exact ⟨_,_,by simp [binOp,Op.shift,Int.not_lt.2 O],h,zn⟩
  ·obtain ⟨O,h⟩:=h
   exact ⟨_,_,by simp [binOp,Op.shift,Int.not_lt.2 O],h,zn⟩
  ·split at h
   ·rename_i hk
    subst hk
    obtain ⟨v,r,h3,h4⟩:=zJv (P:=P) (w:=w) (e:=e) (pB:=pB) (bx:=bx) (t:=t) h
    exact ⟨v,r,by simpa using h3,h4⟩
   ·exact h.elim
 ·rename_i a b
  have e1:v1=.string a:=U.1.resolve_left (by simp)
  have I:v2=.string b:=Y.1.resolve_left (by simp)
  subst e1;subst I
  have J:eqGuard op t x y (.string a) (.string b)=pure ():=by cases op<;>rfl
  rw [J]
  cases op<;>simp only [zSC] at h
  case add=>
   obtain ⟨O,h⟩:=h
   refine ⟨_,_,?_,h,zDH⟩
   have:¬(((a.size+b.size:Nat):Int)>IntKind.i64.max):=by unfold maxLen at O;simp;omega
   simp only [binOp,Op.stringOp,this,na,Sem.run_bind,Sem.run_pure,Result.andThen_ok]
  case eql=>exact ⟨_,_,by simp only [binOp,Op.stringOp,Sem.run_bind,Sem.run_pure,Result.andThen_ok],h,zf⟩
  case neq=>exact ⟨_,_,by simp only [binOp,Op.stringOp,Sem.run_bind,Sem.run_pure,Result.andThen_ok],h,zf⟩
  case lss=>exact ⟨_,_,by simp only [binOp,Op.stringOp,Sem.run_bind,Sem.run_pure,Result.andThen_ok],h,zf⟩
  case leq=>exact ⟨_,_,by simp only [binOp,Op.stringOp,Sem.run_bind,Sem.run_pure,Result.andThen_ok],h,zf⟩
  case geq=>exact ⟨_,_,by simp only [binOp,Op.stringOp,Sem.run_bind,Sem.run_pure,Result.andThen_ok],h,zf⟩
 ·rename_i a b
  have e1:v1=.bool a:=U.1.resolve_left (by simp)
  have I:v2=.bool b:=Y.1.resolve_left (by simp)
  subst e1;subst I
  have J:eqGuard op t x y (.bool a) (.bool b)=pure ():=by cases op<;>rfl
  rw [J]
  split at h
  ·rename_i hu
   have heq:(Op.equal t (.bool a) (.bool b)).run P w=.ok (a==b) w:=by
    have:Op.maxDepth=9999+1:=rfl
    rw [Op.equal,this,Op.equalIn]
    simp [run_underlying hu]
   cases op<;>simp only [zN6] at h
   case eql=>exact ⟨_,_,by simp [binOp,heq],h,zf⟩
   case neq=>exact ⟨_,_,by simp [binOp,heq],h,zf⟩
  ·exact h.elim
 ·rename_i a z es c b zb eb cb
  have e1:v1=.slice a es.length c:=U.1.resolve_left (by simp)
  have I:v2=.slice b eb.length cb:=Y.1.resolve_left (by simp)
  unfold zSB at h
  split at h
  ·rename_i hu
   split at h
   ·subst e1;subst I
    have heq:(Op.equal t (.slice a es.length c) (.slice none ([]:List D).length 0)).run P w=.ok a.isNone w:=by
     have:Op.maxDepth=9999+1:=rfl
     rw [Op.equal,this,Op.equalIn]
     cases a<;>simp [run_underlying hu]
    have J:eqGuard op t x y (.slice a es.length c) (.slice none ([]:List D).length 0)=pure ():=by cases op<;>rfl
    rw [J]
    cases op<;>simp only at h
    case eql=>exact ⟨_,_,by simp [binOp] at heq ⊢;simp [heq],h,zf⟩
    case neq=>exact ⟨_,_,by simp [binOp] at heq ⊢;simp [heq],h,zf⟩
   ·exact h.elim
  ·exact h.elim
 ·exact h.elim
theorem PV.val_isC {p:PV} (h:p.isC):p.val e=p.cv e:=by
 cases p<;>simp [PV.isC] at h<;>try rfl
 rename_i x
 cases x<;>simp [D.isCell] at h<;>rfl
theorem PV.notAny_iff {p:PV}:p.notAny=true↔p≠.any:=by cases p<;>simp [PV.notAny]
theorem D.val_isCell {x:D} (h:x.isCell):x.val=x.cv:=by cases x<;>simp [D.isCell] at h<;>rfl
theorem IsAg.cell {n:Nat} {x:D} (h:IsAg n x) {i:Nat} (hi:i<n):(x.cell i).isCell/\x.cells[i]?=some (x.cell i):=by
 obtain ⟨cs,rfl,I,hc⟩:=h
 have:cs[i]?=some (cs[i]'(by omega)):=oH (by omega)
 simp only [D.cell,D.cells,oA,this,o9]
 exact ⟨hc _ (mG _),trivial⟩
theorem IsAg.sub {n:Nat} {x:D} (h:IsAg n x) {o z:Nat} (hi:o+z<=n):IsAg z (x.sub o z):=by
 obtain ⟨cs,rfl,J,hc⟩:=h
 exact ⟨_,rfl,by simp [D.cells];omega,λc I=>hc c (ou (oh I))⟩
theorem IsAg.val {n:Nat} {x:D} (h:IsAg n x):x.val=.agg (x.cells.map D.cv).toArray:=by
 obtain ⟨cs,rfl,I,hc⟩:=h;rfl
theorem IsAg.length {n:Nat} {x:D} (h:IsAg n x):x.cells.length=n:=by
 obtain ⟨cs,rfl,I,hc⟩:=h;exact I
theorem zCv {cs:List PV} {R:PV->Prop} {vs:List Value} (Y:cs.length=vs.length) (hc:∀ (i:Nat) (p:PV),cs[i]?=some p->p=.any\/vs[i]?=some (p.cv e))
  (U:∀ p∈cs,p.Ok w (zT av pB e bx)/\(p=.any\/p.isC)/\∀ k∈p.refs,k∉pB/\k<bx.length) (h:pgR cs R):∃ q,R q/\ValOk av w e pB bx (.agg vs.toArray) q:=by
 unfold pgR at h
 split at h
 ·rename_i I
  rw [oZ] at I
  refine ⟨_,h,.inr ?_,⟨PV.OkL_iff.2 λp O=>(U p O).1,λp O=>(U p O).2.1.resolve_left (PV.notAny_iff.1 (I p O))⟩,λk J=>?_⟩
  ·simp only [PV.val,PV.val1,PV.cvs_eq]
   congr 2
   apply nD
   intro i
   rw [oE]
   cases hi:cs[i]? with
   | none=>simp at hi ⊢;omega
   | some p=>exact (hc i p hi).resolve_left (PV.notAny_iff.1 (I p (oB hi)))
  ·simp only [PV.refs] at J
   obtain ⟨p,O,J⟩:=PV.refsL_mem.1 J
   exact (U p O).2.2 k J
 ·exact ⟨_,h,zDP⟩
theorem zH8 {t:TypeId} {z zz k i o:Nat} {B:Bx} {R:PV->Prop} (hm:Mem av pB w e bx) (hB:bx[k]?=some B) (hk:k∉pB) (hz:kz P t=some z)
  (h:zIZ z zz B i o R):∃ v q,(loadVar t ⟨(e.at k).getD 0,i*ez zz+o,none⟩).run P w=.ok v w/\R q/\ValOk av w e pB bx v q:=by
 have hr:=hm.br k B hB hk
 have hok:=hm.bo k B hB hk
 have hrf:=hm.bf k B hB hk
 cases B with
 | gone=>exact h.elim
 | var cs=>
   simp only [zIZ] at h
   obtain ⟨b,c,t',h1,h2,h3,h4⟩:=hr
   obtain ⟨ho1,ho2⟩:=hok
   rw [PV.OkL_iff] at ho1
   simp only [Bx.refs] at hrf
   rw [h1]
   split at h
   ·simp only [o9,mo,nJ]
    split at h
    ·rename_i hz0
     subst hz0
     split at h
     ·rename_i hlt
      have hp:cs[o]?=some (cs.getD o .any):=by rw [oA];simp [hlt]
      have hc:c[o]?=some (c[o]'(by omega)):=oq (by omega)
      refine ⟨_,_,wU hz ((tQ h2).trans hc),h,?_,ho1 _ (oB hp),fun j hj=>hrf j (PV.refsL_mem.2 ⟨_,oB hp,hj⟩)⟩
      rcases h4 o _ hp with h5 | h5
      ·exact .inl h5
      ·rcases ho2 _ (oB hp) with h6 | h6
       ·exact .inl h6
       ·rw [hc] at h5
        exact .inr ((oW h5).trans (PV.val_isC h6).symm)
     ·exact h.elim
    ·rename_i hz0
     split at h
     ·rename_i hle
      have hvs:((c.toList.drop o).take z).length=z:=by simp;omega
      have:=tX hz hz0 (w:=w) (ad:=⟨b,o,none⟩) (cs:=(c.toList.drop o).take z) hvs (fun j v hj=>by
       rw [xA,tQ h2]
       simp only [oa,nI] at hj
       split at hj
       ·simpa using hj
       ·cases hj)
      obtain ⟨q,hq,hv⟩:=zCv (w:=w) (e:=e) (pB:=pB) (bx:=bx) (vs:=(c.toList.drop o).take z) (by rw [hvs];simp;omega)
       (fun i p hp=>by
        simp only [oa,nI] at hp ⊢
        split at hp
        ·rename_i hi
         rcases h4 _ _ hp with h5 | h5
         ·exact .inl h5
         ·exact .inr (by simpa [hi] using h5)
        ·cases hp)
       (fun p hp=>by
        have hmem:=ou (oh hp)
        exact ⟨ho1 _ hmem,ho2 _ hmem,fun j hj=>hrf j (PV.refsL_mem.2 ⟨_,hmem,hj⟩)⟩) h
      exact ⟨_,q,this,hq,hv⟩
     ·exact h.elim
   ·exact h.elim
 | vd x n=>
   simp only [zIZ] at h
   obtain ⟨b,c,t',h1,h2,h3,h4,h5⟩:=hr
   rw [h1]
   split at h
   ·simp only [o9,mo,nJ]
    split at h
    ·rename_i hz0
     subst hz0
     split at h
     ·rename_i hlt
      obtain ⟨h6,h7⟩:=h4.cell hlt
      exact ⟨_,_,wU hz ((tQ h2).trans (h5 _ _ h7)),h,qd (hok.cell _) h6⟩
     ·exact h.elim
    ·rename_i hz0
     have hload:∀ o,o+z<=n->(loadVar t ⟨b,o,none⟩).run P w=.ok (x.sub o z).val w:=fun o hle=>by
      have hl:=h4.length
      have:=tX hz hz0 (w:=w) (ad:=⟨b,o,none⟩) (cs:=((x.cells.drop o).take z).map D.cv) (by simp;omega) (fun j v hj=>by
       rw [xA,tQ h2]
       simp only [oE,oa,nI] at hj
       split at hj
       ·cases hu:x.cells[o+j]? with
        | none=>simp [hu] at hj
        | some u=>rw [hu] at hj;simp at hj;subst hj;exact h5 _ _ hu
       ·cases hj)
      exact this
     split at h
     ·rename_i h6
      obtain ⟨rfl,rfl⟩:=h6
      refine ⟨_,_,hload 0 (by omega),h,?_⟩
      have hx:x.sub 0 z=x:=by
       obtain ⟨cs,rfl,hl,_⟩:=h4
       simp [D.sub,D.cells,<-hl]
      rw [hx]
      exact rT hok h4
     ·split at h
      ·rename_i hle
       exact ⟨_,_,hload o hle,h,rT (hok.sub o z) (h4.sub hle)⟩
      ·exact h.elim
   ·exact h.elim
 | arr t' z' es n=>
   simp only [zIZ] at h
   split at h
   ·rename_i hzz
    subst hzz
    obtain ⟨hi,h⟩:=h
    rcases hr with ⟨_,rfl,_⟩ | ⟨b,c,h1,h2,h3,h4,h5,h6,h7⟩
    ·simp at hi
    ·rw [h1]
     simp only [o9]
     have hx:es[i]?=some (es.getD i default):=by rw [oA];simp [hi]
     have hmem:=oB hx
     have hex:=h6 _ hmem
     have hgx:=hok _ hmem
     generalize es.getD i default=x at *
     have hcell:∀ (j:Nat) (u:D),x.cells[j]?=some u->w.cell? ⟨b,i*ez zz+j,none⟩=some u.cv:=fun j u hj=>by
      rw [tQ h2]
      exact h7 _ _ (rX h6 hx hj)
     split at h
     ·rename_i hz0
      subst hz0
      split at h
      ·rename_i h8
       obtain ⟨rfl,rfl⟩:=h8
       simp only [eOk,mV] at hex
       have hc0:x.cells[0]?=some x:=by cases x<;>simp [D.isCell,D.cells] at hex ⊢
       exact ⟨_,_,wU hz (hcell 0 _ hc0),h,qd hgx hex⟩
      ·exact h.elim
     ·rename_i hz0
      simp only [eOk,hz0,na] at hex
      split at h
      ·rename_i hz1
       subst hz1
       split at h
       ·rename_i hlt
        obtain ⟨h8,h9⟩:=hex.cell hlt
        exact ⟨_,_,wU hz (hcell _ _ h9),h,qd (hgx.cell _) h8⟩
       ·exact h.elim
      ·rename_i hz1
       have hload:∀ o,o+z<=zz->(loadVar t ⟨b,i*ez zz+o,none⟩).run P w=.ok (x.sub o z).val w:=fun o hle=>by
        have hl:=hex.length
        have:=tX hz hz1 (w:=w) (ad:=⟨b,i*ez zz+o,none⟩) (cs:=((x.cells.drop o).take z).map D.cv) (by simp;omega) (fun j v hj=>by
         rw [xA]
         simp only [oE,oa,nI] at hj
         split at hj
         ·cases hu:x.cells[o+j]? with
          | none=>simp [hu] at hj
          | some u=>rw [hu] at hj;simp at hj;subst hj;rw [mi];exact hcell _ _ hu
         ·cases hj)
        exact this
       split at h
       ·rename_i h8
        obtain ⟨rfl,rfl⟩:=h8
        refine ⟨_,_,hload 0 (by omega),h,?_⟩
        have hx:x.sub 0 z=x:=by
         obtain ⟨cs,rfl,hl,_⟩:=hex
         simp [D.sub,D.cells,<-hl]
        rw [hx]
        exact rT hgx hex
       ·split at h
        ·rename_i hle
         exact ⟨_,_,hload o hle,h,rT (hgx.sub o z) (hex.sub hle)⟩
        ·exact h.elim
   ·exact h.elim
end
end Go.Proofs.YtnmnahkkcfghjaaGreat
