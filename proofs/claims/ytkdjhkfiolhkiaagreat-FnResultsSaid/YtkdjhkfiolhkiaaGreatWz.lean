/- What the reader of data has read is a snapshot; the form of a snapshot by its type. -/
import Derived.Test.YtkdjhkfiolhkiaaGreatJh
import Derived.ProofKit
import Derived.ReadAgain
import Derived.ChangeSame
import Derived.Test.YtkdjhkfiolhkiaaGreatRows
import Derived.SizedLaws
import Derived.Test.YtkdjhkfiolhkiaaGreatWv
set_option linter.unusedVariables false
set_option linter.unusedSimpArgs false
namespace Go.Proofs.YtkdjhkfiolhkiaaGreat
open Go
def zDZ (P:Program) (e:TypeId):Nat:=match P.underlying e with | some (.struct _)=>P.cellsOf e | _=>0
def zAc (P:Program):List Field->Nat->Nat->Bool
 | [],o,n=>o==n
 | f::fs,o,n=>f.offset==o&&zAc P fs (o+P.cellsOf f.type) n
def zI0 (P:Program) (T:List TypeId) (t:TypeId):Bool:=
 match P.underlying t with
 | some .bool=>true
 | some (.int _)=>true
 | some .string=>true
 | some (.slice e)=>T.contains e&&(P.cellsOf e==ez (zDZ P e))&&decide (0<P.bytesOf e)
 | some (.struct fs)=>zAc P fs.toList 0 (P.cellsOf t)&&fs.toList.all fun f=>T.contains f.type
 | _=>false
def zRa (R:TypeId->List D->Prop):List TypeId->List D->Prop
 | [],xs=>xs=[]
 | t::ts,xs=>∃ a b,xs=a++b/\R t a/\zRa R ts b
/-- the form of a snapshot's cells, by type; the number bounds the depth -/
def Shp (P:Program):Nat->TypeId->List D->Prop
 | 0,_,_=>False
 | n+1,t,xs=>match P.underlying t with
   | some .bool=>∃ v,xs=[.lit (.bool v)]
   | some (.int k)=>∃ m,xs=[.lit (.int k m)]/\(Lit.int k m).wf=true
   | some .string=>∃ s:ByteArray,xs=[.lit (.string s)]/\s.size<=reachBytes
   | some (.slice e)=>∃ a es c,xs=[.sl a (zDZ P e) es c]/\es.length<=reachBytes/\∀ x∈es,Shp P n e x.cells
   | some (.struct fs)=>zRa (Shp P n) (fs.toList.map (·.type)) xs
   | _=>False
theorem zQc {P:Program} {n:Nat} {t:TypeId} {xs:List D} {k:IntKind} (ht:P.underlying t=some (.int k)) (h:Shp P n t xs):∃ m,xs=[.lit (.int k m)]:=by
 cases n with
 | zero=>exact h.elim
 | succ n=>unfold Shp at h;rw [ht] at h;obtain ⟨m,rfl,_⟩:=h;exact ⟨m,rfl⟩
theorem zLg:reachBytes<=4611686018427387904:=by decide
theorem zJT {P:Program} {n:Nat} {t e:TypeId} {xs:List D} (ht:P.underlying t=some (.slice e)) (h:Shp P n t xs):∃ m a es c,n=m+1/\xs=[.sl a (zDZ P e) es c]/\es.length<=4611686018427387904/\∀ x∈es,Shp P m e x.cells:=by
 cases n with
 | zero=>exact h.elim
 | succ n=>
   unfold Shp at h;rw [ht] at h
   obtain ⟨a,es,c,rfl,hl,hx⟩:=h
   exact ⟨n,a,es,c,rfl,rfl,oS hl zLg,hx⟩
structure Snap (w:World) (cs:List Value) (xs:List D):Prop where
 cv:xs.map D.cv=cs
 cell:∀ x∈xs,x.isCell
 hold:∀ x∈xs,Holds w x
theorem Snap.one {w:World} {v:Value} {x:D} (h1:x.cv=v) (h2:x.isCell) (h3:Holds w x):Snap w [v] [x]:=⟨by simp [h1],by simpa using h2,by simpa using h3⟩
theorem Snap.app {w:World} {us bs:List Value} {xs ys:List D} (h:Snap w us xs) (h':Snap w bs ys):Snap w (us++bs) (xs++ys):=
 ⟨by rw [nj,h.cv,h'.cv],fun x hx=>(oI.1 hx).elim (h.cell x) (h'.cell x),fun x hx=>(oI.1 hx).elim (h.hold x) (h'.hold x)⟩
theorem zDB {α β γ:Type} {f:α->Option β} {Q:α->γ->Prop}:∀ {l:List α} {r:List β},l.mapM f=some r->(∀ i∈l,∀ y∈r,f i=some y->∃ x,Q i x)->∃ xs:List γ,xs.length=l.length/\∀ (k:Nat) (i:α),l[k]?=some i->∃ x,xs[k]?=some x/\Q i x
 | [],r,h,hq=>⟨[],rfl,fun k i hk=>by simp at hk⟩
 | a :: l,r,h,hq=>by
   rw [List.mapM_cons] at h
   cases hx:f a with
   | none=>simp [hx] at h
   | some y=>
     cases hxs:l.mapM f with
     | none=>simp [hx,hxs] at h
     | some ys=>
       have hr:r=y::ys:=by simpa [hx,hxs] using h.symm
       subst hr
       obtain ⟨x,h1⟩:=hq a (by simp) y (by simp) hx
       obtain ⟨xs,h2,h3⟩:=zDB hxs fun i hi y hy=>hq i (by simp [hi]) y (by simp [hy])
       refine ⟨x::xs,by simp [h2],fun k i hk=>?_⟩
       cases k with
       | zero=>simp at hk;subst hk;exact ⟨x,rfl,h1⟩
       | succ k=>simp at hk;simpa using h3 k i hk
variable {H:Type} {enc:TypeId × Value->H} {P:Program} {w:World} {base:Nat} {spare:Nat->Bool} {held:Bool} {T:List TypeId}
theorem zHk:∀ {L:List Field} {o n:Nat},zAc P L o n=true->o<=n
 | [],o,n,h=>by simp [zAc] at h;omega
 | f::L,o,n,h=>by
   simp only [zAc,oL] at h
   have:=zHk h.2
   omega
theorem zDS {g:TypeId->List Value->Option (DataW H × List MemPlace)} {R:TypeId->List D->Prop} {cs:List Value}:∀ {L:List Field} {o N:Nat} {r:List (DataW H × List MemPlace)},zAc P L o N=true->N<=cs.length ->
  (L.mapM fun f=>g f.type ((cs.drop f.offset).take (P.cellsOf f.type)))=some r->(∀ x∈DataW.weightsEach P (L.map (·.type)) (r.map (·.1)),x<=reachBytes)->(∀ f∈L,∀ vs y,g f.type vs=some y->(∀ x∈y.1.weights P f.type,x<=reachBytes)->∃ xs,Snap w vs xs/\R f.type xs)->∃ xs,Snap w ((cs.drop o).take (N - o)) xs/\zRa R (L.map (·.type)) xs
 | [],o,N,r,hc,hN,h,hw,hg=>by
   simp [zAc] at hc;subst hc
   exact ⟨[],⟨by simp,by simp,by simp⟩,rfl⟩
 | f :: L,o,N,r,hc,hN,h,hw,hg=>by
   simp only [zAc,oL,nz] at hc
   obtain ⟨hc1,hc2⟩:=hc
   rw [List.mapM_cons] at h
   cases hx:g f.type ((cs.drop f.offset).take (P.cellsOf f.type)) with
   | none=>simp [hx] at h
   | some y=>
     cases hxs:(L.mapM fun f=>g f.type ((cs.drop f.offset).take (P.cellsOf f.type))) with
     | none=>simp [hx,hxs] at h
     | some ys=>
       have hr:r=y::ys:=by simpa [hx,hxs] using h.symm
       subst hr
       simp only [o6,DataW.weightsEach,oI] at hw
       obtain ⟨us,h1,h2⟩:=hg f (by simp) _ y hx fun x hx=>hw x (.inl hx)
       obtain ⟨bs,h3,h4⟩:=zDS hc2 hN hxs (fun x hx=>hw x (.inr hx)) fun f hf=>hg f (by simp [hf])
       have hle:=zHk hc2
       refine ⟨us++bs,?_,us,bs,rfl,h2,h4⟩
       have:=h1.app h3
       rw [hc1] at this
       have e:(cs.drop o).take (N - o)=(cs.drop o).take (P.cellsOf f.type)++(cs.drop (o+P.cellsOf f.type)).take (N - (o+P.cellsOf f.type)):=by
        rw [show N - o=P.cellsOf f.type+(N - (o+P.cellsOf f.type)) by omega,List.take_add,List.drop_drop]
       rw [e];exact this
theorem zPf {n:Nat} {t:TypeId} {xs:List D} (h:Shp P n t xs) (hc:∀ x∈xs,x.isCell) (hs:zDZ P t=0) (hp:∀ fs,P.underlying t≠some (.struct fs)):∃ x,xs=[x]:=by
 cases n with
 | zero=>exact h.elim
 | succ n=>
   unfold Shp at h
   split at h
   ·obtain ⟨v,rfl⟩:=h;exact ⟨_,rfl⟩
   ·obtain ⟨v,rfl,_⟩:=h;exact ⟨_,rfl⟩
   ·obtain ⟨v,rfl,_⟩:=h;exact ⟨_,rfl⟩
   ·obtain ⟨a,es,c,rfl,_⟩:=h;exact ⟨_,rfl⟩
   ·rename_i fs hu;exact absurd hu (hp fs)
   ·exact h.elim
/-- one element: its cells as one datum -/
theorem zO7 {n:Nat} {e:TypeId} {cs:List Value} {xs:List D} (hs:Snap w cs xs) (h:Shp P n e xs) (hl:cs.length=P.cellsOf e) (hz:P.cellsOf e=ez (zDZ P e)) :
  ∃ x,x.cells=xs/\eOk (zDZ P e) x/\Holds w x:=by
 have hxl:xs.length=cs.length:=by rw [<-hs.cv];simp
 by_cases hst:∃ fs,P.underlying e=some (.struct fs)
 ·obtain ⟨fs,hst⟩:=hst
  have hez:zDZ P e=P.cellsOf e:=by unfold zDZ;rw [hst]
  have hne:P.cellsOf e≠0:=by
   intro h0;rw [hez,h0] at hz;simp [ez] at hz
  refine ⟨.ag xs,rfl,?_,.ag hs.hold⟩
  unfold eOk
  rw [hez,if_neg hne]
  exact ⟨xs,rfl,by omega,hs.cell⟩
 ·have hez:zDZ P e=0:=by
   unfold zDZ;split
   ·rename_i fs hu;exact absurd ⟨fs,hu⟩ hst
   ·rfl
  obtain ⟨x,rfl⟩:=zPf h hs.cell hez fun fs hu=>hst ⟨fs,hu⟩
  have hc:=hs.cell x (by simp)
  refine ⟨x,?_,?_,hs.hold x (by simp)⟩
  ·cases x<;>first | exact hc.elim | rfl
  ·unfold eOk;rw [hez,if_pos rfl];exact hc
theorem zK2 {a:Addr} {n:Nat} {cs:List Value} (h:w.cells? base a n=some cs):cs.length=n/\∀ j u,cs[j]?=some u->w.cell? (a.add j)=some u:=by
 unfold World.cells? at h
 split at h
 ·refine ⟨by have:=mapM_some_length h;simpa using this,fun j u hj=>?_⟩
  have hlt:j<n:=by
   have:=mapM_some_length h
   have h2:=(oC.1 hj).1
   simp at this;omega
  have:=mapM_some_get h j j (by simp [hlt])
  rw [this];exact hj
 ·cases h
theorem zMj {a:Addr} {u:Value} (h:w.cell? a=some u):a.spot=none/\∃ c t fz,w.heap[a.block]?=some (.cells c t fz):=by
 refine ⟨World.cell?_spot h,?_⟩
 unfold World.cell? at h
 split at h
 ·rename_i c t fz hb;exact ⟨_,_,_,hb⟩
 ·cases h
/-- the elements of a slice stand in memory one behind the other -/
theorem zQ0 {a:Addr} {z:Nat} {es:List D} (he:∀ x∈es,eOk z x) (h:∀ (k:Nat) (x:D),es[k]?=some x->∀ (j:Nat) (u:D),x.cells[j]?=some u->w.cell? ((a.add (k*ez z)).add j)=some u.cv):Row w a (zt es)/\(es≠[]->a.spot=none):=by
 by_cases hne:es=[]
 ·subst hne;exact ⟨.inl rfl,fun h=>absurd rfl h⟩
 obtain ⟨x,l,rfl⟩:∃ x l,es=x::l:=by cases es with | nil=>exact absurd rfl hne | cons x l=>exact ⟨x,l,rfl⟩
 have hx:=yI (he x (by simp))
 have hp:=rN z
 obtain ⟨u0,hu0⟩:∃ u,x.cells[0]?=some u:=⟨_,oF (by omega)⟩
 have h0:=h 0 x (by simp) 0 u0 hu0
 have e0:(a.add (0*ez z)).add 0=a:=by simp [Addr.add]
 rw [e0] at h0
 obtain ⟨hs,c,t,fz,hb⟩:=zMj h0
 refine ⟨.inr ⟨c,t,fz,hb,fun i u hu=>?_⟩,fun _=>hs⟩
 have hfl:=zL he
 have hi:i<(x::l).length*ez z:=by rw [<-hfl];exact (oC.1 hu).1
 have hk:i / ez z<(x::l).length:=(Nat.div_lt_iff_lt_mul hp).2 hi
 have hj:i % ez z<ez z:=Nat.mod_lt _ hp
 have hy:=oF hk
 have hyl:=yI (he _ (oB hy))
 have hv:=oF (l:=((x::l)[i / ez z]).cells) (i:=i % ez z) (by omega)
 have hfg:=sZ he hy hv
 have hdm:i / ez z*ez z+i % ez z=i:=by rw [Nat.mul_comm];exact Nat.div_add_mod i (ez z)
 rw [hdm,hu] at hfg
 have hcv:=h _ _ hy _ _ hv
 have hu':=oT hfg
 rw [<-hu'] at hcv
 obtain ⟨b,o,s⟩:=a
 simp only at hs hb ⊢
 subst hs
 rw [yo,yo,mb,hdm] at hcv
 have:=zCq (w:=w) (ad:=⟨b,o,none⟩) rfl hb i
 rw [yo] at this
 rw [this] at hcv
 exact hcv
theorem rJ {e:TypeId} {d:DataW H}:∀ {l:List (DataW H)},d∈l->∀ {x:Nat},x∈d.weights P e->x∈DataW.weightsAll P e l
 | d'::l,h,x,hx=>by
   simp only [DataW.weightsAll,oI]
   rcases oG.1 h with rfl | h
   ·exact .inl hx
   ·exact .inr (rJ h hx)
theorem zGe (hT:T.all (zI0 P T)=true):∀ (n:Nat) (t:TypeId) (cs:List Value) (y:DataW H × List MemPlace),t∈T->DataW.trod enc P w base spare held n t cs=some y->(∀ x∈y.1.weights P t,x<=reachBytes)->∃ xs,Snap w cs xs/\Shp P n t xs:=by
 intro n
 induction n with
 | zero=>intro t cs y _ h _;simp [DataW.trod] at h
 | succ n ih=>
   intro t cs y ht h hw
   have hp:=oW.1 hT t ht
   unfold zI0 at hp
   unfold Shp
   unfold DataW.trod at h
   split at h
   ·rename_i hu;rw [hu];exact ⟨[.lit _],.one rfl rfl .lit,_,rfl⟩
   ·rename_i hu;rw [hu]
    split at h
    ·rename_i hk;obtain ⟨rfl,hk⟩:=hk
     exact ⟨[.lit _],.one rfl rfl .lit,_,rfl,hk⟩
    ·cases h
   ·rename_i hu;rw [hu] at hp;simp at hp
   ·rename_i hu;rw [hu]
    split at h
    ·cases h
     exact ⟨[.lit _],.one rfl rfl .lit,_,rfl,hw _ (by simp only [DataW.weights,nJ];exact nT.symm)⟩
    ·cases h
   ·rename_i hu;rw [hu] at hp;simp at hp
   ·rename_i hu;rw [hu] at hp;simp at hp
   ·rename_i e hu;rw [hu]
    exact ⟨_,.one (x:=.sl none (zDZ P e) [] 0) rfl trivial .nil,_,_,_,rfl,Nat.zero_le _,fun x hx=>absurd hx (by simp)⟩
   ·rename_i e a len cap hu;rw [hu] at hp ⊢
    simp only [oL,nz,List.contains_iff_mem] at hp
    obtain ⟨⟨heT,hz⟩,hbe⟩:=hp
    have hbe:=mv hbe
    simp only at h
    split at h
    rotate_left
    ·cases h
    rename_i hb
    obtain ⟨hb1,hb2,hb3⟩:=hb
    cases hm:(List.range len).mapM fun i=>(w.cells? base (a.add (i*P.cellsOf e)) (P.cellsOf e)).bind (DataW.trod enc P w base spare held n e) with
    | none=>rw [hm] at h;simp at h
    | some elems=>
      have hm2:=hm
      rw [hm] at h
      simp only [ml] at h
      obtain ⟨rest,_,hy⟩:=Option.map_eq_some_iff.1 h
      subst hy
      simp only [DataW.weights,hu,oG,oI] at hw
      have hln:elems.length=len:=by simpa using mapM_some_length hm
      have hw0:len<=reachBytes:=by
       have h1:=hw _ (.inl rfl)
       have h2:((elems.map (·.1)).length+(rest.map (·.1)).length)*1<=((elems.map (·.1)).length+(rest.map (·.1)).length)*P.bytesOf e:=Nat.mul_le_mul_left _ hbe
       simp only [nD,Nat.mul_one] at h1 h2
       omega
      have hwe:∀ y∈elems,∀ x∈y.1.weights P e,x<=reachBytes:=fun y hy x hx=>hw x (.inr (.inl (rJ (oQ.2 ⟨y,hy,rfl⟩) hx)))
      obtain ⟨es,hlen,hes⟩:=zDB (Q:=fun i (x:D)=>Shp P n e x.cells/\eOk (zDZ P e) x/\Holds w x/\∀ (j:Nat) (u:D),x.cells[j]?=some u->w.cell? ((a.add (i*ez (zDZ P e))).add j)=some u.cv) hm2 fun i _ y hye hy=>by
       cases hc:w.cells? base (a.add (i*P.cellsOf e)) (P.cellsOf e) with
       | none=>rw [hc] at hy;simp at hy
       | some vs=>
         rw [hc] at hy
         simp only [ml] at hy
         obtain ⟨xs,h1,h2⟩:=ih e vs y heT hy (hwe y hye)
         obtain ⟨hvl,hvg⟩:=zK2 hc
         obtain ⟨x,rfl,h3,h4⟩:=zO7 h1 h2 hvl hz
         refine ⟨x,h2,h3,h4,fun j u hu=>?_⟩
         rw [<-hz]
         refine hvg j _ ?_
         rw [<-h1.cv,oE,hu];rfl
      have hlen:es.length=len:=by simpa using hlen
      have hget:∀ k x,es[k]?=some x->Shp P n e x.cells/\eOk (zDZ P e) x/\Holds w x/\∀ (j:Nat) (u:D),x.cells[j]?=some u->w.cell? ((a.add (k*ez (zDZ P e))).add j)=some u.cv:=fun k x hk=>by
       have hlt:k<len:=by rw [<-hlen];exact (oC.1 hk).1
       obtain ⟨x',h1,h2⟩:=hes k k (by simp [hlt])
       rw [hk] at h1;cases h1;exact h2
      have hmem:∀ x∈es,Shp P n e x.cells/\eOk (zDZ P e) x/\Holds w x:=fun x hx=>by
       obtain ⟨k,hk⟩:=oN.1 hx
       obtain ⟨h1,h2,h3,_⟩:=hget k x hk;exact ⟨h1,h2,h3⟩
      obtain ⟨hrow,hspot⟩:=zQ0 (a:=a) (fun x hx=>(hmem x hx).2.1) fun k x hk=>(hget k x hk).2.2.2
      refine ⟨[.sl (some a) (zDZ P e) es cap],.one (by simp [D.cv,hlen]) trivial (.sl hspot (by omega) (fun x hx=>(hmem x hx).2.1) (fun x hx=>(hmem x hx).2.2) hrow),_,_,_,rfl,by omega,fun x hx=>(hmem x hx).1⟩
   ·rename_i cs _ cs' fs hu;rw [hu] at hp ⊢
    simp only [oL,oW,List.contains_iff_mem] at hp
    obtain ⟨hc,hft⟩:=hp
    split at h
    rotate_left
    ·cases h
    rename_i hl
    cases hm:fs.toList.mapM fun f=>DataW.trod enc P w base spare held n f.type ((cs.drop f.offset).take (P.cellsOf f.type)) with
    | none=>rw [hm] at h;simp at h
    | some r=>
      rw [hm] at h
      simp only [oc,o0] at h
      subst h
      simp only [DataW.weights,hu] at hw
      obtain ⟨xs,h1,h2⟩:=zDS (R:=Shp P n) hc (by omega) hm hw fun f hf vs y hy hwy=>ih f.type vs y (hft f hf) hy hwy
      refine ⟨xs,?_,h2⟩
      simpa [<-hl] using h1
   all_goals (rename_i hu;first | (rw [hu] at hp;simp at hp;done) | (exfalso;simp_all;done))
open Go Go.ChangeShapes Go.WideShapes Go.ChangeAt Go.RowKit
structure Ret1 (W W':World) (e:Ending):Prop where
 e:e=.returned (.bool true)
 old:∀ b,b<W.heap.size->W'.heap[b]?=W.heap[b]?
 size:W.heap.size<=W'.heap.size
 fz:∀ (b:Nat) (c:Array Value) (t:TypeId) (z:Nat × Nat),W.heap.size<=b->W'.heap[b]?=some (.cells c t z)->z=(0,0)
 ku:KU W W'
theorem zPX {av:Nat->Prop} {W W':World} {e:Ending} (h:Fin [.bool] (fun r _=>r=true) av W e W'):Ret1 W W' e:=by
 cases e with
 | returned v=>
   obtain ⟨ps,rows,e',hd⟩:=h
   have hq:=hd.q
   have hv:=hd.v
   refine ⟨?_,hd.old,hd.size,hd.fz,hd.ku⟩
   cases ps with
   | nil=>simp [QT.app] at hq
   | cons p ps=>
     cases p<;>simp [QT.app] at hq
     cases ps<;>cases rows<;>simp [QT.app] at hq
     subst hq
     rw [hv];rfl
 | _=>exact h.elim
theorem zO8 {P:Program} {W':World} {f:Func} {tb:TypeId} (hrt:f.resultTypes=#[tb]) (htb:P.underlying tb=some .bool) (b:Bool) :
  ∀ (j:Nat) (t:TypeId) (r:Value),f.resultTypes[j]?=some t->((Value.bool b).resultList f.resultTypes.size)[j]?=some r->Value.okWide P W' .any 0 t r:=by
 intro j t r h1 h2
 rw [hrt] at h1 h2
 have hj:j=0:=by
  have:=(oR.1 h1).1
  simp at this;omega
 subst hj
 simp at h1;subst h1
 simp [Value.resultList] at h2;subst h2
 simp [Value.okWide,htb,Cell.okWide,Cell.ok]
theorem zLC {H:Type} {enc:TypeId × Value->H} {P:Program} {fn:Func} {s:ChangeSpec} {apart fresh handsOn again:Bool} {W W':World} {args:Array Value} {ds gs:List (DataW H)} {before:List MemPlace} {tb:TypeId} {e:Ending}
  (K:Kids P (·<P.types.size)) (full:∀ t e,t<P.types.size->P.underlying t=some (.slice e)->0<P.cellsOf e)
  (hpar:∀ t∈fn.params.toList,t<P.types.size) (hv:s.vars=[]) (hrt:fn.resultTypes=#[tb]) (htb:P.underlying tb=some .bool)
  (hs:s.fn H (ds++gs)={ results:=[.lit (.bool true)],args:=ds })
  (hW:DataW.Whole enc P fn.params.toList s.vars apart W args.toList ds gs before) (hr:Ret1 W W' e) :
  ∃ v,e=.returned v/\s.post enc P fn apart fresh handsOn again W args v W':=by
 refine ⟨_,hr.e,?_⟩
 have hW':=hW
 obtain ⟨p,q,hA,hV,rfl,hfz,_⟩:=hW
 rw [hv] at hV
 obtain ⟨rfl,rfl⟩:=trodVars_none hV
 have hlt:∀ x∈p++[],x.block<W.heap.size:=hW'.lt
 have carry:∀ {ts:List TypeId} {vs:List Value} {ds:List (DataW H)} {ps:List MemPlace},DataW.TrodAll enc P W 0 (fun _=>true) true ts vs ds ps->(∀ x∈ps,x.block<W.heap.size)->DataW.TrodAll enc P W' 0 (fun _=>true) true ts vs ds ps:=by
  intro ts
  induction ts with
  | nil=>intro vs ds ps h _;obtain ⟨rfl,rfl,rfl⟩:=trodAll_nil h;exact trodAll_mk0
  | cons t ts ih=>
    intro vs ds ps h hl
    obtain ⟨v,vs1,d,ds1,a,b,rfl,rfl,rfl,⟨n,h1⟩,h2⟩:=trodAll_cons h
    refine ⟨a,b,⟨n,DataW.trod_carry n _ _ _ h1 fun x hx=>?_⟩,ih h2 fun x hx=>hl x (by simp [hx]),rfl⟩
    have hb:=hr.old _ (hl x (by simp [hx]))
    cases x with
    | cell b off=>simp only [World.sameAt,World.cell?,MemPlace.block] at hb ⊢;rw [hb]
    | map b=>exact hb
 have hA':=carry hA fun x hx=>hlt x (by simp [hx])
 refine post_of_same (pa:=p) (pv:=[]) hW' (fun b sp hd=>?_) (fun sp hsp=>?_) (fun sp _=>?_) rfl ⟨hr.ku.os,hr.ku.out,fun i hi=>?_⟩ (fun a=>?_) (zO8 hrt htb true)
 ·rw [hs,hrt]
  exact trodAll_mk1 ⟨1,by simp [DataW.trod,Value.cells,htb]⟩
 ·rw [hs]
  exact DataW.TrodAll.respare K full hpar hA' fun x hx=>hsp x (by simp [hx])
 ·rw [hs,hv];rfl
 ·rw [hr.old i hi]
  cases hb:W.heap[i]? with
  | none=>rfl
  | some o=>
    cases o with
    | cells c t fr=>exact ⟨rfl,rfl,rfl,fun _ _=>rfl⟩
    | map es clock=>exact .inr ⟨rfl,rfl⟩
    | _=>rfl
 ·by_cases hb:a.block<W.heap.size
  ·simp only [World.frozen?,hr.old _ hb]
  ·have hn:W.heap[a.block]?=none:=Array.getElem?_eq_none (by omega)
   simp only [World.frozen?,hn]
   split
   ·rename_i c t lo hi h'
    have:=hr.fz a.block c t (lo,hi) (by omega) h'
    cases this;simp
   ·rfl
open Go Go.Proofs Go.Proofs.Tryz Go.ChangeShapes Go.WideShapes Go.ChangeAt Go.RowKit
theorem zR4:Kids prog (·<prog.types.size):=kids_rows (by kernel_rfl) (by kernel_rfl)
theorem full:∀ t e,t<prog.types.size->prog.underlying t=some (.slice e)->0<prog.cellsOf e:=slices_full_of prog (by kernel_rfl)
/-- the types that the laws' arguments are made of -/
def TT:List TypeId:=[9,3,4,31,22,5]
theorem zNy:TT.all (zI0 prog TT)=true:=by kernel_rfl
theorem zHa:ownKnob prog.godebug=none:=by kernel_rfl
/-- the weights of each argument's reading -/
theorem zJ2 {H:Type} {P:Program} {ts:List TypeId} {ds:List (DataW H)} (h:(DataW.weightsEach P ts ds).all (·<=reachBytes)=true) {j:Nat} {t:TypeId} {d:DataW H} (ht:ts[j]?=some t) (hd:ds[j]?=some d):∀ n∈d.weights P t,n<=reachBytes:=fun n hn=>by
 have:=oW.1 h _ (DataW.weights_mem_each ht hd n hn)
 simpa using this
/-- a slice that came in -/
theorem zOI {H:Type} {enc:TypeId × Value->H} {P:Program} {T:List TypeId} (hT:T.all (zI0 P T)=true) {W:World} {r:Reach} {b:Nat} {t e:TypeId} {v:Value} {d:DataW H} {ps:List MemPlace} (ht:t∈T) (hu:P.underlying t=some (.slice e))
  (hval:Value.okWide P W r b t v) (h:DataW.Trod enc P W 0 (fun _=>true) true t v d ps) (hw:∀ n∈d.weights P t,n<=reachBytes):∃ (n:Nat) (a:Option Addr) (es:List D) (c:Nat),(PV.sv a (zDZ P e) es c).val []=v/\Holds W (.sl a (zDZ P e) es c)/\Shp P n t [.sl a (zDZ P e) es c]:=by
 obtain ⟨n,h⟩:=h
 obtain ⟨a0,len,cap,rfl⟩:=okWide_slice hu hval
 obtain ⟨xs,s,k⟩:=zGe hT n t _ _ ht h hw
 obtain ⟨m,a,es,c,rfl,rfl,_,_⟩:=zJT hu k
 have e0:(D.sl a (zDZ P e) es c).cv=.slice a0 len cap:=by
  have:=s.cv
  simpa [Value.cells] using this
 exact ⟨_,a,es,c,e0,s.hold _ (by simp),k⟩
end Go.Proofs.YtkdjhkfiolhkiaaGreat
set_option maxRecDepth 100000
namespace Go.Proofs.YtkdjhkfiolhkiaaGreat
open Go Go.Proofs Go.Proofs.Tryz
theorem ez5:zDZ prog 5=0:=by kernel_rfl
theorem zMp {W:World} {n:Nat} {a:Option Addr} {es:List D} {c:Nat} (hH:Holds W (.sl a 0 es c)) (h:Shp prog n 22 [.sl a 0 es c]):∀ d∈es,∃ k:Int,d=.lit (.int .u8 k):=by
 obtain ⟨m,a',es',c',e,hs,hl,hx⟩:=zJT underlying22 h
 have he:es'=es:=by cases hs;rfl
 subst he
 have hcell:∀ x∈es',x.isCell:=by
  cases hH with
  | nil=>intro x hx;simp at hx
  | sl h1 h2 h3 h4 h5=>intro x hx;exact h3 x hx
 intro x hxm
 obtain ⟨k,hk⟩:=zQc underlying5 (hx x hxm)
 have hc:=hcell x hxm
 refine ⟨k,?_⟩
 cases x<;>simp [D.isCell,D.cells] at hc hk ⊢<;>exact hk
open Go Go.Proofs Go.Proofs.Tryz Go.ChangeShapes Go.WideShapes Go.ChangeAt Go.RowKit
set_option maxHeartbeats 1600000 in
set_option maxRecDepth 100000 in
theorem zA2 (os:Os) (started:os.Started) (H:Type) (enc:TypeId × Value->H) :
  ReturnsInHanded {} checked os 6 .any (Rows.fnResultsSpec.pre6 enc prog Tryz.f6 Rows.fnResultsRow.domain false) (Rows.fnResultsSpec.post enc prog Tryz.f6 false true false false):=by
 refine returnsInHanded_of_change_sized (C:=checked) zHa started (by kernel_rfl) func6
  (ChangeSpec.witness6 (enc:=enc) (C:=checked) false ⟨#[],#[.slice none 0 0],[]⟩ 8 (by kernel_rfl) (by kernel_rfl) (by kernel_rfl) (by kernel_rfl)) ?_
 intro W base args ds gs before hval0 hW _ hsz _
 have hval:∀ (j:Nat) t v,Tryz.f6.params[j]?=some t->args[j]?=some v->Value.okWide prog W .any base t v:=hval0
 have hW':=hW
 obtain ⟨p,q,hA0,hV,rfl,hfz,_⟩:=hW
 have hA:DataW.TrodAll enc prog W 0 (fun _=>true) true Tryz.f6.params.toList args.toList ds p:=hA0
 have hsz:(DataW.weightsEach prog (Tryz.f6.params.toList++[]) (ds++gs)).all (·<=reachBytes)=true:=hsz
 rw [params6] at hA hval hsz
 obtain ⟨v0,vs1,d0,ds1,p0,p1,ha,rfl,rfl,h0,hr⟩:=trodAll_cons hA
 obtain ⟨rfl,rfl,rfl⟩:=trodAll_nil hr
 obtain rfl:args=#[v0]:=by rw [<-nI,ha]
 obtain ⟨rfl,rfl⟩:=trodVars_none hV
 obtain ⟨n0,aC,esC,cC,e0,hH0,k0⟩:=zOI zNy (by decide) underlying22 (hval 0 22 v0 rfl rfl) h0 (zJ2 hsz (j:=0) rfl rfl)
 rw [ez5] at e0 hH0 k0
 have hc:=(zIB (zMp hH0 k0) aC cC W.heap.size).h (fun _=>False) W rfl ⟨fun _ h=>h.elim,⟨fun x hx=>by simp [glob] at hx⟩,fun b hb=>by obtain ⟨x,hx,_⟩:=hb;simp [glob] at hx,fun b hb=>by obtain ⟨x,hx,_⟩:=hb;simp [glob] at hx⟩ (fun p hp=>by
  simp only [oG,nN,mi] at hp
  subst hp
  exact ⟨⟨hH0,fun _ _=>id⟩,rfl⟩)
 have hargs:([PV.sv aC 0 esC cC].map (PV.val [])).toArray=#[v0]:=by
  simp only [o6,mt,e0]
 rw [hargs] at hc
 refine hc.mono fun e W' hf=>?_
 exact zLC zR4 full (by rw [params6];decide) rfl (by kernel_rfl) underlying4 rfl hW' (zPX hf)
theorem fnResults_holds:Rows.FnResultsSaid:=
 OpenClaim.holds_of_wide 6 Tryz.f6 rfl rfl rfl rfl rfl rfl rfl ⟨rfl,rfl,rfl,rfl,rfl⟩ rfl rfl rfl rfl rfl (by kernel_rfl) func6 (by kernel_rfl)
  (mv (by kernel_rfl)) (by unfold Func.isWrapper;first | (rw [if_pos (by decide +kernel)];kernel_rfl) | (rw [if_neg (by decide +kernel)];exact ⟨rfl,rfl⟩))
  (fun os started H enc _=>zA2 os started H enc)
#print axioms fnResults_holds
end Go.Proofs.YtkdjhkfiolhkiaaGreat
