/- What the reader of data has read is a snapshot; the form of a snapshot by its type. -/
import Derived.Test.YtmfjakahanbnlaaGreatDoorJh
import Derived.ProofKit
import Derived.ReadAgain
import Derived.ChangeSame
import Derived.Test.YtmfjakahanbnlaaGreatDoorRows
import Derived.SizedLaws
import Derived.Test.YtmfjakahanbnlaaGreatDoorA4
import Derived.Test.YtmfjakahanbnlaaGreatDoorA5
import Derived.Lib.LaidTab
import Derived.Lib.ItoaNum
import Derived.Stop.LaidErr
import Derived.LaidMore
import Derived.OpenShut
import Derived.MakeChecks
import Derived.Test.YtmfjakahanbnlaaGreatDoorCards
import Derived.Test.YtmfjakahanbnlaaGreatDoorTie
import Derived.SevenTiedAt
import Derived.Test.YtmfjakahanbnlaaGreatDoorB3
set_option linter.unusedVariables false
set_option linter.unusedSimpArgs false
namespace Go.Proofs.YtmfjakahanbnlaaGreatDoor
open Go
def p3 (P:Program) (e:TypeId):Nat:=match P.underlying e with | some (.struct _)=>P.cellsOf e | _=>0
def rR (P:Program):List Field->Nat->Nat->Bool
 | [],o,n=>o==n
 | f::fs,o,n=>f.offset==o&&rR P fs (o+P.cellsOf f.type) n
def zEc (P:Program) (T:List TypeId) (t:TypeId):Bool:=
 match P.underlying t with
 | some .bool=>true
 | some (.int _)=>true
 | some .string=>true
 | some (.slice e)=>T.contains e&&(P.cellsOf e==ez (p3 P e))&&decide (0<P.bytesOf e)
 | some (.struct fs)=>rR P fs.toList 0 (P.cellsOf t)&&fs.toList.all fun f=>T.contains f.type
 | _=>false
def zK1 (R:TypeId->List D->Prop):List TypeId->List D->Prop
 | [],xs=>xs=[]
 | t::ts,xs=>∃ a b,xs=a++b/\R t a/\zK1 R ts b
/-- the form of a snapshot's cells, by type; the number bounds the depth -/
def Shp (P:Program):Nat->TypeId->List D->Prop
 | 0,_,_=>False
 | n+1,t,xs=>match P.underlying t with
   | some .bool=>∃ v,xs=[.lit (.bool v)]
   | some (.int k)=>∃ m,xs=[.lit (.int k m)]/\(Lit.int k m).wf=true
   | some .string=>∃ s:ByteArray,xs=[.lit (.string s)]/\s.size<=reachBytes
   | some (.slice e)=>∃ a es c,xs=[.sl a (p3 P e) es c]/\es.length<=reachBytes/\∀ x∈es,Shp P n e x.cells
   | some (.struct fs)=>zK1 (Shp P n) (fs.toList.map (·.type)) xs
   | _=>False
theorem zGX {P:Program} {n:Nat} {t:TypeId} {xs:List D} {k:IntKind} (ht:P.underlying t=some (.int k)) (h:Shp P n t xs):∃ m,xs=[.lit (.int k m)]:=by
 cases n with
 | zero=>exact h.elim
 | succ n=>unfold Shp at h;rw [ht] at h;obtain ⟨m,rfl,_⟩:=h;exact ⟨m,rfl⟩
theorem zCo:reachBytes<=4611686018427387904:=by decide
theorem zIs {P:Program} {n:Nat} {t:TypeId} {xs:List D} (ht:P.underlying t=some .string) (h:Shp P n t xs):∃ s:ByteArray,xs=[.lit (.string s)]/\s.size<=4611686018427387904:=by
 cases n with
 | zero=>exact h.elim
 | succ n=>unfold Shp at h;rw [ht] at h;obtain ⟨s,rfl,hs⟩:=h;exact ⟨s,rfl,ol hs zCo⟩
theorem zEw {P:Program} {n:Nat} {t e:TypeId} {xs:List D} (ht:P.underlying t=some (.slice e)) (h:Shp P n t xs):∃ m a es c,n=m+1/\xs=[.sl a (p3 P e) es c]/\es.length<=4611686018427387904/\∀ x∈es,Shp P m e x.cells:=by
 cases n with
 | zero=>exact h.elim
 | succ n=>
   unfold Shp at h;rw [ht] at h
   obtain ⟨a,es,c,rfl,hl,hx⟩:=h
   exact ⟨n,a,es,c,rfl,rfl,ol hl zCo,hx⟩
theorem zCs {P:Program} {n:Nat} {t:TypeId} {xs:List D} {fs:Array Field} (ht:P.underlying t=some (.struct fs)) (h:Shp P n t xs):∃ m,n=m+1/\zK1 (Shp P m) (fs.toList.map (·.type)) xs:=by
 cases n with
 | zero=>exact h.elim
 | succ n=>unfold Shp at h;rw [ht] at h;exact ⟨n,rfl,h⟩
structure Snap (w:World) (cs:List Value) (xs:List D):Prop where
 cv:xs.map D.cv=cs
 cell:∀ x∈xs,x.isCell
 hold:∀ x∈xs,Holds w x
theorem Snap.one {w:World} {v:Value} {x:D} (h1:x.cv=v) (h2:x.isCell) (h3:Holds w x):Snap w [v] [x]:=⟨by simp [h1],by simpa using h2,by simpa using h3⟩
theorem Snap.app {w:World} {us bs:List Value} {xs ys:List D} (h:Snap w us xs) (h':Snap w bs ys):Snap w (us++bs) (xs++ys):=
 ⟨by rw [mE,h.cv,h'.cv],fun x hx=>(oO.1 hx).elim (h.cell x) (h'.cell x),fun x hx=>(oO.1 hx).elim (h.hold x) (h'.hold x)⟩
theorem qX {α β γ:Type} {f:α->Option β} {Q:α->γ->Prop}:∀ {l:List α} {r:List β},l.mapM f=some r->(∀ i∈l,∀ y∈r,f i=some y->∃ x,Q i x)->∃ xs:List γ,xs.length=l.length/\∀ (k:Nat) (i:α),l[k]?=some i->∃ x,xs[k]?=some x/\Q i x
 | [],r,h,hq=>⟨[],rfl,fun k i hk=>by simp at hk⟩
 | a :: l,r,h,hq=>by
   rw [List.mapM_cons] at h
   cases hx:f a with
   | none=>simp [hx] at h
   | some y=>
     cases hxs:l.mapM f with
     | none=>simp [hx,hxs] at h
     | some ys=>
       have hr:r=y::ys:=by simpa [hx,hxs] using h.symm
       subst hr
       obtain ⟨x,h1⟩:=hq a (by simp) y (by simp) hx
       obtain ⟨xs,h2,h3⟩:=qX hxs fun i hi y hy=>hq i (by simp [hi]) y (by simp [hy])
       refine ⟨x::xs,by simp [h2],fun k i hk=>?_⟩
       cases k with
       | zero=>simp at hk;subst hk;exact ⟨x,rfl,h1⟩
       | succ k=>simp at hk;simpa using h3 k i hk
variable {H:Type} {enc:TypeId × Value->H} {P:Program} {w:World} {base:Nat} {spare:Nat->Bool} {held:Bool} {T:List TypeId}
theorem zDL:∀ {L:List Field} {o n:Nat},rR P L o n=true->o<=n
 | [],o,n,h=>by simp [rR] at h;omega
 | f::L,o,n,h=>by
   simp only [rR,oL] at h
   have:=zDL h.2
   omega
theorem qD {g:TypeId->List Value->Option (DataW H × List MemPlace)} {R:TypeId->List D->Prop} {cs:List Value}:∀ {L:List Field} {o N:Nat} {r:List (DataW H × List MemPlace)},rR P L o N=true->N<=cs.length ->
  (L.mapM fun f=>g f.type ((cs.drop f.offset).take (P.cellsOf f.type)))=some r->(∀ x∈DataW.weightsEach P (L.map (·.type)) (r.map (·.1)),x<=reachBytes)->(∀ f∈L,∀ vs y,g f.type vs=some y->(∀ x∈y.1.weights P f.type,x<=reachBytes)->∃ xs,Snap w vs xs/\R f.type xs)->∃ xs,Snap w ((cs.drop o).take (N - o)) xs/\zK1 R (L.map (·.type)) xs
 | [],o,N,r,hc,hN,h,hw,hg=>by
   simp [rR] at hc;subst hc
   exact ⟨[],⟨by simp,by simp,by simp⟩,rfl⟩
 | f :: L,o,N,r,hc,hN,h,hw,hg=>by
   simp only [rR,oL,mJ] at hc
   obtain ⟨hc1,hc2⟩:=hc
   rw [List.mapM_cons] at h
   cases hx:g f.type ((cs.drop f.offset).take (P.cellsOf f.type)) with
   | none=>simp [hx] at h
   | some y=>
     cases hxs:(L.mapM fun f=>g f.type ((cs.drop f.offset).take (P.cellsOf f.type))) with
     | none=>simp [hx,hxs] at h
     | some ys=>
       have hr:r=y::ys:=by simpa [hx,hxs] using h.symm
       subst hr
       simp only [oq,DataW.weightsEach,oO] at hw
       obtain ⟨us,h1,h2⟩:=hg f (by simp) _ y hx fun x hx=>hw x (.inl hx)
       obtain ⟨bs,h3,h4⟩:=qD hc2 hN hxs (fun x hx=>hw x (.inr hx)) fun f hf=>hg f (by simp [hf])
       have hle:=zDL hc2
       refine ⟨us++bs,?_,us,bs,rfl,h2,h4⟩
       have:=h1.app h3
       rw [hc1] at this
       have e:(cs.drop o).take (N - o)=(cs.drop o).take (P.cellsOf f.type)++(cs.drop (o+P.cellsOf f.type)).take (N - (o+P.cellsOf f.type)):=by
        rw [show N - o=P.cellsOf f.type+(N - (o+P.cellsOf f.type)) by omega,List.take_add,List.drop_drop]
       rw [e];exact this
theorem zJy {n:Nat} {t:TypeId} {xs:List D} (h:Shp P n t xs) (hc:∀ x∈xs,x.isCell) (hs:p3 P t=0) (hp:∀ fs,P.underlying t≠some (.struct fs)):∃ x,xs=[x]:=by
 cases n with
 | zero=>exact h.elim
 | succ n=>
   unfold Shp at h
   split at h
   ·obtain ⟨v,rfl⟩:=h;exact ⟨_,rfl⟩
   ·obtain ⟨v,rfl,_⟩:=h;exact ⟨_,rfl⟩
   ·obtain ⟨v,rfl,_⟩:=h;exact ⟨_,rfl⟩
   ·obtain ⟨a,es,c,rfl,_⟩:=h;exact ⟨_,rfl⟩
   ·rename_i fs hu;exact absurd hu (hp fs)
   ·exact h.elim
/-- one element: its cells as one datum -/
theorem zJf {n:Nat} {e:TypeId} {cs:List Value} {xs:List D} (hs:Snap w cs xs) (h:Shp P n e xs) (hl:cs.length=P.cellsOf e) (hz:P.cellsOf e=ez (p3 P e)) :
  ∃ x,x.cells=xs/\eOk (p3 P e) x/\Holds w x:=by
 have hxl:xs.length=cs.length:=by rw [<-hs.cv];simp
 by_cases hst:∃ fs,P.underlying e=some (.struct fs)
 ·obtain ⟨fs,hst⟩:=hst
  have hez:p3 P e=P.cellsOf e:=by unfold p3;rw [hst]
  have hne:P.cellsOf e≠0:=by
   intro h0;rw [hez,h0] at hz;simp [ez] at hz
  refine ⟨.ag xs,rfl,?_,.ag hs.hold⟩
  unfold eOk
  rw [hez,if_neg hne]
  exact ⟨xs,rfl,by omega,hs.cell⟩
 ·have hez:p3 P e=0:=by
   unfold p3;split
   ·rename_i fs hu;exact absurd ⟨fs,hu⟩ hst
   ·rfl
  obtain ⟨x,rfl⟩:=zJy h hs.cell hez fun fs hu=>hst ⟨fs,hu⟩
  have hc:=hs.cell x (by simp)
  refine ⟨x,?_,?_,hs.hold x (by simp)⟩
  ·cases x<;>first | exact hc.elim | rfl
  ·unfold eOk;rw [hez,if_pos rfl];exact hc
theorem zGv {a:Addr} {n:Nat} {cs:List Value} (h:w.cells? base a n=some cs):cs.length=n/\∀ j u,cs[j]?=some u->w.cell? (a.add j)=some u:=by
 unfold World.cells? at h
 split at h
 ·refine ⟨by have:=mapM_some_length h;simpa using this,fun j u hj=>?_⟩
  have hlt:j<n:=by
   have:=mapM_some_length h
   have h2:=(oB.1 hj).1
   simp at this;omega
  have:=mapM_some_get h j j (by simp [hlt])
  rw [this];exact hj
 ·cases h
theorem zHN {a:Addr} {u:Value} (h:w.cell? a=some u):a.spot=none/\∃ c t fz,w.heap[a.block]?=some (.cells c t fz):=by
 refine ⟨World.cell?_spot h,?_⟩
 unfold World.cell? at h
 split at h
 ·rename_i c t fz hb;exact ⟨_,_,_,hb⟩
 ·cases h
/-- the elements of a slice stand in memory one behind the other -/
theorem zKu {a:Addr} {z:Nat} {es:List D} (he:∀ x∈es,eOk z x) (h:∀ (k:Nat) (x:D),es[k]?=some x->∀ (j:Nat) (u:D),x.cells[j]?=some u->w.cell? ((a.add (k*ez z)).add j)=some u.cv):Row w a (zg es)/\(es≠[]->a.spot=none):=by
 by_cases hne:es=[]
 ·subst hne;exact ⟨.inl rfl,fun h=>absurd rfl h⟩
 obtain ⟨x,l,rfl⟩:∃ x l,es=x::l:=by cases es with | nil=>exact absurd rfl hne | cons x l=>exact ⟨x,l,rfl⟩
 have hx:=zx (he x (by simp))
 have hp:=rP z
 obtain ⟨u0,hu0⟩:∃ u,x.cells[0]?=some u:=⟨_,oG (by omega)⟩
 have h0:=h 0 x (by simp) 0 u0 hu0
 have e0:(a.add (0*ez z)).add 0=a:=by simp [Addr.add]
 rw [e0] at h0
 obtain ⟨hs,c,t,fz,hb⟩:=zHN h0
 refine ⟨.inr ⟨c,t,fz,hb,fun i u hu=>?_⟩,fun _=>hs⟩
 have hfl:=zI he
 have hi:i<(x::l).length*ez z:=by rw [<-hfl];exact (oB.1 hu).1
 have hk:i / ez z<(x::l).length:=(Nat.div_lt_iff_lt_mul hp).2 hi
 have hj:i % ez z<ez z:=Nat.mod_lt _ hp
 have hy:=oG hk
 have hyl:=zx (he _ (oC hy))
 have hv:=oG (l:=((x::l)[i / ez z]).cells) (i:=i % ez z) (by omega)
 have hfg:=uZ he hy hv
 have hdm:i / ez z*ez z+i % ez z=i:=by rw [Nat.mul_comm];exact Nat.div_add_mod i (ez z)
 rw [hdm,hu] at hfg
 have hcv:=h _ _ hy _ _ hv
 have hu':=o1 hfg
 rw [<-hu'] at hcv
 obtain ⟨b,o,s⟩:=a
 simp only at hs hb ⊢
 subst hs
 rw [yL,yL,mO,hdm] at hcv
 have:=pE (w:=w) (ad:=⟨b,o,none⟩) rfl hb i
 rw [yL] at this
 rw [this] at hcv
 exact hcv
theorem u9 {e:TypeId} {d:DataW H}:∀ {l:List (DataW H)},d∈l->∀ {x:Nat},x∈d.weights P e->x∈DataW.weightsAll P e l
 | d'::l,h,x,hx=>by
   simp only [DataW.weightsAll,oO]
   rcases oI.1 h with rfl | h
   ·exact .inl hx
   ·exact .inr (u9 h hx)
theorem zDS (hT:T.all (zEc P T)=true):∀ (n:Nat) (t:TypeId) (cs:List Value) (y:DataW H × List MemPlace),t∈T->DataW.trod enc P w base spare held n t cs=some y->(∀ x∈y.1.weights P t,x<=reachBytes)->∃ xs,Snap w cs xs/\Shp P n t xs:=by
 intro n
 induction n with
 | zero=>intro t cs y _ h _;simp [DataW.trod] at h
 | succ n ih=>
   intro t cs y ht h hw
   have hp:=oS.1 hT t ht
   unfold zEc at hp
   unfold Shp
   unfold DataW.trod at h
   split at h
   ·rename_i hu;rw [hu];exact ⟨[.lit _],.one rfl rfl .lit,_,rfl⟩
   ·rename_i hu;rw [hu]
    split at h
    ·rename_i hk;obtain ⟨rfl,hk⟩:=hk
     exact ⟨[.lit _],.one rfl rfl .lit,_,rfl,hk⟩
    ·cases h
   ·rename_i hu;rw [hu] at hp;simp at hp
   ·rename_i hu;rw [hu]
    split at h
    ·cases h
     exact ⟨[.lit _],.one rfl rfl .lit,_,rfl,hw _ (by simp only [DataW.weights,o8];exact oh.symm)⟩
    ·cases h
   ·rename_i hu;rw [hu] at hp;simp at hp
   ·rename_i hu;rw [hu] at hp;simp at hp
   ·rename_i e hu;rw [hu]
    exact ⟨_,.one (x:=.sl none (p3 P e) [] 0) rfl trivial .nil,_,_,_,rfl,Nat.zero_le _,fun x hx=>absurd hx (by simp)⟩
   ·rename_i e a len cap hu;rw [hu] at hp ⊢
    simp only [oL,mJ,List.contains_iff_mem] at hp
    obtain ⟨⟨heT,hz⟩,hbe⟩:=hp
    have hbe:=nT hbe
    simp only at h
    split at h
    rotate_left
    ·cases h
    rename_i hb
    obtain ⟨hb1,hb2,hb3⟩:=hb
    cases hm:(List.range len).mapM fun i=>(w.cells? base (a.add (i*P.cellsOf e)) (P.cellsOf e)).bind (DataW.trod enc P w base spare held n e) with
    | none=>rw [hm] at h;simp at h
    | some elems=>
      have hm2:=hm
      rw [hm] at h
      simp only [mK] at h
      obtain ⟨rest,_,hy⟩:=Option.map_eq_some_iff.1 h
      subst hy
      simp only [DataW.weights,hu,oI,oO] at hw
      have hln:elems.length=len:=by simpa using mapM_some_length hm
      have hw0:len<=reachBytes:=by
       have h1:=hw _ (.inl rfl)
       have h2:((elems.map (·.1)).length+(rest.map (·.1)).length)*1<=((elems.map (·.1)).length+(rest.map (·.1)).length)*P.bytesOf e:=Nat.mul_le_mul_left _ hbe
       simp only [nM,Nat.mul_one] at h1 h2
       omega
      have hwe:∀ y∈elems,∀ x∈y.1.weights P e,x<=reachBytes:=fun y hy x hx=>hw x (.inr (.inl (u9 (oQ.2 ⟨y,hy,rfl⟩) hx)))
      obtain ⟨es,hlen,hes⟩:=qX (Q:=fun i (x:D)=>Shp P n e x.cells/\eOk (p3 P e) x/\Holds w x/\∀ (j:Nat) (u:D),x.cells[j]?=some u->w.cell? ((a.add (i*ez (p3 P e))).add j)=some u.cv) hm2 fun i _ y hye hy=>by
       cases hc:w.cells? base (a.add (i*P.cellsOf e)) (P.cellsOf e) with
       | none=>rw [hc] at hy;simp at hy
       | some vs=>
         rw [hc] at hy
         simp only [mK] at hy
         obtain ⟨xs,h1,h2⟩:=ih e vs y heT hy (hwe y hye)
         obtain ⟨hvl,hvg⟩:=zGv hc
         obtain ⟨x,rfl,h3,h4⟩:=zJf h1 h2 hvl hz
         refine ⟨x,h2,h3,h4,fun j u hu=>?_⟩
         rw [<-hz]
         refine hvg j _ ?_
         rw [<-h1.cv,oE,hu];rfl
      have hlen:es.length=len:=by simpa using hlen
      have hget:∀ k x,es[k]?=some x->Shp P n e x.cells/\eOk (p3 P e) x/\Holds w x/\∀ (j:Nat) (u:D),x.cells[j]?=some u->w.cell? ((a.add (k*ez (p3 P e))).add j)=some u.cv:=fun k x hk=>by
       have hlt:k<len:=by rw [<-hlen];exact (oB.1 hk).1
       obtain ⟨x',h1,h2⟩:=hes k k (by simp [hlt])
       rw [hk] at h1;cases h1;exact h2
      have hmem:∀ x∈es,Shp P n e x.cells/\eOk (p3 P e) x/\Holds w x:=fun x hx=>by
       obtain ⟨k,hk⟩:=oP.1 hx
       obtain ⟨h1,h2,h3,_⟩:=hget k x hk;exact ⟨h1,h2,h3⟩
      obtain ⟨hrow,hspot⟩:=zKu (a:=a) (fun x hx=>(hmem x hx).2.1) fun k x hk=>(hget k x hk).2.2.2
      refine ⟨[.sl (some a) (p3 P e) es cap],.one (by simp [D.cv,hlen]) trivial (.sl hspot (by omega) (fun x hx=>(hmem x hx).2.1) (fun x hx=>(hmem x hx).2.2) hrow),_,_,_,rfl,by omega,fun x hx=>(hmem x hx).1⟩
   ·rename_i cs _ cs' fs hu;rw [hu] at hp ⊢
    simp only [oL,oS,List.contains_iff_mem] at hp
    obtain ⟨hc,hft⟩:=hp
    split at h
    rotate_left
    ·cases h
    rename_i hl
    cases hm:fs.toList.mapM fun f=>DataW.trod enc P w base spare held n f.type ((cs.drop f.offset).take (P.cellsOf f.type)) with
    | none=>rw [hm] at h;simp at h
    | some r=>
      rw [hm] at h
      simp only [oT,oZ] at h
      subst h
      simp only [DataW.weights,hu] at hw
      obtain ⟨xs,h1,h2⟩:=qD (R:=Shp P n) hc (by omega) hm hw fun f hf vs y hy hwy=>ih f.type vs y (hft f hf) hy hwy
      refine ⟨xs,?_,h2⟩
      simpa [<-hl] using h1
   all_goals (rename_i hu;first | (rw [hu] at hp;simp at hp;done) | (exfalso;simp_all;done))
open Go Go.ChangeShapes Go.WideShapes Go.ChangeAt Go.RowKit
/-- a parameter's value is one of its type: a struct's a row of cells, any other one cell -/
theorem zDG {P:Program} {W:World} {r:Reach} {b:Nat} {t:TypeId} {v:Value} {xs:List D} (h:Value.okWide P W r b t v) (hx:xs.map D.cv=v.cells.toList) (hz:p3 P t≠0):v=(D.ag xs).val/\xs.length=P.cellsOf t:=by
 unfold p3 at hz
 split at hz
 ·rename_i fs hu
  simp only [Value.okWide,hu] at h
  obtain ⟨cs,rfl,hl,_⟩:=h
  simp only [Value.cells] at hx
  refine ⟨by simp only [D.val,hx],?_⟩
  rw [<-hl,<-oh,<-hx];simp
 ·exact absurd rfl hz
structure Ret1 (W W':World) (e:Ending):Prop where
 e:e=.returned (.bool true)
 old:∀ b,b<W.heap.size->W'.heap[b]?=W.heap[b]?
 size:W.heap.size<=W'.heap.size
 ku:KU W W'
theorem zJw {av:Nat->Prop} {W W':World} {e:Ending} (h:Fin [.bool] (fun r _=>r=true) av W e W'):Ret1 W W' e:=by
 cases e with
 | returned v=>
   obtain ⟨ps,rows,e',hd⟩:=h
   have hq:=hd.q
   have hv:=hd.v
   refine ⟨?_,hd.old,hd.size,hd.ku⟩
   cases ps with
   | nil=>simp [QT.app] at hq
   | cons p ps=>
     cases p<;>simp [QT.app] at hq
     cases ps<;>cases rows<;>simp [QT.app] at hq
     subst hq
     rw [hv];rfl
 | _=>exact h.elim
theorem zGr {H:Type} {enc:TypeId × Value->H} {P:Program} {fn:Func} {s:ChangeSpec} {apart fresh handsOn:Bool} {W W':World} {args:Array Value} {ds gs:List (DataW H)} {before:List MemPlace} {tb:TypeId} {e:Ending}
  (K:Kids P (·<P.types.size)) (full:∀ t e,t<P.types.size->P.underlying t=some (.slice e)->0<P.cellsOf e)
  (hpar:∀ t∈fn.params.toList,t<P.types.size) (hv:s.vars=[]) (hrt:fn.resultTypes=#[tb]) (htb:P.underlying tb=some .bool)
  (hs:s.fn H (ds++gs)={ results:=[.lit (.bool true)],args:=ds })
  (hW:DataW.Whole enc P fn.params.toList s.vars apart W args.toList ds gs before) (hr:Ret1 W W' e) :
  ∃ v,e=.returned v/\s.post enc P fn apart fresh handsOn false W args v W':=by
 refine ⟨_,hr.e,?_⟩
 have hW':=hW
 obtain ⟨p,q,hA,hV,rfl,hfz,_⟩:=hW
 rw [hv] at hV
 obtain ⟨rfl,rfl⟩:=trodVars_none hV
 have hlt:∀ x∈p++[],x.block<W.heap.size:=hW'.lt
 have carry:∀ {ts:List TypeId} {vs:List Value} {ds:List (DataW H)} {ps:List MemPlace},DataW.TrodAll enc P W 0 (fun _=>true) true ts vs ds ps->(∀ x∈ps,x.block<W.heap.size)->DataW.TrodAll enc P W' 0 (fun _=>true) true ts vs ds ps:=by
  intro ts
  induction ts with
  | nil=>intro vs ds ps h _;obtain ⟨rfl,rfl,rfl⟩:=trodAll_nil h;exact trodAll_mk0
  | cons t ts ih=>
    intro vs ds ps h hl
    obtain ⟨v,vs1,d,ds1,a,b,rfl,rfl,rfl,⟨n,h1⟩,h2⟩:=trodAll_cons h
    refine ⟨a,b,⟨n,DataW.trod_carry n _ _ _ h1 fun x hx=>?_⟩,ih h2 fun x hx=>hl x (by simp [hx]),rfl⟩
    have hb:=hr.old _ (hl x (by simp [hx]))
    cases x with
    | cell b off=>simp only [World.sameAt,World.cell?,MemPlace.block] at hb ⊢;rw [hb]
    | map b=>exact hb
 have hA':=carry hA fun x hx=>hlt x (by simp [hx])
 refine ⟨ds,[],p++[],[],p,[],hW',?_,?_,?_,⟨hr.ku.os,hr.ku.out,fun i hi=>?_⟩,fun h=>by cases h⟩
 ·rw [hs,hrt]
  exact trodAll_mk1 ⟨1,by simp [DataW.trod,Value.cells,htb]⟩
 ·rw [hs]
  exact DataW.TrodAll.respare K full hpar hA' fun x hx=>by simpa using hlt x (by simp [hx])
 ·rw [hs,hv];rfl
 ·rw [hr.old i hi]
  cases hb:W.heap[i]? with
  | none=>rfl
  | some o=>
    cases o with
    | cells c t fr=>exact ⟨rfl,rfl,rfl,fun _ _=>rfl⟩
    | map es clock=>exact .inr ⟨rfl,rfl⟩
    | _=>rfl
open Go Go.Proofs Go.Proofs.Tryz Go.ChangeShapes Go.WideShapes Go.ChangeAt Go.RowKit
theorem zLu:Kids prog (·<prog.types.size):=kids_rows (by kernel_rfl) (by kernel_rfl)
theorem full:∀ t e,t<prog.types.size->prog.underlying t=some (.slice e)->0<prog.cellsOf e:=slices_full_of prog (by kernel_rfl)
/-- the types that the laws' arguments are made of -/
def TT:List TypeId:=[9,24,3,22,27,25,4,63,59,5]
theorem zIW:TT.all (zEc prog TT)=true:=by kernel_rfl
theorem zDU:ownKnob prog.godebug=none:=by kernel_rfl
/-- the weights of each argument's reading -/
theorem zFM {H:Type} {P:Program} {ts:List TypeId} {ds:List (DataW H)} (h:(DataW.weightsEach P ts ds).all (·<=reachBytes)=true) {j:Nat} {t:TypeId} {d:DataW H} (ht:ts[j]?=some t) (hd:ds[j]?=some d):∀ n∈d.weights P t,n<=reachBytes:=fun n hn=>by
 have:=oS.1 h _ (DataW.weights_mem_each ht hd n hn)
 simpa using this
/-- a struct that came in -/
theorem zGP {H:Type} {enc:TypeId × Value->H} {P:Program} {T:List TypeId} (hT:T.all (zEc P T)=true) {W:World} {r:Reach} {b:Nat} {t:TypeId} {v:Value} {d:DataW H} {ps:List MemPlace} (ht:t∈T) (hz:p3 P t≠0)
  (hval:Value.okWide P W r b t v) (h:DataW.Trod enc P W 0 (fun _=>true) true t v d ps) (hw:∀ n∈d.weights P t,n<=reachBytes):∃ (n:Nat) (xs:List D),(PV.dg (P.cellsOf t) (.ag xs)).val []=v/\Holds W (.ag xs)/\IsAg (P.cellsOf t) (.ag xs)/\Shp P n t xs:=by
 obtain ⟨n,h⟩:=h
 obtain ⟨xs,s,k⟩:=zDS hT n t _ _ ht h hw
 obtain ⟨e1,hl⟩:=zDG hval s.cv hz
 exact ⟨n,xs,e1.symm,.ag s.hold,⟨xs,rfl,hl,s.cell⟩,k⟩
end Go.Proofs.YtmfjakahanbnlaaGreatDoor
set_option maxRecDepth 100000
namespace Go.Proofs.YtmfjakahanbnlaaGreatDoor
open Go Go.Proofs Go.Proofs.Tryz
theorem tM {α:Type} {R:α->D->Prop}:∀ {es:List D},(∀ x∈es,∃ t,R t x)->∃ l,All2 R l es
 | [],_=>⟨[],rfl⟩
 | x::es,h=>by
   obtain ⟨t,ht⟩:=h x (by simp)
   obtain ⟨l,hl⟩:=tM (es:=es) fun y hy=>h y (by simp [hy])
   exact ⟨t::l,x,es,rfl,ht,hl⟩
theorem zKt {x:D} {n:Nat} (h:x.cells.length=n) (hn:n≠1):x=.ag x.cells:=by
 cases x<;>first | rfl | (simp [D.cells] at h;exact absurd h.symm hn)
theorem zL1:p3 prog 24=2:=by kernel_rfl
theorem zLn:p3 prog 27=9:=by kernel_rfl
theorem zCj:∀ (n:Nat) (xs:List D),Shp prog n 24 xs->∃ x0 x1,xs=[x0,x1]/\∃ t:Ty,t.Is (.ag [x0,x1]):=by
 intro n
 induction n using Nat.strongRecOn with
 | ind n ih=>
 intro xs h
 ·obtain ⟨n,rfl,h⟩:=zCs underlying24 h
  obtain ⟨a,b,rfl,h1,a2,b2,rfl,h2,rfl⟩:=h
  obtain ⟨m,rfl⟩:=zGX underlying3 h1
  obtain ⟨m',a,es,c,rfl,rfl,hl,hx⟩:=zEw underlying22 h2
  rw [zL1]
  obtain ⟨l,hl2⟩:=tM (R:=Ty.Is) (es:=es) fun x hxm=>by
   obtain ⟨x0,x1,hc,t,ht⟩:=ih m' (by omega) _ (hx x hxm)
   refine ⟨t,?_⟩
   rw [zKt (x:=x) (n:=2) (by rw [hc];rfl) (by decide),hc];exact ht
  exact ⟨_,_,rfl,.mk m l,Ty.is_mk.2 ⟨a,es,c,rfl,hl,hl2⟩⟩
theorem zGG:∀ (n:Nat) (xs:List D),Shp prog n 27 xs->∃ t:Tm,t.Is (.ag xs)/\xs.length=9:=by
 intro n
 induction n using Nat.strongRecOn with
 | ind n ih=>
 intro xs h
 ·obtain ⟨n,rfl,h⟩:=zCs underlying27 h
  obtain ⟨a1,b1,rfl,h1,a2,b2,rfl,h2,a3,b3,rfl,h3,a4,b4,rfl,h4,a5,b5,rfl,h5,a6,b6,rfl,h6,a7,b7,rfl,h7,rfl⟩:=h
  obtain ⟨k,rfl⟩:=zGX underlying3 h1
  obtain ⟨nm,rfl,hnm⟩:=zIs underlying9 h2
  obtain ⟨ot,rfl,hot⟩:=zIs underlying9 h3
  obtain ⟨m,rfl⟩:=zGX underlying3 h4
  obtain ⟨t0,t1,rfl,ty,hty⟩:=zCj _ _ h5
  obtain ⟨r0,r1,rfl,re,hre⟩:=zCj _ _ h6
  obtain ⟨m',a,es,c,rfl,rfl,hl,hx⟩:=zEw underlying25 h7
  rw [zLn]
  obtain ⟨l,hl2⟩:=tM (R:=Tm.Is) (es:=es) fun x hxm=>by
   obtain ⟨t,ht,hln⟩:=ih m' (by omega) _ (hx x hxm)
   refine ⟨t,?_⟩
   rw [zKt hln (by decide)];exact ht
  exact ⟨.mk k nm ot m ty re l,Tm.is_mk.2 ⟨t0,t1,r0,r1,a,es,c,rfl,⟨hnm,hot,hty,hre⟩,hl,hl2⟩,rfl⟩
end Go.Proofs.YtmfjakahanbnlaaGreatDoor
set_option maxRecDepth 100000
namespace Go.Proofs.YtmfjakahanbnlaaGreatDoor
open Go Go.Proofs Go.Proofs.Tryz
end Go.Proofs.YtmfjakahanbnlaaGreatDoor
set_option maxRecDepth 100000
namespace Go.Proofs.YtmfjakahanbnlaaGreatDoor
open Go Go.Proofs Go.Proofs.Tryz Go.ChangeShapes Go.WideShapes Go.ChangeAt Go.RowKit
/-- the list that all rows bear -/
def s3 : List (String × DataW Unit) := [("math/bits.deBruijn32tab", Rows.laid_math_bits_deBruijn32tab), ("math/bits.deBruijn64tab", Rows.laid_math_bits_deBruijn64tab), ("internal/strconv.uint64pow10", Rows.laid_internal_strconv_uint64pow10)]
theorem zLq : prog.globalNamed "internal/strconv.uint64pow10" = some 1 := by kernel_rfl
theorem zLr:(prog.globals[1]?).map (·.type)=some 276:=by kernel_rfl
theorem zL0:prog.cellsOf 276=20:=by kernel_rfl
theorem zK3:prog.cellsOf 270=1:=by kernel_rfl
theorem zDd {W:World} (h:laidMetH prog s3 W):GlobIs W:=by
 rw [MakeChecks.laidMetH_plain _ _ _ (by kernel_rfl)] at h
 have h2 : laidMet prog (("internal/strconv.uint64pow10", Lib.tabData .u64 Lib.pow10Tab) :: []) W := h.tail.tail
 have h3:=Lib.tabIs_of_head zLq zLr underlying276 underlying270 zK3 zL0 h2
 unfold Lib.TabIs World.var? at h3
 rw [zLq] at h3
 refine ⟨fun x hx=>?_⟩
 simp only [glob,oI,ny,or_false] at hx
 subst hx
 simp only [Option.bind] at h3
 cases hb:W.heap[1]? with
 | none=>rw [hb] at h3;cases h3
 | some o=>
   rw [hb] at h3
   cases o with
   | cells c t z=>simp only [oZ] at h3;subst h3;exact ⟨t,z,rfl⟩
   | _=>cases h3
theorem zKL {W:World} (h:laidMetH prog s3 W):Avl avG W []:=⟨fun b hb=>(zDd h).lt hb,zDd h,fun b hb=>hb,fun b hb=>by simp⟩
theorem zFw {W:World} (g:GlobIs W) {ad:Addr} {cs:List D} {k:Int} (h:Row W ad cs) (h0:cs[0]?=some (.lit (.int .i64 k))):¬avG ad.block:=by
 rintro ⟨x,hx,hb⟩
 obtain ⟨t,fz,h1⟩:=g.h x hx
 rw [hb] at h1
 rcases h with rfl | ⟨c,t',fz',h2,h3⟩
 ·simp at h0
 ·rw [h1] at h2
  injection h2 with h2
  injection h2 with e1 e2 e3
  have h4:=h3 0 _ h0
  rw [<-e1] at h4
  simp only [glob,oI,ny,or_false] at hx
  subst hx
  simp only [mc,oE,Option.map_eq_some_iff,D.cv] at h4
  obtain ⟨n,_,hn⟩:=h4
  cases hn
theorem zCL {W:World} (g:GlobIs W) {a:Option Addr} {z:Nat} {es:List D} {c:Nat} (h:Holds W (.sl a z es c)) (hz:∀ e∈es,∃ k cs,e=.ag (.lit (.int .i64 k)::cs)) (hes:∀ e∈es,∀ b∈e.foot,¬avG b):∀ b∈(D.sl a z es c).foot,¬avG b:=by
 intro b hb
 have tail:b∈zM es->¬avG b:=fun h=>by
  obtain ⟨e,he,hb⟩:=zD.1 h
  exact hes e he b hb
 cases a with
 | none=>simp only [D.foot] at hb;exact tail hb
 | some ad=>
   cases es with
   | nil=>simp [D.foot] at hb
   | cons e es=>
     simp only [D.foot,List.isEmpty_cons] at hb
     rcases oI.1 (by simpa using hb) with rfl | hb
     ·cases h with
      | sl _ _ _ _ hrow=>
        obtain ⟨k,cs,rfl⟩:=hz e (by simp)
        exact zFw g hrow (k:=k) (by simp [zg,D.cells])
     ·exact tail (by simpa [zM] using hb)
theorem zEu {W:World} {cs:List D} (h:Holds W (.ag cs)):∀ c∈cs,Holds W c:=by cases h with | ag h=>exact h
theorem zEV {W:World} {a:Option Addr} {z:Nat} {es:List D} {c:Nat} (h:Holds W (.sl a z es c)):∀ e∈es,Holds W e:=by
 cases h with
 | nil=>simp
 | sl _ _ _ h _=>exact h
theorem sF {α:Type} {R:α->D->Prop}:∀ {l:List α} {es:List D},All2 R l es->∀ e∈es,∃ x∈l,R x e
 | [],es,h,e,he=>by cases h;simp at he
 | x::l,es,h,e,he=>by
   obtain ⟨y,ys,rfl,h1,h2⟩:=h
   rcases oI.1 he with rfl | he
   ·exact ⟨x,by simp,h1⟩
   ·obtain ⟨z,hz,hr⟩:=sF h2 e he
    exact ⟨z,by simp [hz],hr⟩
theorem zDQ {W:World} (g:GlobIs W):∀ (t:Ty) (d:D),t.Is d->Holds W d->∀ b∈d.foot,¬avG b:=by
 refine Ty.ind fun k l ih d hd hH=>?_
 obtain ⟨a,es,c,rfl,_,hes⟩:=Ty.is_mk.1 hd
 have h2:=zEu hH (.sl a 2 es c) (by simp)
 intro b hb
 simp only [D.foot,zM,ou,od] at hb
 refine zCL g h2 (fun e he=>?_) (fun e he=>?_) b (by simpa only [D.foot] using hb)
 ·obtain ⟨x,_,hx⟩:=sF hes e he
  cases x with
  | mk k2 l2=>obtain ⟨a2,es2,c2,rfl,_,_⟩:=Ty.is_mk.1 hx;exact ⟨_,_,rfl⟩
 ·obtain ⟨x,hxm,hx⟩:=sF hes e he
  exact ih x hxm e hx (zEV h2 e he)
theorem zGq {W:World} (g:GlobIs W):∀ (t:Tm) (d:D),t.Is d->Holds W d->∀ b∈d.foot,¬avG b:=by
 refine Tm.ind fun k nm ot n ty re l ih d hd hH=>?_
 obtain ⟨t0,t1,r0,r1,a,es,c,rfl,hh,_,hes⟩:=Tm.is_mk.1 hd
 have hA:=zEu hH
 have h2:=hA (.sl a 9 es c) (by simp)
 have hT:=zDQ g ty _ hh.ty (.ag fun c hc=>hA c (by simp only [oI,ny,or_false] at hc ⊢;rcases hc with rfl | rfl<;>simp))
 have hR:=zDQ g re _ hh.re (.ag fun c hc=>hA c (by simp only [oI,ny,or_false] at hc ⊢;rcases hc with rfl | rfl<;>simp))
 have hS:=zCL g h2 (fun e he=>by
  obtain ⟨x,_,hx⟩:=sF hes e he
  cases x with
  | mk _ _ _ _ _ _ _=>obtain ⟨_,_,_,_,_,_,_,rfl,_,_,_⟩:=Tm.is_mk.1 hx;exact ⟨_,_,rfl⟩) (fun e he=>by
  obtain ⟨x,hxm,hx⟩:=sF hes e he
  exact ih x hxm e hx (zEV h2 e he))
 intro b hb
 obtain ⟨u,hu,hbu⟩:=zD.1 (show b∈zM _ from hb)
 simp only [oI,ny,or_false] at hu
 rcases hu with rfl | rfl | rfl | rfl | rfl | rfl | rfl | rfl | rfl
 ·simp [D.foot] at hbu
 ·simp [D.foot] at hbu
 ·simp [D.foot] at hbu
 ·simp [D.foot] at hbu
 ·exact hT b (zD.2 ⟨_,by simp,hbu⟩)
 ·exact hT b (zD.2 ⟨_,by simp,hbu⟩)
 ·exact hR b (zD.2 ⟨_,by simp,hbu⟩)
 ·exact hR b (zD.2 ⟨_,by simp,hbu⟩)
 ·exact hS b hbu
/-- The door's own heap meets the condition. -/
theorem zIG (os:Os) (args:Array Value):laidMetH prog s3 ((World.doorLaid prog 400 os).forCall (fun _ _=>0) ⟨#[],args,[]⟩).memory:=
 laidMetH_of_parts3 (fuel:=8) (laidMet_of_run' 8 (by kernel_rfl) (by kernel_rfl)) (by kernel_rfl) (by kernel_rfl)
set_option maxHeartbeats 1600000 in
set_option maxRecDepth 100000 in
theorem vk (os:Os) (started:os.Started) (H:Type) (enc:TypeId × Value->H) :
  ReturnsInHanded {} checked os 4 .any (fun w args=>(Rows.fnExactHashTermSpec.pre enc prog Tryz.f4 [] false w args/\laidMetH prog s3 w)/\sizedMet enc prog Tryz.f4 (OpenSpec.ofChange Rows.fnExactHashTermSpec) false w args)
   (Rows.fnExactHashTermSpec.post enc prog Tryz.f4 false true false false):=by
 refine returnsInHanded_of_change_and (C:=checked) (X:=fun w _=>laidMetH prog s3 w) (fun _ _ _ hh h=>h.of_heap hh) zDU started (by kernel_rfl) func4
  (ChangeSpec.witness_shaped (enc:=enc) (C:=checked) (os:=os) (X:=fun w _=>laidMetH prog s3 w) false (World.doorLaid prog 400 os) #[.agg #[.int .i64 0,.string ⟨#[]⟩,.string ⟨#[]⟩,.int .i64 0,.int .i64 0,.slice none 0 0,.int .i64 0,.slice none 0 0,.slice none 0 0]] 8 rfl (World.shaped_of_RefB (by kernel_rfl) (by kernel_rfl)) (by kernel_rfl) (by kernel_rfl) (by kernel_rfl) (zIG os _)) ?_
 intro W base args ds gs before hval0 hW _ hsz hL _
 have hval:∀ (j:Nat) t v,Tryz.f4.params[j]?=some t->args[j]?=some v->Value.okWide prog W .any base t v:=hval0
 have hW':=hW
 obtain ⟨p,q,hA0,hV,rfl,hfz,_⟩:=hW
 have hA:DataW.TrodAll enc prog W 0 (fun _=>true) true Tryz.f4.params.toList args.toList ds p:=hA0
 have hsz:(DataW.weightsEach prog (Tryz.f4.params.toList++[]) (ds++gs)).all (·<=reachBytes)=true:=hsz
 rw [params4] at hA hval hsz
 obtain ⟨v0,d0,rfl,rfl,h0⟩:=trodAll_one hA
 obtain ⟨rfl,rfl⟩:=trodVars_none hV
 have c28:prog.cellsOf 27=9:=by kernel_rfl
 obtain ⟨n0,xs0,e0,hH0,hI0,k0⟩:=zGP zIW (by decide) (by rw [zLn];decide) (hval 0 27 v0 rfl rfl) h0 (zFM hsz (j:=0) rfl rfl)
 rw [c28] at e0 hI0
 obtain ⟨t0,ht0,_⟩:=zGG _ _ k0
 have hc:=(zCh ht0 W.heap.size).h avG W rfl (zKL hL) (fun p hp=>by
  simp only [oI,ny,or_false] at hp
  rcases hp with rfl
  exact ⟨⟨⟨hH0,zGq (zDd hL) _ _ ht0 hH0⟩,hI0⟩,rfl⟩)
 have hargs:([PV.dg 9 (.ag xs0)].map (PV.val [])).toArray=#[v0]:=by
  simp only [oq,mZ,e0]
  try rfl
 rw [hargs] at hc
 refine hc.mono fun e W' hf=>?_
 exact zGr zLu full (by rw [params4];decide) rfl (by kernel_rfl) underlying4 rfl hW' (zJw hf)
theorem tK:Rows.FnExactHashTermSaid:=
 OpenClaim.holds_of_wide 4 Tryz.f4 rfl rfl rfl rfl rfl rfl rfl ⟨rfl,rfl,rfl,rfl,rfl⟩ rfl rfl rfl rfl rfl (by kernel_rfl) func4 (by kernel_rfl)
  (nT (by kernel_rfl)) (by unfold Func.isWrapper;first | (rw [if_pos (by decide +kernel)];kernel_rfl) | (rw [if_neg (by decide +kernel)];exact ⟨rfl,rfl⟩))
  (fun os started H enc _=>vk os started H enc)
theorem fnExactHashTerm_holds:Rows.FnExactHashTermCardSaid:=
 Claim7.holds_tied_plain_at .later [] [.data,.data,.data] true Rows.fnExactHashTermCard.stood.harness true
  tK (fun _ h=>by cases h) (by kernel_rfl) (fun _ h=>by cases h) fnExactHashTerm_row_tie rfl ⟨rfl,rfl⟩ (by kernel_rfl) rfl
  (fun f fn hf hfn=>by
   obtain rfl : f = 4 := o1 ((show prog.funcNamed "loop.example/g00589/laws.FnExactHashTerm" = some 4 by kernel_rfl).symm.trans hf) |>.symm
   obtain rfl:fn=Tryz.f4:=(o1 (func4.symm.trans hfn)).symm
   exact ⟨by kernel_rfl,fun j t ht=>by
    rw [params4] at ht
    have hm:t∈[27]:=by simpa using Array.mem_of_getElem? ht
    have hall:([27].all fun u=>!prog.wantsStandIn u)=true:=by kernel_rfl
    exact (show prog.wantsStandIn t=false by simpa using oS.1 hall t hm)⟩)
  (by kernel_rfl)
#print axioms fnExactHashTerm_holds
end Go.Proofs.YtmfjakahanbnlaaGreatDoor
