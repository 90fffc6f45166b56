/- What the reader of data has read is a snapshot; the form of a snapshot by its type. -/
import Derived.Test.YtlahkdflngobiaaGreatDoorJh
import Derived.ProofKit
import Derived.ReadAgain
import Derived.ChangeSame
import Derived.Test.YtlahkdflngobiaaGreatDoorRows
import Derived.SizedLaws
import Derived.Test.YtlahkdflngobiaaGreatDoorA4
import Derived.Test.YtlahkdflngobiaaGreatDoorB2
import Derived.Lib.LaidTab
import Derived.Lib.ItoaNum
import Derived.Stop.LaidErr
import Derived.LaidMore
import Derived.OpenShut
import Derived.MakeChecks
import Derived.Test.YtlahkdflngobiaaGreatDoorCards
import Derived.Test.YtlahkdflngobiaaGreatDoorTie
import Derived.SevenTiedAt
import Derived.Test.YtlahkdflngobiaaGreatDoorC6
set_option linter.unusedVariables false
set_option linter.unusedSimpArgs false
namespace Go.Proofs.YtlahkdflngobiaaGreatDoor
open Go
def zDH (P:Program) (e:TypeId):Nat:=match P.underlying e with | some (.struct _)=>P.cellsOf e | _=>0
def zDb (P:Program):List Field->Nat->Nat->Bool
 | [],o,n=>o==n
 | f::fs,o,n=>f.offset==o&&zDb P fs (o+P.cellsOf f.type) n
def zKG (P:Program) (T:List TypeId) (t:TypeId):Bool:=
 match P.underlying t with
 | some .bool=>true
 | some (.int _)=>true
 | some .string=>true
 | some (.slice e)=>T.contains e&&(P.cellsOf e==ez (zDH P e))&&decide (0<P.bytesOf e)
 | some (.struct fs)=>zDb P fs.toList 0 (P.cellsOf t)&&fs.toList.all λf=>T.contains f.type
 | _=>false
def zUB (R:TypeId->List D->Prop):List TypeId->List D->Prop
 | [],xs=>xs=[]
 | t::I,xs=>∃ a b,xs=a++b/\R t a/\zUB R I b
/-- the form of a snapshot's cells, by type; the number bounds the depth -/
def Shp (P:Program):Nat->TypeId->List D->Prop
 | 0,_,_=>False
 | n+1,t,xs=>match P.underlying t with
   | some .bool=>∃ v,xs=[.lit (.bool v)]
   | some (.int k)=>∃ m,xs=[.lit (.int k m)]/\(Lit.int k m).wf=true
   | some .string=>∃ s:ByteArray,xs=[.lit (.string s)]/\s.size<=reachBytes
   | some (.slice e)=>∃ a es c,xs=[.sl a (zDH P e) es c]/\es.length<=reachBytes/\∀ x∈es,Shp P n e x.cells
   | some (.struct fs)=>zUB (Shp P n) (fs.toList.map (·.type)) xs
   | _=>False
theorem zP0 {P:Program} {n:Nat} {t:TypeId} {xs:List D} {k:IntKind} (I:P.underlying t=some (.int k)) (h:Shp P n t xs):∃ m,xs=[.lit (.int k m)]:=by
 cases n with
 | zero=>exact h.elim
 | succ n=>unfold Shp at h;rw [I] at h;obtain ⟨m,rfl,_⟩:=h;exact ⟨m,rfl⟩
theorem zS4 {P:Program} {n:Nat} {t:TypeId} {xs:List D} (I:P.underlying t=some .bool) (h:Shp P n t xs):∃ v,xs=[.lit (.bool v)]:=by
 cases n with
 | zero=>exact h.elim
 | succ n=>unfold Shp at h;rw [I] at h;exact h
theorem zKw:reachBytes<=4611686018427387904:=by decide
theorem zPN {P:Program} {n:Nat} {t:TypeId} {xs:List D} (I:P.underlying t=some .string) (h:Shp P n t xs):∃ s:ByteArray,xs=[.lit (.string s)]/\s.size<=4611686018427387904:=by
 cases n with
 | zero=>exact h.elim
 | succ n=>unfold Shp at h;rw [I] at h;obtain ⟨s,rfl,hs⟩:=h;exact ⟨s,rfl,oe hs zKw⟩
theorem zEX {P:Program} {n:Nat} {t e:TypeId} {xs:List D} (I:P.underlying t=some (.slice e)) (h:Shp P n t xs):∃ m a es c,n=m+1/\xs=[.sl a (zDH P e) es c]/\es.length<=4611686018427387904/\∀ x∈es,Shp P m e x.cells:=by
 cases n with
 | zero=>exact h.elim
 | succ n=>
   unfold Shp at h;rw [I] at h
   obtain ⟨a,es,c,rfl,J,O⟩:=h
   exact ⟨n,a,es,c,rfl,rfl,oe J zKw,O⟩
theorem zEt {P:Program} {n:Nat} {t:TypeId} {xs:List D} {fs:Array Field} (I:P.underlying t=some (.struct fs)) (h:Shp P n t xs):∃ m,n=m+1/\zUB (Shp P m) (fs.toList.map (·.type)) xs:=by
 cases n with
 | zero=>exact h.elim
 | succ n=>unfold Shp at h;rw [I] at h;exact ⟨n,rfl,h⟩
structure Snap (w:World) (cs:List Value) (xs:List D):Prop where
 cv:xs.map D.cv=cs
 cell:∀ x∈xs,x.isCell
 hold:∀ x∈xs,Holds w x
theorem Snap.one {w:World} {v:Value} {x:D} (I:x.cv=v) (J:x.isCell) (O:Holds w x):Snap w [v] [x]:=⟨by simp [I],by simpa using J,by simpa using O⟩
theorem Snap.app {w:World} {us bs:List Value} {xs ys:List D} (h:Snap w us xs) (I:Snap w bs ys):Snap w (us++bs) (xs++ys):=
 ⟨by rw [nh,h.cv,I.cv],λx J=>(oF.1 J).elim (h.cell x) (I.cell x),λx J=>(oF.1 J).elim (h.hold x) (I.hold x)⟩
theorem zF2 {α β γ:Type} {f:α->Option β} {Q:α->γ->Prop}:∀ {l:List α} {r:List β},l.mapM f=some r->(∀ i∈l,∀ y∈r,f i=some y->∃ x,Q i x)->∃ xs:List γ,xs.length=l.length/\∀ (k:Nat) (i:α),l[k]?=some i->∃ x,xs[k]?=some x/\Q i x
 | [],r,h,hq=>⟨[],rfl,λk i J=>by simp at J⟩
 | a :: l,r,h,hq=>by
   rw [List.mapM_cons] at h
   cases O:f a with
   | none=>simp [O] at h
   | some y=>
     cases I:l.mapM f with
     | none=>simp [O,I] at h
     | some ys=>
       have hr:r=y::ys:=by simpa [O,I] using h.symm
       subst hr
       obtain ⟨x,h1⟩:=hq a (by simp) y (by simp) O
       obtain ⟨xs,h2,h3⟩:=zF2 I λi hi y hy=>hq i (by simp [hi]) y (by simp [hy])
       refine ⟨x::xs,by simp [h2],λk i J=>?_⟩
       cases k with
       | zero=>simp at J;subst J;exact ⟨x,rfl,h1⟩
       | succ k=>simp at J;simpa using h3 k i J
variable {H:Type} {enc:TypeId × Value->H} {P:Program} {w:World} {base:Nat} {spare:Nat->Bool} {held:Bool} {T:List TypeId}
theorem zKf:∀ {L:List Field} {o n:Nat},zDb P L o n=true->o<=n
 | [],o,n,h=>by simp [zDb] at h;omega
 | f::L,o,n,h=>by
   simp only [zDb,oL] at h
   have:=zKf h.2
   omega
theorem zFX {g:TypeId->List Value->Option (DataW H × List MemPlace)} {R:TypeId->List D->Prop} {cs:List Value}:∀ {L:List Field} {o N:Nat} {r:List (DataW H × List MemPlace)},zDb P L o N=true->N<=cs.length ->
  (L.mapM λf=>g f.type ((cs.drop f.offset).take (P.cellsOf f.type)))=some r->(∀ x∈DataW.weightsEach P (L.map (·.type)) (r.map (·.1)),x<=reachBytes)->(∀ f∈L,∀ vs y,g f.type vs=some y->(∀ x∈y.1.weights P f.type,x<=reachBytes)->∃ xs,Snap w vs xs/\R f.type xs)->∃ xs,Snap w ((cs.drop o).take (N - o)) xs/\zUB R (L.map (·.type)) xs
 | [],o,N,r,hc,hN,h,hw,hg=>by
   simp [zDb] at hc;subst hc
   exact ⟨[],⟨by simp,by simp,by simp⟩,rfl⟩
 | f :: L,o,N,r,hc,hN,h,hw,hg=>by
   simp only [zDb,oL,mP] at hc
   obtain ⟨aa,O⟩:=hc
   rw [List.mapM_cons] at h
   cases I:g f.type ((cs.drop f.offset).take (P.cellsOf f.type)) with
   | none=>simp [I] at h
   | some y=>
     cases J:(L.mapM λf=>g f.type ((cs.drop f.offset).take (P.cellsOf f.type))) with
     | none=>simp [I,J] at h
     | some ys=>
       have hr:r=y::ys:=by simpa [I,J] using h.symm
       subst hr
       simp only [om,DataW.weightsEach,oF] at hw
       obtain ⟨us,h1,h2⟩:=hg f (by simp) _ y I λx I=>hw x (.inl I)
       obtain ⟨bs,h3,h4⟩:=zFX O hN J (λx I=>hw x (.inr I)) λf hf=>hg f (by simp [hf])
       have ab:=zKf O
       refine ⟨us++bs,?_,us,bs,rfl,h2,h4⟩
       have:=h1.app h3
       rw [aa] at this
       have e:(cs.drop o).take (N - o)=(cs.drop o).take (P.cellsOf f.type)++(cs.drop (o+P.cellsOf f.type)).take (N - (o+P.cellsOf f.type)):=by
        rw [show N - o=P.cellsOf f.type+(N - (o+P.cellsOf f.type)) by omega,List.take_add,List.drop_drop]
       rw [e];exact this
theorem zSf {n:Nat} {t:TypeId} {xs:List D} (h:Shp P n t xs) (hc:∀ x∈xs,x.isCell) (hs:zDH P t=0) (I:∀ fs,P.underlying t≠some (.struct fs)):∃ x,xs=[x]:=by
 cases n with
 | zero=>exact h.elim
 | succ n=>
   unfold Shp at h
   split at h
   ·obtain ⟨v,rfl⟩:=h;exact ⟨_,rfl⟩
   ·obtain ⟨v,rfl,_⟩:=h;exact ⟨_,rfl⟩
   ·obtain ⟨v,rfl,_⟩:=h;exact ⟨_,rfl⟩
   ·obtain ⟨a,es,c,rfl,_⟩:=h;exact ⟨_,rfl⟩
   ·rename_i fs J;exact absurd J (I fs)
   ·exact h.elim
/-- one element: its cells as one datum -/
theorem zS0 {n:Nat} {e:TypeId} {cs:List Value} {xs:List D} (hs:Snap w cs xs) (h:Shp P n e xs) (hl:cs.length=P.cellsOf e) (hz:P.cellsOf e=ez (zDH P e)) :
  ∃ x,x.cells=xs/\eOk (zDH P e) x/\Holds w x:=by
 have aa:xs.length=cs.length:=by rw [<-hs.cv];simp
 by_cases I:∃ fs,P.underlying e=some (.struct fs)
 ·obtain ⟨fs,I⟩:=I
  have J:zDH P e=P.cellsOf e:=by unfold zDH;rw [I]
  have O:P.cellsOf e≠0:=by
   intro h0;rw [J,h0] at hz;simp [ez] at hz
  refine ⟨.ag xs,rfl,?_,.ag hs.hold⟩
  unfold eOk
  rw [J,if_neg O]
  exact ⟨xs,rfl,by omega,hs.cell⟩
 ·have J:zDH P e=0:=by
   unfold zDH;split
   ·rename_i fs hu;exact absurd ⟨fs,hu⟩ I
   ·rfl
  obtain ⟨x,rfl⟩:=zSf h hs.cell J λfs hu=>I ⟨fs,hu⟩
  have hc:=hs.cell x (by simp)
  refine ⟨x,?_,?_,hs.hold x (by simp)⟩
  ·cases x<;>first | exact hc.elim | rfl
  ·unfold eOk;rw [J,if_pos rfl];exact hc
theorem zPD {a:Addr} {n:Nat} {cs:List Value} (h:w.cells? base a n=some cs):cs.length=n/\∀ j u,cs[j]?=some u->w.cell? (a.add j)=some u:=by
 unfold World.cells? at h
 split at h
 ·refine ⟨by have:=mapM_some_length h;simpa using this,λj u J=>?_⟩
  have I:j<n:=by
   have:=mapM_some_length h
   have O:=(oC.1 J).1
   simp at this;omega
  have:=mapM_some_get h j j (by simp [I])
  rw [this];exact J
 ·cases h
theorem zPk {a:Addr} {u:Value} (h:w.cell? a=some u):a.spot=none/\∃ c t fz,w.heap[a.block]?=some (.cells c t fz):=by
 refine ⟨World.cell?_spot h,?_⟩
 unfold World.cell? at h
 split at h
 ·rename_i c t fz I;exact ⟨_,_,_,I⟩
 ·cases h
/-- the elements of a slice stand in memory one behind the other -/
theorem zT2 {a:Addr} {z:Nat} {es:List D} (he:∀ x∈es,eOk z x) (h:∀ (k:Nat) (x:D),es[k]?=some x->∀ (j:Nat) (u:D),x.cells[j]?=some u->w.cell? ((a.add (k*ez z)).add j)=some u.cv):Row w a (yU es)/\(es≠[]->a.spot=none):=by
 by_cases J:es=[]
 ·subst J;exact ⟨.inl rfl,λh=>absurd rfl h⟩
 obtain ⟨x,l,rfl⟩:∃ x l,es=x::l:=by cases es with | nil=>exact absurd rfl J | cons x l=>exact ⟨x,l,rfl⟩
 have hx:=xR (he x (by simp))
 have hp:=zAY z
 obtain ⟨u0,ab⟩:∃ u,x.cells[0]?=some u:=⟨_,oI (by omega)⟩
 have h0:=h 0 x (by simp) 0 u0 ab
 have e0:(a.add (0*ez z)).add 0=a:=by simp [Addr.add]
 rw [e0] at h0
 obtain ⟨hs,c,t,fz,hb⟩:=zPk h0
 refine ⟨.inr ⟨c,t,fz,hb,λi u hu=>?_⟩,λ_=>hs⟩
 have ac:=zW he
 have hi:i<(x::l).length*ez z:=by rw [<-ac];exact (oC.1 hu).1
 have hk:i / ez z<(x::l).length:=(Nat.div_lt_iff_lt_mul hp).2 hi
 have hj:i % ez z<ez z:=Nat.mod_lt _ hp
 have hy:=oI hk
 have ah:=xR (he _ (oD hy))
 have hv:=oI (l:=((x::l)[i / ez z]).cells) (i:=i % ez z) (by omega)
 have O:=p8 he hy hv
 have aa:i / ez z*ez z+i % ez z=i:=by rw [Nat.mul_comm];exact Nat.div_add_mod i (ez z)
 rw [aa,hu] at O
 have I:=h _ _ hy _ _ hv
 have ae:=o9 O
 rw [<-ae] at I
 obtain ⟨b,o,s⟩:=a
 simp only at hs hb ⊢
 subst hs
 rw [xz,xz,mn,aa] at I
 have:=zGI (w:=w) (ad:=⟨b,o,none⟩) rfl hb i
 rw [xz] at this
 rw [this] at I
 exact I
theorem zAn {e:TypeId} {d:DataW H}:∀ {l:List (DataW H)},d∈l->∀ {x:Nat},x∈d.weights P e->x∈DataW.weightsAll P e l
 | d'::l,h,x,I=>by
   simp only [DataW.weightsAll,oF]
   rcases oJ.1 h with rfl | h
   ·exact .inl I
   ·exact .inr (zAn h I)
theorem zDT (hT:T.all (zKG P T)=true):∀ (n:Nat) (t:TypeId) (cs:List Value) (y:DataW H × List MemPlace),t∈T->DataW.trod enc P w base spare held n t cs=some y->(∀ x∈y.1.weights P t,x<=reachBytes)->∃ xs,Snap w cs xs/\Shp P n t xs:=by
 intro n
 induction n with
 | zero=>intro t cs y _ h _;simp [DataW.trod] at h
 | succ n ih=>
   intro t cs y ht h hw
   have J:=oW.1 hT t ht
   unfold zKG at J
   unfold Shp
   unfold DataW.trod at h
   split at h
   ·rename_i I;rw [I];exact ⟨[.lit _],.one rfl rfl .lit,_,rfl⟩
   ·rename_i I;rw [I]
    split at h
    ·rename_i hk;obtain ⟨rfl,hk⟩:=hk
     exact ⟨[.lit _],.one rfl rfl .lit,_,rfl,hk⟩
    ·cases h
   ·rename_i I;rw [I] at J;simp at J
   ·rename_i I;rw [I]
    split at h
    ·cases h
     exact ⟨[.lit _],.one rfl rfl .lit,_,rfl,hw _ (by simp only [DataW.weights,oZ];exact nN.symm)⟩
    ·cases h
   ·rename_i I;rw [I] at J;simp at J
   ·rename_i I;rw [I] at J;simp at J
   ·rename_i e I;rw [I]
    exact ⟨_,.one (x:=.sl none (zDH P e) [] 0) rfl trivial .nil,_,_,_,rfl,Nat.zero_le _,λx hx=>absurd hx (by simp)⟩
   ·rename_i e a len cap I;rw [I] at J ⊢
    simp only [oL,mP,List.contains_iff_mem] at J
    obtain ⟨⟨ah,hz⟩,ab⟩:=J
    have ab:=nP ab
    simp only at h
    split at h
    rotate_left
    ·cases h
    rename_i hb
    obtain ⟨ax,ay,az⟩:=hb
    cases hm:(List.range len).mapM λi=>(w.cells? base (a.add (i*P.cellsOf e)) (P.cellsOf e)).bind (DataW.trod enc P w base spare held n e) with
    | none=>rw [hm] at h;simp at h
    | some elems=>
      have ai:=hm
      rw [hm] at h
      simp only [ma] at h
      obtain ⟨rest,_,hy⟩:=lM.1 h
      subst hy
      simp only [DataW.weights,I,oJ,oF] at hw
      have a6:elems.length=len:=by simpa using mapM_some_length hm
      have a7:len<=reachBytes:=by
       have h1:=hw _ (.inl rfl)
       have h2:((elems.map (·.1)).length+(rest.map (·.1)).length)*1<=((elems.map (·.1)).length+(rest.map (·.1)).length)*P.bytesOf e:=Nat.mul_le_mul_left _ ab
       simp only [nV,Nat.mul_one] at h1 h2
       omega
      have aj:∀ y∈elems,∀ x∈y.1.weights P e,x<=reachBytes:=λy hy x hx=>hw x (.inr (.inl (zAn (oS.2 ⟨y,hy,rfl⟩) hx)))
      obtain ⟨es,hlen,ak⟩:=zF2 (Q:=λi (x:D)=>Shp P n e x.cells/\eOk (zDH P e) x/\Holds w x/\∀ (j:Nat) (u:D),x.cells[j]?=some u->w.cell? ((a.add (i*ez (zDH P e))).add j)=some u.cv) ai λi _ y al hy=>by
       cases hc:w.cells? base (a.add (i*P.cellsOf e)) (P.cellsOf e) with
       | none=>rw [hc] at hy;simp at hy
       | some vs=>
         rw [hc] at hy
         simp only [ma] at hy
         obtain ⟨xs,h1,h2⟩:=ih e vs y ah hy (aj y al)
         obtain ⟨am,ao⟩:=zPD hc
         obtain ⟨x,rfl,h3,h4⟩:=zS0 h1 h2 am hz
         refine ⟨x,h2,h3,h4,λj u I=>?_⟩
         rw [<-hz]
         refine ao j _ ?_
         rw [<-h1.cv,oG,I];rfl
      have hlen:es.length=len:=by simpa using hlen
      have aa:∀ k x,es[k]?=some x->Shp P n e x.cells/\eOk (zDH P e) x/\Holds w x/\∀ (j:Nat) (u:D),x.cells[j]?=some u->w.cell? ((a.add (k*ez (zDH P e))).add j)=some u.cv:=λk x hk=>by
       have aq:k<len:=by rw [<-hlen];exact (oC.1 hk).1
       obtain ⟨x',h1,h2⟩:=ak k k (by simp [aq])
       rw [hk] at h1;cases h1;exact h2
      have O:∀ x∈es,Shp P n e x.cells/\eOk (zDH P e) x/\Holds w x:=λx hx=>by
       obtain ⟨k,hk⟩:=oQ.1 hx
       obtain ⟨h1,h2,h3,_⟩:=aa k x hk;exact ⟨h1,h2,h3⟩
      obtain ⟨ae,ac⟩:=zT2 (a:=a) (λx hx=>(O x hx).2.1) λk x hk=>(aa k x hk).2.2.2
      refine ⟨[.sl (some a) (zDH P e) es cap],.one (by simp [D.cv,hlen]) trivial (.sl ac (by omega) (λx hx=>(O x hx).2.1) (λx hx=>(O x hx).2.2) ae),_,_,_,rfl,by omega,λx hx=>(O x hx).1⟩
   ·rename_i cs _ cs' fs I;rw [I] at J ⊢
    simp only [oL,oW,List.contains_iff_mem] at J
    obtain ⟨hc,au⟩:=J
    split at h
    rotate_left
    ·cases h
    rename_i hl
    cases hm:fs.toList.mapM λf=>DataW.trod enc P w base spare held n f.type ((cs.drop f.offset).take (P.cellsOf f.type)) with
    | none=>rw [hm] at h;simp at h
    | some r=>
      rw [hm] at h
      simp only [ol,o4] at h
      subst h
      simp only [DataW.weights,I] at hw
      obtain ⟨xs,h1,h2⟩:=zFX (R:=Shp P n) hc (by omega) hm hw λf hf vs y hy aw=>ih f.type vs y (au f hf) hy aw
      refine ⟨xs,?_,h2⟩
      simpa [<-hl] using h1
   all_goals (rename_i I;first | (rw [I] at J;simp at J;done) | (exfalso;simp_all;done))
open Go Go.ChangeShapes Go.WideShapes Go.ChangeAt Go.RowKit
/-- a parameter's value is one of its type: a struct's a row of cells, any other one cell -/
theorem zJv {P:Program} {W:World} {r:Reach} {b:Nat} {t:TypeId} {v:Value} {xs:List D} (h:Value.okWide P W r b t v) (I:xs.map D.cv=v.cells.toList) (J:zDH P t≠0):v=(D.ag xs).val/\xs.length=P.cellsOf t:=by
 unfold zDH at J
 split at J
 ·rename_i fs O
  simp only [Value.okWide,O] at h
  obtain ⟨cs,rfl,hl,_⟩:=h
  simp only [Value.cells] at I
  refine ⟨by simp only [D.val,I],?_⟩
  rw [<-hl,<-nN,<-I];simp
 ·exact absurd rfl J
structure Ret1 (W W':World) (e:Ending):Prop where
 e:e=.returned (.bool true)
 old:∀ b,b<W.heap.size->W'.heap[b]?=W.heap[b]?
 size:W.heap.size<=W'.heap.size
 ku:KU W W'
theorem zSZ {av:Nat->Prop} {W W':World} {e:Ending} (h:Fin [.bool] (λr _=>r=true) av W e W'):Ret1 W W' e:=by
 cases e with
 | returned v=>
   obtain ⟨ps,rows,e',hd⟩:=h
   have I:=hd.q
   have J:=hd.v
   refine ⟨?_,hd.old,hd.size,hd.ku⟩
   cases ps with
   | nil=>simp [QT.app] at I
   | cons p ps=>
     cases p<;>simp [QT.app] at I
     cases ps<;>cases rows<;>simp [QT.app] at I
     subst I
     rw [J];rfl
 | _=>exact h.elim
theorem zPi {H:Type} {enc:TypeId × Value->H} {P:Program} {fn:Func} {s:ChangeSpec} {apart fresh I:Bool} {W W':World} {args:Array Value} {ds gs:List (DataW H)} {J:List MemPlace} {tb:TypeId} {e:Ending}
  (K:Kids P (·<P.types.size)) (full:∀ t e,t<P.types.size->P.underlying t=some (.slice e)->0<P.cellsOf e)
  (aa:∀ t∈fn.params.toList,t<P.types.size) (hv:s.vars=[]) (ae:fn.resultTypes=#[tb]) (ah:P.underlying tb=some .bool)
  (hs:s.fn H (ds++gs)={ results:=[.lit (.bool true)],args:=ds })
  (hW:DataW.Whole enc P fn.params.toList s.vars apart W args.toList ds gs J) (hr:Ret1 W W' e) :
  ∃ v,e=.returned v/\s.post enc P fn apart fresh I false W args v W':=by
 refine ⟨_,hr.e,?_⟩
 have ab:=hW
 obtain ⟨p,q,hA,hV,rfl,aj,_⟩:=hW
 rw [hv] at hV
 obtain ⟨rfl,rfl⟩:=trodVars_none hV
 have ac:∀ x∈p++[],x.block<W.heap.size:=ab.lt
 have O:∀ {ts:List TypeId} {vs:List Value} {ds:List (DataW H)} {ps:List MemPlace},DataW.TrodAll enc P W 0 (λ_=>true) true ts vs ds ps->(∀ x∈ps,x.block<W.heap.size)->DataW.TrodAll enc P W' 0 (λ_=>true) true ts vs ds ps:=by
  intro ts
  induction ts with
  | nil=>intro vs ds ps h _;obtain ⟨rfl,rfl,rfl⟩:=trodAll_nil h;exact trodAll_mk0
  | cons t ts ih=>
    intro vs ds ps h hl
    obtain ⟨v,ak,d,ds1,a,b,rfl,rfl,rfl,⟨n,h1⟩,h2⟩:=trodAll_cons h
    refine ⟨a,b,⟨n,DataW.trod_carry n _ _ _ h1 λx hx=>?_⟩,ih h2 λx hx=>hl x (by simp [hx]),rfl⟩
    have hb:=hr.old _ (hl x (by simp [hx]))
    cases x with
    | cell b off=>simp only [World.sameAt,World.cell?,MemPlace.block] at hb ⊢;rw [hb]
    | map b=>exact hb
 have ai:=O hA λx hx=>ac x (by simp [hx])
 refine ⟨ds,[],p++[],[],p,[],ab,?_,?_,?_,⟨hr.ku.os,hr.ku.out,λi hi=>?_⟩,λh=>by cases h⟩
 ·rw [hs,ae]
  exact trodAll_mk1 ⟨1,by simp [DataW.trod,Value.cells,ah]⟩
 ·rw [hs]
  exact DataW.TrodAll.respare K full aa ai λx hx=>by simpa using ac x (by simp [hx])
 ·rw [hs,hv];rfl
 ·rw [hr.old i hi]
  cases hb:W.heap[i]? with
  | none=>rfl
  | some o=>
    cases o with
    | cells c t fr=>exact ⟨rfl,rfl,rfl,λ_ _=>rfl⟩
    | map es clock=>exact .inr ⟨rfl,rfl⟩
    | _=>rfl
open Go Go.Proofs Go.Proofs.Tryz Go.ChangeShapes Go.WideShapes Go.ChangeAt Go.RowKit
theorem zVU:Kids prog (·<prog.types.size):=kids_rows (by kernel_rfl) (by kernel_rfl)
theorem full:∀ t e,t<prog.types.size->prog.underlying t=some (.slice e)->0<prog.cellsOf e:=slices_full_of prog (by kernel_rfl)
/-- the types that the laws' arguments are made of -/
def TT:List TypeId:=[9,25,3,23,28,26,22,64,4,59,47,5]
theorem zMY:TT.all (zKG prog TT)=true:=by kernel_rfl
theorem zKL:ownKnob prog.godebug=none:=by kernel_rfl
/-- the weights of each argument's reading -/
theorem zHF {H:Type} {P:Program} {I:List TypeId} {ds:List (DataW H)} (h:(DataW.weightsEach P I ds).all (·<=reachBytes)=true) {j:Nat} {t:TypeId} {d:DataW H} (J:I[j]?=some t) (hd:ds[j]?=some d):∀ n∈d.weights P t,n<=reachBytes:=λn O=>by
 have:=oW.1 h _ (DataW.weights_mem_each J hd n O)
 simpa using this
/-- a slice that came in -/
theorem zQq {H:Type} {enc:TypeId × Value->H} {P:Program} {T:List TypeId} (hT:T.all (zKG P T)=true) {W:World} {r:Reach} {b:Nat} {t e:TypeId} {v:Value} {d:DataW H} {ps:List MemPlace} (O:t∈T) (J:P.underlying t=some (.slice e))
  (I:Value.okWide P W r b t v) (h:DataW.Trod enc P W 0 (λ_=>true) true t v d ps) (hw:∀ n∈d.weights P t,n<=reachBytes):∃ (n:Nat) (a:Option Addr) (es:List D) (c:Nat),(PV.sv a (zDH P e) es c).val []=v/\Holds W (.sl a (zDH P e) es c)/\Shp P n t [.sl a (zDH P e) es c]:=by
 obtain ⟨n,h⟩:=h
 obtain ⟨a0,len,cap,rfl⟩:=okWide_slice J I
 obtain ⟨xs,s,k⟩:=zDT hT n t _ _ O h hw
 obtain ⟨m,a,es,c,rfl,rfl,_,_⟩:=zEX J k
 have e0:(D.sl a (zDH P e) es c).cv=.slice a0 len cap:=by
  have:=s.cv
  simpa [Value.cells] using this
 exact ⟨_,a,es,c,e0,s.hold _ (by simp),k⟩
/-- a struct that came in -/
theorem zPI {H:Type} {enc:TypeId × Value->H} {P:Program} {T:List TypeId} (hT:T.all (zKG P T)=true) {W:World} {r:Reach} {b:Nat} {t:TypeId} {v:Value} {d:DataW H} {ps:List MemPlace} (J:t∈T) (O:zDH P t≠0)
  (I:Value.okWide P W r b t v) (h:DataW.Trod enc P W 0 (λ_=>true) true t v d ps) (hw:∀ n∈d.weights P t,n<=reachBytes):∃ (n:Nat) (xs:List D),(PV.dg (P.cellsOf t) (.ag xs)).val []=v/\Holds W (.ag xs)/\IsAg (P.cellsOf t) (.ag xs)/\Shp P n t xs:=by
 obtain ⟨n,h⟩:=h
 obtain ⟨xs,s,k⟩:=zDT hT n t _ _ J h hw
 obtain ⟨e1,hl⟩:=zJv I s.cv O
 exact ⟨n,xs,e1.symm,.ag s.hold,⟨xs,rfl,hl,s.cell⟩,k⟩
end Go.Proofs.YtlahkdflngobiaaGreatDoor
set_option maxRecDepth 100000
namespace Go.Proofs.YtlahkdflngobiaaGreatDoor
open Go Go.Proofs Go.Proofs.Tryz
theorem rS {α:Type} {R:α->D->Prop}:∀ {es:List D},(∀ x∈es,∃ t,R t x)->∃ l,All2 R l es
 | [],_=>⟨[],rfl⟩
 | x::es,h=>by
   obtain ⟨t,I⟩:=h x (by simp)
   obtain ⟨l,J⟩:=rS (es:=es) λy O=>h y (by simp [O])
   exact ⟨t::l,x,es,rfl,I,J⟩
theorem zTK {x:D} {n:Nat} (h:x.cells.length=n) (I:n≠1):x=.ag x.cells:=by
 cases x<;>first | rfl | (simp [D.cells] at h;exact absurd h.symm I)
theorem zVL:zDH prog 25=2:=by kernel_rfl
theorem zUz:zDH prog 28=9:=by kernel_rfl
theorem zFV:∀ (n:Nat) (xs:List D),Shp prog n 25 xs->∃ I J,xs=[I,J]/\∃ t:Ty,t.Is (.ag [I,J]):=by
 intro n
 induction n using Nat.strongRecOn with
 | ind n ih=>
 intro xs h
 ·obtain ⟨n,rfl,h⟩:=zEt underlying25 h
  obtain ⟨a,b,rfl,h1,a2,b2,rfl,h2,rfl⟩:=h
  obtain ⟨m,rfl⟩:=zP0 underlying3 h1
  obtain ⟨m',a,es,c,rfl,rfl,hl,hx⟩:=zEX underlying23 h2
  rw [zVL]
  obtain ⟨l,O⟩:=rS (R:=Ty.Is) (es:=es) λx aa=>by
   obtain ⟨I,J,hc,t,ht⟩:=ih m' (by omega) _ (hx x aa)
   refine ⟨t,?_⟩
   rw [zTK (x:=x) (n:=2) (by rw [hc];rfl) (by decide),hc];exact ht
  exact ⟨_,_,rfl,.mk m l,Ty.is_mk.2 ⟨a,es,c,rfl,hl,O⟩⟩
theorem zPK:∀ (n:Nat) (xs:List D),Shp prog n 28 xs->∃ t:Tm,t.Is (.ag xs)/\xs.length=9:=by
 intro n
 induction n using Nat.strongRecOn with
 | ind n ih=>
 intro xs h
 ·obtain ⟨n,rfl,h⟩:=zEt underlying28 h
  obtain ⟨a1,b1,rfl,h1,a2,b2,rfl,h2,a3,b3,rfl,h3,a4,b4,rfl,h4,a5,b5,rfl,h5,a6,b6,rfl,h6,a7,b7,rfl,h7,rfl⟩:=h
  obtain ⟨k,rfl⟩:=zP0 underlying3 h1
  obtain ⟨nm,rfl,I⟩:=zPN underlying9 h2
  obtain ⟨ot,rfl,J⟩:=zPN underlying9 h3
  obtain ⟨m,rfl⟩:=zP0 underlying3 h4
  obtain ⟨t0,t1,rfl,ty,O⟩:=zFV _ _ h5
  obtain ⟨r0,r1,rfl,re,aa⟩:=zFV _ _ h6
  obtain ⟨m',a,es,c,rfl,rfl,hl,hx⟩:=zEX underlying26 h7
  rw [zUz]
  obtain ⟨l,ab⟩:=rS (R:=Tm.Is) (es:=es) λx ac=>by
   obtain ⟨t,ht,ae⟩:=ih m' (by omega) _ (hx x ac)
   refine ⟨t,?_⟩
   rw [zTK ae (by decide)];exact ht
  exact ⟨.mk k nm ot m ty re l,Tm.is_mk.2 ⟨t0,t1,r0,r1,a,es,c,rfl,⟨I,J,O,aa⟩,hl,ab⟩,rfl⟩
end Go.Proofs.YtlahkdflngobiaaGreatDoor
set_option maxRecDepth 100000
namespace Go.Proofs.YtlahkdflngobiaaGreatDoor
open Go Go.Proofs Go.Proofs.Tryz
theorem zU2:zDH prog 64=4:=by kernel_rfl
theorem zNi {n:Nat} {xs:List D} (h:Shp prog n 22 xs):∃ a es c,xs=[.sl a 4 es c]/\∃ g,Pms g es:=by
 obtain ⟨m,a,es,c,rfl,rfl,hl,hx⟩:=zEX underlying22 h
 rw [zU2]
 refine ⟨a,es,c,rfl,?_⟩
 obtain ⟨g,hg⟩:=rS (R:=Pm.Is) (es:=es) λx I=>by
  have h:=hx x I
  ·obtain ⟨m,rfl,h⟩:=zEt underlying64 h
   obtain ⟨a1,b1,hc,h1,a2,b2,rfl,h2,a3,b3,rfl,h3,rfl⟩:=h
   obtain ⟨nm,rfl,J⟩:=zPN underlying9 h1
   obtain ⟨t0,t1,rfl,ty,O⟩:=zFV _ _ h2
   obtain ⟨dy,rfl⟩:=zS4 underlying4 h3
   refine ⟨⟨nm,ty,dy⟩,t0,t1,?_,J,O⟩
   rw [zTK (x:=x) (n:=4) (by rw [hc];rfl) (by decide),hc];rfl
 exact ⟨g,hl,hg⟩
end Go.Proofs.YtlahkdflngobiaaGreatDoor
set_option maxRecDepth 100000
namespace Go.Proofs.YtlahkdflngobiaaGreatDoor
open Go Go.Proofs Go.Proofs.Tryz Go.ChangeShapes Go.WideShapes Go.ChangeAt Go.RowKit
/-- the list that all rows bear -/
def zCm : List (String × DataW Unit) := [("math/bits.deBruijn32tab", Rows.laid_math_bits_deBruijn32tab), ("math/bits.deBruijn64tab", Rows.laid_math_bits_deBruijn64tab), ("internal/strconv.uint64pow10", Rows.laid_internal_strconv_uint64pow10)]
theorem zVE : prog.globalNamed "internal/strconv.uint64pow10" = some 0 := by kernel_rfl
theorem zVK:(prog.globals[0]?).map (·.type)=some 197:=by kernel_rfl
theorem zVG:prog.cellsOf 197=20:=by kernel_rfl
theorem zUi:prog.cellsOf 191=1:=by kernel_rfl
theorem zIq {W:World} (h:laidMetH prog zCm W):GlobIs W:=by
 rw [MakeChecks.laidMetH_plain _ _ _ (by kernel_rfl)] at h
 have h2 : laidMet prog (("internal/strconv.uint64pow10", Lib.tabData .u64 Lib.pow10Tab) :: []) W := h.tail.tail
 have I:=Lib.tabIs_of_head zVE zVK underlying197 underlying191 zUi zVG h2
 unfold Lib.TabIs World.var? at I
 rw [zVE] at I
 refine ⟨λx J=>?_⟩
 simp only [glob,oJ,nK,mm] at J
 subst J
 simp only [Option.bind] at I
 cases O:W.heap[0]? with
 | none=>rw [O] at I;cases I
 | some o=>
   rw [O] at I
   cases o with
   | cells c t z=>simp only [o4] at I;subst I;exact ⟨t,z,rfl⟩
   | _=>cases I
theorem zTf {W:World} (h:laidMetH prog zCm W):Avl avG W []:=⟨λb I=>(zIq h).lt I,zIq h,λb I=>I,λb I=>by simp⟩
theorem zNw {W:World} (g:GlobIs W) {ad:Addr} {cs:List D} {k:Int} (h:Row W ad cs) (h0:cs[0]?=some (.lit (.int .i64 k))):¬avG ad.block:=by
 rintro ⟨x,J,hb⟩
 obtain ⟨t,fz,h1⟩:=g.h x J
 rw [hb] at h1
 rcases h with rfl | ⟨c,t',aa,I,h3⟩
 ·simp at h0
 ·rw [h1] at I
  injection I with I
  injection I with e1 e2 e3
  have O:=h3 0 _ h0
  rw [<-e1] at O
  simp only [glob,oJ,nK,mm] at J
  subst J
  simp only [mq,oG,lM,D.cv] at O
  obtain ⟨n,_,hn⟩:=O
  cases hn
theorem zLC {W:World} (g:GlobIs W) {a:Option Addr} {z:Nat} {es:List D} {c:Nat} (h:Holds W (.sl a z es c)) (O:∀ e∈es,∃ k cs,e=.ag (.lit (.int .i64 k)::cs)) (J:∀ e∈es,∀ b∈e.foot,¬avG b):∀ b∈(D.sl a z es c).foot,¬avG b:=by
 intro b hb
 have tail:b∈zB es->¬avG b:=λh=>by
  obtain ⟨e,he,hb⟩:=zF.1 h
  exact J e he b hb
 cases a with
 | none=>simp only [D.foot] at hb;exact tail hb
 | some ad=>
   cases es with
   | nil=>simp [D.foot] at hb
   | cons e es=>
     simp only [D.foot,List.isEmpty_cons] at hb
     rcases oJ.1 (by simpa using hb) with rfl | hb
     ·cases h with
      | sl _ _ _ _ I=>
        obtain ⟨k,cs,rfl⟩:=O e (by simp)
        exact zNw g I (k:=k) (by simp [yU,D.cells])
     ·exact tail (by simpa [zB] using hb)
theorem zIC {W:World} {cs:List D} (h:Holds W (.ag cs)):∀ c∈cs,Holds W c:=by cases h with | ag h=>exact h
theorem zJN {W:World} {a:Option Addr} {z:Nat} {es:List D} {c:Nat} (h:Holds W (.sl a z es c)):∀ e∈es,Holds W e:=by
 cases h with
 | nil=>simp
 | sl _ _ _ h _=>exact h
theorem po {α:Type} {R:α->D->Prop}:∀ {l:List α} {es:List D},All2 R l es->∀ e∈es,∃ x∈l,R x e
 | [],es,h,e,he=>by cases h;simp at he
 | x::l,es,h,e,he=>by
   obtain ⟨y,ys,rfl,I,J⟩:=h
   rcases oJ.1 he with rfl | he
   ·exact ⟨x,by simp,I⟩
   ·obtain ⟨z,O,hr⟩:=po J e he
    exact ⟨z,by simp [O],hr⟩
theorem zFu {W:World} (g:GlobIs W):∀ (t:Ty) (d:D),t.Is d->Holds W d->∀ b∈d.foot,¬avG b:=by
 refine Ty.ind λk l ih d hd hH=>?_
 obtain ⟨a,es,c,rfl,_,I⟩:=Ty.is_mk.1 hd
 have h2:=zIC hH (.sl a 2 es c) (by simp)
 intro b hb
 simp only [D.foot,zB,oR,oY] at hb
 refine zLC g h2 (λe J=>?_) (λe J=>?_) b (by simpa only [D.foot] using hb)
 ·obtain ⟨x,_,O⟩:=po I e J
  cases x with
  | mk k2 l2=>obtain ⟨a2,ab,c2,rfl,_,_⟩:=Ty.is_mk.1 O;exact ⟨_,_,rfl⟩
 ·obtain ⟨x,aa,O⟩:=po I e J
  exact ih x aa e O (zJN h2 e J)
theorem zPo {W:World} (g:GlobIs W):∀ (t:Tm) (d:D),t.Is d->Holds W d->∀ b∈d.foot,¬avG b:=by
 refine Tm.ind λk nm ot n ty re l ih d hd hH=>?_
 obtain ⟨t0,t1,r0,r1,a,es,c,rfl,hh,_,J⟩:=Tm.is_mk.1 hd
 have hA:=zIC hH
 have h2:=hA (.sl a 9 es c) (by simp)
 have hT:=zFu g ty _ hh.ty (.ag λc hc=>hA c (by simp only [oJ,nK,mm] at hc ⊢;rcases hc with rfl | rfl<;>simp))
 have hR:=zFu g re _ hh.re (.ag λc hc=>hA c (by simp only [oJ,nK,mm] at hc ⊢;rcases hc with rfl | rfl<;>simp))
 have hS:=zLC g h2 (λe O=>by
  obtain ⟨x,_,hx⟩:=po J e O
  cases x with
  | mk _ _ _ _ _ _ _=>obtain ⟨_,_,_,_,_,_,_,rfl,_,_,_⟩:=Tm.is_mk.1 hx;exact ⟨_,_,rfl⟩) (λe O=>by
  obtain ⟨x,aa,hx⟩:=po J e O
  exact ih x aa e hx (zJN h2 e O))
 intro b hb
 obtain ⟨u,hu,I⟩:=zF.1 (show b∈zB _ from hb)
 simp only [oJ,nK,mm] at hu
 rcases hu with rfl | rfl | rfl | rfl | rfl | rfl | rfl | rfl | rfl
 ·simp [D.foot] at I
 ·simp [D.foot] at I
 ·simp [D.foot] at I
 ·simp [D.foot] at I
 ·exact hT b (zF.2 ⟨_,by simp,I⟩)
 ·exact hT b (zF.2 ⟨_,by simp,I⟩)
 ·exact hR b (zF.2 ⟨_,by simp,I⟩)
 ·exact hR b (zF.2 ⟨_,by simp,I⟩)
 ·exact hS b I
/-- The door's own heap meets the condition. -/
theorem zRo (os:Os) (args:Array Value):laidMetH prog zCm ((World.doorLaid prog 400 os).forCall (λ_ _=>0) ⟨#[],args,[]⟩).memory:=
 laidMetH_of_parts3 (fuel:=8) (laidMet_of_run' 8 (by kernel_rfl) (by kernel_rfl)) (by kernel_rfl) (by kernel_rfl)
end Go.Proofs.YtlahkdflngobiaaGreatDoor
set_option maxRecDepth 100000
namespace Go.Proofs.YtlahkdflngobiaaGreatDoor
open Go Go.Proofs Go.Proofs.Tryz
theorem zNk {W:World} (g:GlobIs W) {ad:Addr} {cs:List D} {s:ByteArray} (h:Row W ad cs) (h0:cs[0]?=some (.lit (.string s))):¬avG ad.block:=by
 rintro ⟨x,J,hb⟩
 obtain ⟨t,fz,h1⟩:=g.h x J
 rw [hb] at h1
 rcases h with rfl | ⟨c,t',aa,I,h3⟩
 ·simp at h0
 ·rw [h1] at I
  injection I with I
  injection I with e1 e2 e3
  have O:=h3 0 _ h0
  rw [<-e1] at O
  simp only [glob,oJ,nK,mm] at J
  subst J
  simp only [mq,oG,lM,D.cv] at O
  obtain ⟨n,_,hn⟩:=O
  cases hn
theorem zNu {W:World} (g:GlobIs W) {l:List Pm} {es:List D} (h:Pms l es) {a:Option Addr} {c:Nat} (hH:Holds W (.sl a 4 es c)):∀ b∈(D.sl a 4 es c).foot,¬avG b:=by
 have aa:=zJN hH
 have I:∀ e∈es,(∃ s cs,e=.ag (.lit (.string s)::cs))/\∀ b∈e.foot,¬avG b:=λe O=>by
  obtain ⟨x,_,t0,t1,rfl,_,ab⟩:=po h.all e O
  refine ⟨⟨_,_,rfl⟩,λb hb=>?_⟩
  have hA:=zIC (aa _ O)
  have hT:=zFu g x.ty _ ab (.ag λc hc=>hA c (by simp only [oJ,nK,mm] at hc ⊢;rcases hc with rfl | rfl<;>simp))
  refine hT b ?_
  simpa only [D.foot,zB,oR,oY] using hb
 intro b hb
 have tail:b∈zB es->¬avG b:=λh=>by
  obtain ⟨e,O,hb⟩:=zF.1 h
  exact (I e O).2 b hb
 cases a with
 | none=>simp only [D.foot] at hb;exact tail hb
 | some ad=>
   cases es with
   | nil=>simp [D.foot] at hb
   | cons e es=>
     simp only [D.foot,List.isEmpty_cons] at hb
     rcases oJ.1 (by simpa using hb) with rfl | hb
     ·cases hH with
      | sl _ _ _ _ J=>
        obtain ⟨s,cs,rfl⟩:=(I e (by simp)).1
        exact zNk g J (s:=s) (by simp [yU,D.cells])
     ·exact tail (by simpa [zB] using hb)
open Go Go.Proofs Go.Proofs.Tryz Go.ChangeShapes Go.WideShapes Go.ChangeAt Go.RowKit
set_option maxHeartbeats 1600000 in
set_option maxRecDepth 100000 in
theorem rt (os:Os) (I:os.Started) (H:Type) (enc:TypeId × Value->H) :
  ReturnsInHanded {} checked os 5 .any (λw args=>(Rows.fnExactShareBodySpec.pre enc prog Tryz.f5 [] false w args/\laidMetH prog zCm w)/\sizedMet enc prog Tryz.f5 (OpenSpec.ofChange Rows.fnExactShareBodySpec) false w args)
   (Rows.fnExactShareBodySpec.post enc prog Tryz.f5 false true false false):=by
 refine returnsInHanded_of_change_and (C:=checked) (X:=λw _=>laidMetH prog zCm w) (λ_ _ _ hh h=>h.of_heap hh) zKL I (by kernel_rfl) func5
  (ChangeSpec.witness_shaped (enc:=enc) (C:=checked) (os:=os) (X:=λw _=>laidMetH prog zCm w) false (World.doorLaid prog 400 os) #[.slice none 0 0,.agg #[.int .i64 0,.string ⟨#[]⟩,.string ⟨#[]⟩,.int .i64 0,.int .i64 0,.slice none 0 0,.int .i64 0,.slice none 0 0,.slice none 0 0]] 8 rfl (World.shaped_of_RefB (by kernel_rfl) (by kernel_rfl)) (by kernel_rfl) (by kernel_rfl) (by kernel_rfl) (zRo os _)) ?_
 intro W base args ds gs aq ab hW _ J hL _
 have O:∀ (j:Nat) t v,Tryz.f5.params[j]?=some t->args[j]?=some v->Value.okWide prog W .any base t v:=ab
 have au:=hW
 obtain ⟨p,q,aw,hV,rfl,a6,_⟩:=hW
 have hA:DataW.TrodAll enc prog W 0 (λ_=>true) true Tryz.f5.params.toList args.toList ds p:=aw
 have J:(DataW.weightsEach prog (Tryz.f5.params.toList++[]) (ds++gs)).all (·<=reachBytes)=true:=J
 rw [params5] at hA O J
 obtain ⟨v0,v1,d0,d1,p0,p1,rfl,rfl,rfl,h0,h1⟩:=trodAll_two hA
 obtain ⟨rfl,rfl⟩:=trodVars_none hV
 have ax:prog.cellsOf 28=9:=by kernel_rfl
 obtain ⟨n0,ah,ai,aj,e0,ac,k0⟩:=zQq zMY (by decide) underlying22 (O 0 22 v0 rfl rfl) h0 (zHF J (j:=0) rfl rfl)
 rw [zU2] at e0 ac k0
 obtain ⟨a7,az,a8,ak,g0,aa⟩:=zNi k0
 cases ak
 obtain ⟨n1,ay,e1,al,am,k1⟩:=zPI zMY (by decide) (by rw [zUz];decide) (O 1 28 v1 rfl rfl) h1 (zHF J (j:=1) rfl rfl)
 rw [ax] at e1 am
 obtain ⟨t1,ao,_⟩:=zPK _ _ k1
 have hc:=(zJH aa ao ah aj W.heap.size).h avG W rfl (zTf hL) (λp hp=>by
  simp only [oJ,nK,mm] at hp
  rcases hp with rfl | rfl
  ·exact ⟨⟨ac,zNu (zIq hL) aa ac⟩,rfl⟩
  ·exact ⟨⟨⟨al,zPo (zIq hL) _ _ ao al⟩,am⟩,rfl⟩)
 have ae:([PV.sv ah 4 ai aj,.dg 9 (.ag ay)].map (PV.val [])).toArray=#[v0,v1]:=by
  simp only [om,mI,e0,e1]
  try rfl
 rw [ae] at hc
 refine hc.mono λe W' hf=>?_
 exact zPi zVU full (by rw [params5];decide) rfl (by kernel_rfl) underlying4 rfl au (zSZ hf)
theorem zAP:Rows.FnExactShareBodySaid:=
 OpenClaim.holds_of_wide 5 Tryz.f5 rfl rfl rfl rfl rfl rfl rfl ⟨rfl,rfl,rfl,rfl,rfl⟩ rfl rfl rfl rfl rfl (by kernel_rfl) func5 (by kernel_rfl)
  (nP (by kernel_rfl)) (by unfold Func.isWrapper;first | (rw [if_pos (by decide +kernel)];kernel_rfl) | (rw [if_neg (by decide +kernel)];exact ⟨rfl,rfl⟩))
  (λos I H enc _=>rt os I H enc)
theorem fnExactShareBody_holds:Rows.FnExactShareBodyCardSaid:=
 Claim7.holds_tied_plain_at .later [] [.data,.data,.data] true Rows.fnExactShareBodyCard.stood.harness false
  zAP (fun _ h=>by cases h) (by kernel_rfl) (fun _ h=>by cases h) fnExactShareBody_row_tie rfl ⟨rfl,rfl⟩ (by kernel_rfl) rfl
  (fun f fn hf hfn=>by
   obtain rfl : f = 5 := o9 ((show prog.funcNamed "loop.example/g00589/laws.FnExactShareBody" = some 5 by kernel_rfl).symm.trans hf) |>.symm
   obtain rfl:fn=Tryz.f5:=(o9 (func5.symm.trans hfn)).symm
   exact ⟨by kernel_rfl,fun j t ht=>by
    rw [params5] at ht
    have hm:t∈[22,28]:=by simpa using Array.mem_of_getElem? ht
    have hall:([22,28].all fun u=>!prog.wantsStandIn u)=true:=by kernel_rfl
    exact (show prog.wantsStandIn t=false by simpa using oW.1 hall t hm)⟩)
  (by kernel_rfl)
#print axioms fnExactShareBody_holds
end Go.Proofs.YtlahkdflngobiaaGreatDoor
