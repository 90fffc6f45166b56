/- What the reader of data has read is a snapshot; the form of a snapshot by its type. -/
import Derived.Test.YtlahkdflngobiaaGreatDoorJh
import Derived.ProofKit
import Derived.ReadAgain
import Derived.ChangeSame
import Derived.Test.YtlahkdflngobiaaGreatDoorRows
import Derived.SizedLaws
import Derived.Test.YtlahkdflngobiaaGreatDoorA4
import Derived.Test.YtlahkdflngobiaaGreatDoorB2
import Derived.Lib.LaidTab
import Derived.Lib.ItoaNum
import Derived.Stop.LaidErr
import Derived.LaidMore
import Derived.OpenShut
import Derived.MakeChecks
import Derived.Test.YtlahkdflngobiaaGreatDoorCards
import Derived.Test.YtlahkdflngobiaaGreatDoorTie
import Derived.SevenTiedAt
import Derived.Test.YtlahkdflngobiaaGreatDoorC6
set_option linter.unusedVariables false
set_option linter.unusedSimpArgs false
namespace Go.Proofs.YtlahkdflngobiaaGreatDoor
open Go
def zGh (P:Program) (e:TypeId):Nat:=match P.underlying e with | some (.struct _)=>P.cellsOf e | _=>0
def zDw (P:Program):List Field->Nat->Nat->Bool
 | [],o,n=>o==n
 | f::fs,o,n=>f.offset==o&&zDw P fs (o+P.cellsOf f.type) n
def zNI (P:Program) (T:List TypeId) (t:TypeId):Bool:=
 match P.underlying t with
 | some .bool=>true
 | some (.int _)=>true
 | some .string=>true
 | some (.slice e)=>T.contains e&&(P.cellsOf e==ez (zGh P e))&&decide (0<P.bytesOf e)
 | some (.struct fs)=>zDw P fs.toList 0 (P.cellsOf t)&&fs.toList.all λf=>T.contains f.type
 | _=>false
def zVP (R:TypeId->List D->Prop):List TypeId->List D->Prop
 | [],xs=>xs=[]
 | t::I,xs=>∃ a b,xs=a++b/\R t a/\zVP R I b
/-- the form of a snapshot's cells, by type; the number bounds the depth -/
def Shp (P:Program):Nat->TypeId->List D->Prop
 | 0,_,_=>False
 | n+1,t,xs=>match P.underlying t with
   | some .bool=>∃ v,xs=[.lit (.bool v)]
   | some (.int k)=>∃ m,xs=[.lit (.int k m)]/\(Lit.int k m).wf=true
   | some .string=>∃ s:ByteArray,xs=[.lit (.string s)]/\s.size<=reachBytes
   | some (.slice e)=>∃ a es c,xs=[.sl a (zGh P e) es c]/\es.length<=reachBytes/\∀ x∈es,Shp P n e x.cells
   | some (.struct fs)=>zVP (Shp P n) (fs.toList.map (·.type)) xs
   | _=>False
theorem zUs {P:Program} {n:Nat} {t:TypeId} {xs:List D} {k:IntKind} (I:P.underlying t=some (.int k)) (h:Shp P n t xs):∃ m,xs=[.lit (.int k m)]:=by
 cases n with
 | zero=>exact h.elim
 | succ n=>unfold Shp at h;rw [I] at h;obtain ⟨m,rfl,_⟩:=h;exact ⟨m,rfl⟩
theorem zQH:reachBytes<=4611686018427387904:=by decide
theorem zM1 {P:Program} {n:Nat} {t e:TypeId} {xs:List D} (I:P.underlying t=some (.slice e)) (h:Shp P n t xs):∃ m a es c,n=m+1/\xs=[.sl a (zGh P e) es c]/\es.length<=4611686018427387904/\∀ x∈es,Shp P m e x.cells:=by
 cases n with
 | zero=>exact h.elim
 | succ n=>
   unfold Shp at h;rw [I] at h
   obtain ⟨a,es,c,rfl,J,O⟩:=h
   exact ⟨n,a,es,c,rfl,rfl,oZ J zQH,O⟩
structure Snap (w:World) (cs:List Value) (xs:List D):Prop where
 cv:xs.map D.cv=cs
 cell:∀ x∈xs,x.isCell
 hold:∀ x∈xs,Holds w x
theorem Snap.one {w:World} {v:Value} {x:D} (I:x.cv=v) (J:x.isCell) (O:Holds w x):Snap w [v] [x]:=⟨by simp [I],by simpa using J,by simpa using O⟩
theorem Snap.app {w:World} {us bs:List Value} {xs ys:List D} (h:Snap w us xs) (I:Snap w bs ys):Snap w (us++bs) (xs++ys):=
 ⟨by rw [nW,h.cv,I.cv],λx J=>(oG.1 J).elim (h.cell x) (I.cell x),λx J=>(oG.1 J).elim (h.hold x) (I.hold x)⟩
theorem zGI {α β γ:Type} {f:α->Option β} {Q:α->γ->Prop}:∀ {l:List α} {r:List β},l.mapM f=some r->(∀ i∈l,∀ y∈r,f i=some y->∃ x,Q i x)->∃ xs:List γ,xs.length=l.length/\∀ (k:Nat) (i:α),l[k]?=some i->∃ x,xs[k]?=some x/\Q i x
 | [],r,h,hq=>⟨[],rfl,λk i J=>by simp at J⟩
 | a :: l,r,h,hq=>by
   rw [List.mapM_cons] at h
   cases O:f a with
   | none=>simp [O] at h
   | some y=>
     cases I:l.mapM f with
     | none=>simp [O,I] at h
     | some ys=>
       have hr:r=y::ys:=by simpa [O,I] using h.symm
       subst hr
       obtain ⟨x,h1⟩:=hq a (by simp) y (by simp) O
       obtain ⟨xs,h2,h3⟩:=zGI I λi hi y hy=>hq i (by simp [hi]) y (by simp [hy])
       refine ⟨x::xs,by simp [h2],λk i J=>?_⟩
       cases k with
       | zero=>simp at J;subst J;exact ⟨x,rfl,h1⟩
       | succ k=>simp at J;simpa using h3 k i J
variable {H:Type} {enc:TypeId × Value->H} {P:Program} {w:World} {base:Nat} {spare:Nat->Bool} {held:Bool} {T:List TypeId}
theorem zKx:∀ {L:List Field} {o n:Nat},zDw P L o n=true->o<=n
 | [],o,n,h=>by simp [zDw] at h;omega
 | f::L,o,n,h=>by
   simp only [zDw,oL] at h
   have:=zKx h.2
   omega
theorem zFq {g:TypeId->List Value->Option (DataW H × List MemPlace)} {R:TypeId->List D->Prop} {cs:List Value}:∀ {L:List Field} {o N:Nat} {r:List (DataW H × List MemPlace)},zDw P L o N=true->N<=cs.length ->
  (L.mapM λf=>g f.type ((cs.drop f.offset).take (P.cellsOf f.type)))=some r->(∀ x∈DataW.weightsEach P (L.map (·.type)) (r.map (·.1)),x<=reachBytes)->(∀ f∈L,∀ vs y,g f.type vs=some y->(∀ x∈y.1.weights P f.type,x<=reachBytes)->∃ xs,Snap w vs xs/\R f.type xs)->∃ xs,Snap w ((cs.drop o).take (N - o)) xs/\zVP R (L.map (·.type)) xs
 | [],o,N,r,hc,hN,h,hw,hg=>by
   simp [zDw] at hc;subst hc
   exact ⟨[],⟨by simp,by simp,by simp⟩,rfl⟩
 | f :: L,o,N,r,hc,hN,h,hw,hg=>by
   simp only [zDw,oL,mE] at hc
   obtain ⟨aa,O⟩:=hc
   rw [List.mapM_cons] at h
   cases I:g f.type ((cs.drop f.offset).take (P.cellsOf f.type)) with
   | none=>simp [I] at h
   | some y=>
     cases J:(L.mapM λf=>g f.type ((cs.drop f.offset).take (P.cellsOf f.type))) with
     | none=>simp [I,J] at h
     | some ys=>
       have hr:r=y::ys:=by simpa [I,J] using h.symm
       subst hr
       simp only [oh,DataW.weightsEach,oG] at hw
       obtain ⟨us,h1,h2⟩:=hg f (by simp) _ y I λx I=>hw x (.inl I)
       obtain ⟨bs,h3,h4⟩:=zFq O hN J (λx I=>hw x (.inr I)) λf hf=>hg f (by simp [hf])
       have ab:=zKx O
       refine ⟨us++bs,?_,us,bs,rfl,h2,h4⟩
       have:=h1.app h3
       rw [aa] at this
       have e:(cs.drop o).take (N - o)=(cs.drop o).take (P.cellsOf f.type)++(cs.drop (o+P.cellsOf f.type)).take (N - (o+P.cellsOf f.type)):=by
        rw [show N - o=P.cellsOf f.type+(N - (o+P.cellsOf f.type)) by omega,List.take_add,List.drop_drop]
       rw [e];exact this
theorem zTJ {n:Nat} {t:TypeId} {xs:List D} (h:Shp P n t xs) (hc:∀ x∈xs,x.isCell) (hs:zGh P t=0) (I:∀ fs,P.underlying t≠some (.struct fs)):∃ x,xs=[x]:=by
 cases n with
 | zero=>exact h.elim
 | succ n=>
   unfold Shp at h
   split at h
   ·obtain ⟨v,rfl⟩:=h;exact ⟨_,rfl⟩
   ·obtain ⟨v,rfl,_⟩:=h;exact ⟨_,rfl⟩
   ·obtain ⟨v,rfl,_⟩:=h;exact ⟨_,rfl⟩
   ·obtain ⟨a,es,c,rfl,_⟩:=h;exact ⟨_,rfl⟩
   ·rename_i fs J;exact absurd J (I fs)
   ·exact h.elim
/-- one element: its cells as one datum -/
theorem zTc {n:Nat} {e:TypeId} {cs:List Value} {xs:List D} (hs:Snap w cs xs) (h:Shp P n e xs) (hl:cs.length=P.cellsOf e) (hz:P.cellsOf e=ez (zGh P e)) :
  ∃ x,x.cells=xs/\eOk (zGh P e) x/\Holds w x:=by
 have aa:xs.length=cs.length:=by rw [<-hs.cv];simp
 by_cases I:∃ fs,P.underlying e=some (.struct fs)
 ·obtain ⟨fs,I⟩:=I
  have J:zGh P e=P.cellsOf e:=by unfold zGh;rw [I]
  have O:P.cellsOf e≠0:=by
   intro h0;rw [J,h0] at hz;simp [ez] at hz
  refine ⟨.ag xs,rfl,?_,.ag hs.hold⟩
  unfold eOk
  rw [J,if_neg O]
  exact ⟨xs,rfl,by omega,hs.cell⟩
 ·have J:zGh P e=0:=by
   unfold zGh;split
   ·rename_i fs hu;exact absurd ⟨fs,hu⟩ I
   ·rfl
  obtain ⟨x,rfl⟩:=zTJ h hs.cell J λfs hu=>I ⟨fs,hu⟩
  have hc:=hs.cell x (by simp)
  refine ⟨x,?_,?_,hs.hold x (by simp)⟩
  ·cases x<;>first | exact hc.elim | rfl
  ·unfold eOk;rw [J,if_pos rfl];exact hc
theorem zPc {a:Addr} {n:Nat} {cs:List Value} (h:w.cells? base a n=some cs):cs.length=n/\∀ j u,cs[j]?=some u->w.cell? (a.add j)=some u:=by
 unfold World.cells? at h
 split at h
 ·refine ⟨by have:=mapM_some_length h;simpa using this,λj u J=>?_⟩
  have I:j<n:=by
   have:=mapM_some_length h
   have O:=(oD.1 J).1
   simp at this;omega
  have:=mapM_some_get h j j (by simp [I])
  rw [this];exact J
 ·cases h
theorem zP9 {a:Addr} {u:Value} (h:w.cell? a=some u):a.spot=none/\∃ c t fz,w.heap[a.block]?=some (.cells c t fz):=by
 refine ⟨World.cell?_spot h,?_⟩
 unfold World.cell? at h
 split at h
 ·rename_i c t fz I;exact ⟨_,_,_,I⟩
 ·cases h
/-- the elements of a slice stand in memory one behind the other -/
theorem zUx {a:Addr} {z:Nat} {es:List D} (he:∀ x∈es,eOk z x) (h:∀ (k:Nat) (x:D),es[k]?=some x->∀ (j:Nat) (u:D),x.cells[j]?=some u->w.cell? ((a.add (k*ez z)).add j)=some u.cv):Row w a (yZ es)/\(es≠[]->a.spot=none):=by
 by_cases J:es=[]
 ·subst J;exact ⟨.inl rfl,λh=>absurd rfl h⟩
 obtain ⟨x,l,rfl⟩:∃ x l,es=x::l:=by cases es with | nil=>exact absurd rfl J | cons x l=>exact ⟨x,l,rfl⟩
 have hx:=xT (he x (by simp))
 have hp:=zBr z
 obtain ⟨u0,ab⟩:∃ u,x.cells[0]?=some u:=⟨_,oF (by omega)⟩
 have h0:=h 0 x (by simp) 0 u0 ab
 have e0:(a.add (0*ez z)).add 0=a:=by simp [Addr.add]
 rw [e0] at h0
 obtain ⟨hs,c,t,fz,hb⟩:=zP9 h0
 refine ⟨.inr ⟨c,t,fz,hb,λi u hu=>?_⟩,λ_=>hs⟩
 have ac:=zh he
 have hi:i<(x::l).length*ez z:=by rw [<-ac];exact (oD.1 hu).1
 have hk:i / ez z<(x::l).length:=(Nat.div_lt_iff_lt_mul hp).2 hi
 have hj:i % ez z<ez z:=Nat.mod_lt _ hp
 have hy:=oF hk
 have ah:=xT (he _ (oC hy))
 have hv:=oF (l:=((x::l)[i / ez z]).cells) (i:=i % ez z) (by omega)
 have O:=zAN he hy hv
 have aa:i / ez z*ez z+i % ez z=i:=by rw [Nat.mul_comm];exact Nat.div_add_mod i (ez z)
 rw [aa,hu] at O
 have I:=h _ _ hy _ _ hv
 have ae:=nB O
 rw [<-ae] at I
 obtain ⟨b,o,s⟩:=a
 simp only at hs hb ⊢
 subst hs
 rw [wH,wH,mj,aa] at I
 have:=zGY (w:=w) (ad:=⟨b,o,none⟩) rfl hb i
 rw [wH] at this
 rw [this] at I
 exact I
theorem zA0 {e:TypeId} {d:DataW H}:∀ {l:List (DataW H)},d∈l->∀ {x:Nat},x∈d.weights P e->x∈DataW.weightsAll P e l
 | d'::l,h,x,I=>by
   simp only [DataW.weightsAll,oG]
   rcases oH.1 h with rfl | h
   ·exact .inl I
   ·exact .inr (zA0 h I)
theorem zKQ (hT:T.all (zNI P T)=true):∀ (n:Nat) (t:TypeId) (cs:List Value) (y:DataW H × List MemPlace),t∈T->DataW.trod enc P w base spare held n t cs=some y->(∀ x∈y.1.weights P t,x<=reachBytes)->∃ xs,Snap w cs xs/\Shp P n t xs:=by
 intro n
 induction n with
 | zero=>intro t cs y _ h _;simp [DataW.trod] at h
 | succ n ih=>
   intro t cs y ht h hw
   have J:=oT.1 hT t ht
   unfold zNI at J
   unfold Shp
   unfold DataW.trod at h
   split at h
   ·rename_i I;rw [I];exact ⟨[.lit _],.one rfl rfl .lit,_,rfl⟩
   ·rename_i I;rw [I]
    split at h
    ·rename_i hk;obtain ⟨rfl,hk⟩:=hk
     exact ⟨[.lit _],.one rfl rfl .lit,_,rfl,hk⟩
    ·cases h
   ·rename_i I;rw [I] at J;simp at J
   ·rename_i I;rw [I]
    split at h
    ·cases h
     exact ⟨[.lit _],.one rfl rfl .lit,_,rfl,hw _ (by simp only [DataW.weights,oR];exact nU.symm)⟩
    ·cases h
   ·rename_i I;rw [I] at J;simp at J
   ·rename_i I;rw [I] at J;simp at J
   ·rename_i e I;rw [I]
    exact ⟨_,.one (x:=.sl none (zGh P e) [] 0) rfl trivial .nil,_,_,_,rfl,Nat.zero_le _,λx hx=>absurd hx (by simp)⟩
   ·rename_i e a len cap I;rw [I] at J ⊢
    simp only [oL,mE,List.contains_iff_mem] at J
    obtain ⟨⟨ah,hz⟩,ab⟩:=J
    have ab:=lE ab
    simp only at h
    split at h
    rotate_left
    ·cases h
    rename_i hb
    obtain ⟨ax,ay,az⟩:=hb
    cases hm:(List.range len).mapM λi=>(w.cells? base (a.add (i*P.cellsOf e)) (P.cellsOf e)).bind (DataW.trod enc P w base spare held n e) with
    | none=>rw [hm] at h;simp at h
    | some elems=>
      have ai:=hm
      rw [hm] at h
      simp only [mY] at h
      obtain ⟨rest,_,hy⟩:=Option.map_eq_some_iff.1 h
      subst hy
      simp only [DataW.weights,I,oH,oG] at hw
      have a6:elems.length=len:=by simpa using mapM_some_length hm
      have a7:len<=reachBytes:=by
       have h1:=hw _ (.inl rfl)
       have h2:((elems.map (·.1)).length+(rest.map (·.1)).length)*1<=((elems.map (·.1)).length+(rest.map (·.1)).length)*P.bytesOf e:=Nat.mul_le_mul_left _ ab
       simp only [nO,Nat.mul_one] at h1 h2
       omega
      have aj:∀ y∈elems,∀ x∈y.1.weights P e,x<=reachBytes:=λy hy x hx=>hw x (.inr (.inl (zA0 (oU.2 ⟨y,hy,rfl⟩) hx)))
      obtain ⟨es,hlen,ak⟩:=zGI (Q:=λi (x:D)=>Shp P n e x.cells/\eOk (zGh P e) x/\Holds w x/\∀ (j:Nat) (u:D),x.cells[j]?=some u->w.cell? ((a.add (i*ez (zGh P e))).add j)=some u.cv) ai λi _ y al hy=>by
       cases hc:w.cells? base (a.add (i*P.cellsOf e)) (P.cellsOf e) with
       | none=>rw [hc] at hy;simp at hy
       | some vs=>
         rw [hc] at hy
         simp only [mY] at hy
         obtain ⟨xs,h1,h2⟩:=ih e vs y ah hy (aj y al)
         obtain ⟨am,ao⟩:=zPc hc
         obtain ⟨x,rfl,h3,h4⟩:=zTc h1 h2 am hz
         refine ⟨x,h2,h3,h4,λj u I=>?_⟩
         rw [<-hz]
         refine ao j _ ?_
         rw [<-h1.cv,oI,I];rfl
      have hlen:es.length=len:=by simpa using hlen
      have aa:∀ k x,es[k]?=some x->Shp P n e x.cells/\eOk (zGh P e) x/\Holds w x/\∀ (j:Nat) (u:D),x.cells[j]?=some u->w.cell? ((a.add (k*ez (zGh P e))).add j)=some u.cv:=λk x hk=>by
       have aq:k<len:=by rw [<-hlen];exact (oD.1 hk).1
       obtain ⟨x',h1,h2⟩:=ak k k (by simp [aq])
       rw [hk] at h1;cases h1;exact h2
      have O:∀ x∈es,Shp P n e x.cells/\eOk (zGh P e) x/\Holds w x:=λx hx=>by
       obtain ⟨k,hk⟩:=oQ.1 hx
       obtain ⟨h1,h2,h3,_⟩:=aa k x hk;exact ⟨h1,h2,h3⟩
      obtain ⟨ae,ac⟩:=zUx (a:=a) (λx hx=>(O x hx).2.1) λk x hk=>(aa k x hk).2.2.2
      refine ⟨[.sl (some a) (zGh P e) es cap],.one (by simp [D.cv,hlen]) trivial (.sl ac (by omega) (λx hx=>(O x hx).2.1) (λx hx=>(O x hx).2.2) ae),_,_,_,rfl,by omega,λx hx=>(O x hx).1⟩
   ·rename_i cs _ cs' fs I;rw [I] at J ⊢
    simp only [oL,oT,List.contains_iff_mem] at J
    obtain ⟨hc,au⟩:=J
    split at h
    rotate_left
    ·cases h
    rename_i hl
    cases hm:fs.toList.mapM λf=>DataW.trod enc P w base spare held n f.type ((cs.drop f.offset).take (P.cellsOf f.type)) with
    | none=>rw [hm] at h;simp at h
    | some r=>
      rw [hm] at h
      simp only [oe,o4] at h
      subst h
      simp only [DataW.weights,I] at hw
      obtain ⟨xs,h1,h2⟩:=zFq (R:=Shp P n) hc (by omega) hm hw λf hf vs y hy aw=>ih f.type vs y (au f hf) hy aw
      refine ⟨xs,?_,h2⟩
      simpa [<-hl] using h1
   all_goals (rename_i I;first | (rw [I] at J;simp at J;done) | (exfalso;simp_all;done))
open Go Go.ChangeShapes Go.WideShapes Go.ChangeAt Go.RowKit
structure Ret1 (W W':World) (e:Ending):Prop where
 e:e=.returned (.bool true)
 old:∀ b,b<W.heap.size->W'.heap[b]?=W.heap[b]?
 size:W.heap.size<=W'.heap.size
 ku:KU W W'
theorem zTA {av:Nat->Prop} {W W':World} {e:Ending} (h:Fin [.bool] (λr _=>r=true) av W e W'):Ret1 W W' e:=by
 cases e with
 | returned v=>
   obtain ⟨ps,rows,e',hd⟩:=h
   have I:=hd.q
   have J:=hd.v
   refine ⟨?_,hd.old,hd.size,hd.ku⟩
   cases ps with
   | nil=>simp [QT.app] at I
   | cons p ps=>
     cases p<;>simp [QT.app] at I
     cases ps<;>cases rows<;>simp [QT.app] at I
     subst I
     rw [J];rfl
 | _=>exact h.elim
theorem zP7 {H:Type} {enc:TypeId × Value->H} {P:Program} {fn:Func} {s:ChangeSpec} {apart fresh I:Bool} {W W':World} {args:Array Value} {ds gs:List (DataW H)} {J:List MemPlace} {tb:TypeId} {e:Ending}
  (K:Kids P (·<P.types.size)) (full:∀ t e,t<P.types.size->P.underlying t=some (.slice e)->0<P.cellsOf e)
  (aa:∀ t∈fn.params.toList,t<P.types.size) (hv:s.vars=[]) (ae:fn.resultTypes=#[tb]) (ah:P.underlying tb=some .bool)
  (hs:s.fn H (ds++gs)={ results:=[.lit (.bool true)],args:=ds })
  (hW:DataW.Whole enc P fn.params.toList s.vars apart W args.toList ds gs J) (hr:Ret1 W W' e) :
  ∃ v,e=.returned v/\s.post enc P fn apart fresh I false W args v W':=by
 refine ⟨_,hr.e,?_⟩
 have ab:=hW
 obtain ⟨p,q,hA,hV,rfl,aj,_⟩:=hW
 rw [hv] at hV
 obtain ⟨rfl,rfl⟩:=trodVars_none hV
 have ac:∀ x∈p++[],x.block<W.heap.size:=ab.lt
 have O:∀ {ts:List TypeId} {vs:List Value} {ds:List (DataW H)} {ps:List MemPlace},DataW.TrodAll enc P W 0 (λ_=>true) true ts vs ds ps->(∀ x∈ps,x.block<W.heap.size)->DataW.TrodAll enc P W' 0 (λ_=>true) true ts vs ds ps:=by
  intro ts
  induction ts with
  | nil=>intro vs ds ps h _;obtain ⟨rfl,rfl,rfl⟩:=trodAll_nil h;exact trodAll_mk0
  | cons t ts ih=>
    intro vs ds ps h hl
    obtain ⟨v,ak,d,ds1,a,b,rfl,rfl,rfl,⟨n,h1⟩,h2⟩:=trodAll_cons h
    refine ⟨a,b,⟨n,DataW.trod_carry n _ _ _ h1 λx hx=>?_⟩,ih h2 λx hx=>hl x (by simp [hx]),rfl⟩
    have hb:=hr.old _ (hl x (by simp [hx]))
    cases x with
    | cell b off=>simp only [World.sameAt,World.cell?,MemPlace.block] at hb ⊢;rw [hb]
    | map b=>exact hb
 have ai:=O hA λx hx=>ac x (by simp [hx])
 refine ⟨ds,[],p++[],[],p,[],ab,?_,?_,?_,⟨hr.ku.os,hr.ku.out,λi hi=>?_⟩,λh=>by cases h⟩
 ·rw [hs,ae]
  exact trodAll_mk1 ⟨1,by simp [DataW.trod,Value.cells,ah]⟩
 ·rw [hs]
  exact DataW.TrodAll.respare K full aa ai λx hx=>by simpa using ac x (by simp [hx])
 ·rw [hs,hv];rfl
 ·rw [hr.old i hi]
  cases hb:W.heap[i]? with
  | none=>rfl
  | some o=>
    cases o with
    | cells c t fr=>exact ⟨rfl,rfl,rfl,λ_ _=>rfl⟩
    | map es clock=>exact .inr ⟨rfl,rfl⟩
    | _=>rfl
open Go Go.Proofs Go.Proofs.Tryz Go.ChangeShapes Go.WideShapes Go.ChangeAt Go.RowKit
theorem zWH:Kids prog (·<prog.types.size):=kids_rows (by kernel_rfl) (by kernel_rfl)
theorem full:∀ t e,t<prog.types.size->prog.underlying t=some (.slice e)->0<prog.cellsOf e:=slices_full_of prog (by kernel_rfl)
/-- the types that the laws' arguments are made of -/
def TT:List TypeId:=[9,25,3,23,28,26,22,64,4,59,47,5]
theorem zQ0:TT.all (zNI prog TT)=true:=by kernel_rfl
theorem zKa:ownKnob prog.godebug=none:=by kernel_rfl
/-- the weights of each argument's reading -/
theorem zN1 {H:Type} {P:Program} {I:List TypeId} {ds:List (DataW H)} (h:(DataW.weightsEach P I ds).all (·<=reachBytes)=true) {j:Nat} {t:TypeId} {d:DataW H} (J:I[j]?=some t) (hd:ds[j]?=some d):∀ n∈d.weights P t,n<=reachBytes:=λn O=>by
 have:=oT.1 h _ (DataW.weights_mem_each J hd n O)
 simpa using this
/-- a slice that came in -/
theorem zRH {H:Type} {enc:TypeId × Value->H} {P:Program} {T:List TypeId} (hT:T.all (zNI P T)=true) {W:World} {r:Reach} {b:Nat} {t e:TypeId} {v:Value} {d:DataW H} {ps:List MemPlace} (O:t∈T) (J:P.underlying t=some (.slice e))
  (I:Value.okWide P W r b t v) (h:DataW.Trod enc P W 0 (λ_=>true) true t v d ps) (hw:∀ n∈d.weights P t,n<=reachBytes):∃ (n:Nat) (a:Option Addr) (es:List D) (c:Nat),(PV.sv a (zGh P e) es c).val []=v/\Holds W (.sl a (zGh P e) es c)/\Shp P n t [.sl a (zGh P e) es c]:=by
 obtain ⟨n,h⟩:=h
 obtain ⟨a0,len,cap,rfl⟩:=okWide_slice J I
 obtain ⟨xs,s,k⟩:=zKQ hT n t _ _ O h hw
 obtain ⟨m,a,es,c,rfl,rfl,_,_⟩:=zM1 J k
 have e0:(D.sl a (zGh P e) es c).cv=.slice a0 len cap:=by
  have:=s.cv
  simpa [Value.cells] using this
 exact ⟨_,a,es,c,e0,s.hold _ (by simp),k⟩
end Go.Proofs.YtlahkdflngobiaaGreatDoor
set_option maxRecDepth 100000
namespace Go.Proofs.YtlahkdflngobiaaGreatDoor
open Go Go.Proofs Go.Proofs.Tryz
end Go.Proofs.YtlahkdflngobiaaGreatDoor
set_option maxRecDepth 100000
namespace Go.Proofs.YtlahkdflngobiaaGreatDoor
open Go Go.Proofs Go.Proofs.Tryz
end Go.Proofs.YtlahkdflngobiaaGreatDoor
set_option maxRecDepth 100000
namespace Go.Proofs.YtlahkdflngobiaaGreatDoor
open Go Go.Proofs Go.Proofs.Tryz Go.ChangeShapes Go.WideShapes Go.ChangeAt Go.RowKit
/-- the list that all rows bear -/
def zDF : List (String × DataW Unit) := [("math/bits.deBruijn32tab", Rows.laid_math_bits_deBruijn32tab), ("math/bits.deBruijn64tab", Rows.laid_math_bits_deBruijn64tab), ("internal/strconv.uint64pow10", Rows.laid_internal_strconv_uint64pow10)]
theorem zV2 : prog.globalNamed "internal/strconv.uint64pow10" = some 0 := by kernel_rfl
theorem zV8:(prog.globals[0]?).map (·.type)=some 197:=by kernel_rfl
theorem zV4:prog.cellsOf 197=20:=by kernel_rfl
theorem zVb:prog.cellsOf 191=1:=by kernel_rfl
theorem zMI {W:World} (h:laidMetH prog zDF W):GlobIs W:=by
 rw [MakeChecks.laidMetH_plain _ _ _ (by kernel_rfl)] at h
 have h2 : laidMet prog (("internal/strconv.uint64pow10", Lib.tabData .u64 Lib.pow10Tab) :: []) W := h.tail.tail
 have I:=Lib.tabIs_of_head zV2 zV8 underlying197 underlying191 zVb zV4 h2
 unfold Lib.TabIs World.var? at I
 rw [zV2] at I
 refine ⟨λx J=>?_⟩
 simp only [glob,oH,om,mB] at J
 subst J
 simp only [Option.bind] at I
 cases O:W.heap[0]? with
 | none=>rw [O] at I;cases I
 | some o=>
   rw [O] at I
   cases o with
   | cells c t z=>simp only [o4] at I;subst I;exact ⟨t,z,rfl⟩
   | _=>cases I
theorem zUK {W:World} (h:laidMetH prog zDF W):Avl avG W []:=⟨λb I=>(zMI h).lt I,zMI h,λb I=>I,λb I=>by simp⟩
/-- The door's own heap meets the condition. -/
theorem zSL (os:Os) (args:Array Value):laidMetH prog zDF ((World.doorLaid prog 400 os).forCall (λ_ _=>0) ⟨#[],args,[]⟩).memory:=
 laidMetH_of_parts3 (fuel:=8) (laidMet_of_run' 8 (by kernel_rfl) (by kernel_rfl)) (by kernel_rfl) (by kernel_rfl)
end Go.Proofs.YtlahkdflngobiaaGreatDoor
set_option maxRecDepth 100000
namespace Go.Proofs.YtlahkdflngobiaaGreatDoor
open Go Go.Proofs Go.Proofs.Tryz
theorem ez5:zGh prog 5=0:=by kernel_rfl
theorem zNm {W:World} {n:Nat} {a:Option Addr} {es:List D} {c:Nat} (hH:Holds W (.sl a 0 es c)) (h:Shp prog n 47 [.sl a 0 es c]):∀ d∈es,∃ k:Int,d=.lit (.int .u8 k):=by
 obtain ⟨m,a',J,c',e,hs,hl,O⟩:=zM1 underlying47 h
 have he:J=es:=by cases hs;rfl
 subst he
 have I:∀ x∈J,x.isCell:=by
  cases hH with
  | nil=>intro x O;simp at O
  | sl h1 h2 h3 h4 h5=>intro x O;exact h3 x O
 intro x aa
 obtain ⟨k,hk⟩:=zUs underlying5 (O x aa)
 have hc:=I x aa
 refine ⟨k,?_⟩
 cases x<;>simp [D.isCell,D.cells] at hc hk ⊢<;>exact hk
end Go.Proofs.YtlahkdflngobiaaGreatDoor
set_option maxRecDepth 100000
namespace Go.Proofs.YtlahkdflngobiaaGreatDoor
open Go Go.Proofs Go.Proofs.Tryz
theorem zL0 {W:World} (g:GlobIs W) {ad:Addr} {cs:List D} {k:Int} (h:Row W ad cs) (h0:cs[0]?=some (.lit (.int .u8 k))):¬avG ad.block:=by
 rintro ⟨x,J,hb⟩
 obtain ⟨t,fz,h1⟩:=g.h x J
 rw [hb] at h1
 rcases h with rfl | ⟨c,t',aa,I,h3⟩
 ·simp at h0
 ·rw [h1] at I
  injection I with I
  injection I with e1 e2 e3
  have O:=h3 0 _ h0
  rw [<-e1] at O
  simp only [glob,oH,om,mB] at J
  subst J
  simp only [lG,oI,Option.map_eq_some_iff,D.cv] at O
  obtain ⟨n,_,hn⟩:=O
  cases hn
theorem zKV {W:World} (g:GlobIs W) {a:Option Addr} {es:List D} {c:Nat} (h:Holds W (.sl a 0 es c)) (O:∀ d∈es,∃ n:Int,d=.lit (.int .u8 n)):∀ b∈(D.sl a 0 es c).foot,¬avG b:=by
 intro b I
 have fe:zC es=[]:=by
  have key:∀ l:List D,(∀ d∈l,∃ n:Int,d=.lit (.int .u8 n))->zC l=[]:=by
   intro l
   induction l with
   | nil=>intro _;rfl
   | cons d l ih=>
     intro hl
     obtain ⟨n,rfl⟩:=hl d (by simp)
     simp only [zC,D.foot,oW]
     exact ih λd hd=>hl d (by simp [hd])
  exact key es O
 cases a with
 | none=>simp only [D.foot,fe] at I;simp at I
 | some ad=>
   cases es with
   | nil=>simp [D.foot] at I
   | cons e es=>
     simp only [D.foot,List.isEmpty_cons,fe] at I
     obtain rfl:b=ad.block:=by simpa using I
     cases h with
     | sl _ _ _ _ J=>
       obtain ⟨n,rfl⟩:=O e (by simp)
       exact zL0 g J (k:=n) (by simp [yZ,D.cells])
open Go Go.Proofs Go.Proofs.Tryz Go.ChangeShapes Go.WideShapes Go.ChangeAt Go.RowKit
set_option maxHeartbeats 1600000 in
set_option maxRecDepth 100000 in
theorem zF5 (os:Os) (I:os.Started) (H:Type) (enc:TypeId × Value->H) :
  ReturnsInHanded {} checked os 4 .any (λw args=>(Rows.fnSharedSpec.pre enc prog Tryz.f4 [] false w args/\laidMetH prog zDF w)/\sizedMet enc prog Tryz.f4 (OpenSpec.ofChange Rows.fnSharedSpec) false w args)
   (Rows.fnSharedSpec.post enc prog Tryz.f4 false true false false):=by
 refine returnsInHanded_of_change_and (C:=checked) (X:=λw _=>laidMetH prog zDF w) (λ_ _ _ hh h=>h.of_heap hh) zKa I (by kernel_rfl) func4
  (ChangeSpec.witness_shaped (enc:=enc) (C:=checked) (os:=os) (X:=λw _=>laidMetH prog zDF w) false (World.doorLaid prog 400 os) #[.slice none 0 0] 8 rfl (World.shaped_of_RefB (by kernel_rfl) (by kernel_rfl)) (by kernel_rfl) (by kernel_rfl) (by kernel_rfl) (zSL os _)) ?_
 intro W base args ds gs ae ab hW _ O hL _
 have aa:∀ (j:Nat) t v,Tryz.f4.params[j]?=some t->args[j]?=some v->Value.okWide prog W .any base t v:=ab
 have ah:=hW
 obtain ⟨p,q,ai,hV,rfl,ak,_⟩:=hW
 have hA:DataW.TrodAll enc prog W 0 (λ_=>true) true Tryz.f4.params.toList args.toList ds p:=ai
 have O:(DataW.weightsEach prog (Tryz.f4.params.toList++[]) (ds++gs)).all (·<=reachBytes)=true:=O
 rw [params4] at hA aa O
 obtain ⟨v0,al,d0,ds1,p0,p1,ha,rfl,rfl,h0,hr⟩:=trodAll_cons hA
 obtain ⟨rfl,rfl,rfl⟩:=trodAll_nil hr
 obtain rfl:args=#[v0]:=by rw [<-nE,ha]
 obtain ⟨rfl,rfl⟩:=trodVars_none hV
 obtain ⟨n0,aC,aj,cC,e0,J,k0⟩:=zRH zQ0 (by decide) underlying47 (aa 0 47 v0 rfl rfl) h0 (zN1 O (j:=0) rfl rfl)
 rw [ez5] at e0 J k0
 have hc:=(zOA (zNm J k0) aC cC W.heap.size).h avG W rfl (zUK hL) (λp hp=>by
  simp only [oH,om,mB] at hp
  subst hp
  exact ⟨⟨J,zKV (zMI hL) J (zNm J k0)⟩,rfl⟩)
 have ac:([PV.sv aC 0 aj cC].map (PV.val [])).toArray=#[v0]:=by
  simp only [oh,mJ,e0]
 rw [ac] at hc
 refine hc.mono λe W' hf=>?_
 exact zP7 zWH full (by rw [params4];decide) rfl (by kernel_rfl) underlying4 rfl ah (zTA hf)
theorem zKb:Rows.FnSharedSaid:=
 OpenClaim.holds_of_wide 4 Tryz.f4 rfl rfl rfl rfl rfl rfl rfl ⟨rfl,rfl,rfl,rfl,rfl⟩ rfl rfl rfl rfl rfl (by kernel_rfl) func4 (by kernel_rfl)
  (lE (by kernel_rfl)) (by unfold Func.isWrapper;first | (rw [if_pos (by decide +kernel)];kernel_rfl) | (rw [if_neg (by decide +kernel)];exact ⟨rfl,rfl⟩))
  (λos I H enc _=>zF5 os I H enc)
theorem fnShared_holds:Rows.FnSharedCardSaid:=
 Claim7.holds_tied_plain_at .later [] [.data,.data,.data] true Rows.fnSharedCard.stood.harness false
  zKb (fun _ h=>by cases h) (by kernel_rfl) (fun _ h=>by cases h) fnShared_row_tie rfl ⟨rfl,rfl⟩ (by kernel_rfl) rfl
  (fun f fn hf hfn=>by
   obtain rfl : f = 4 := nB ((show prog.funcNamed "loop.example/g00589/laws.FnShared" = some 4 by kernel_rfl).symm.trans hf) |>.symm
   obtain rfl:fn=Tryz.f4:=(nB (func4.symm.trans hfn)).symm
   exact ⟨by kernel_rfl,fun j t ht=>by
    rw [params4] at ht
    have hm:t∈[47]:=by simpa using Array.mem_of_getElem? ht
    have hall:([47].all fun u=>!prog.wantsStandIn u)=true:=by kernel_rfl
    exact (show prog.wantsStandIn t=false by simpa using oT.1 hall t hm)⟩)
  (by kernel_rfl)
#print axioms fnShared_holds
end Go.Proofs.YtlahkdflngobiaaGreatDoor
