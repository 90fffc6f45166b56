/- What the reader of data has read is a snapshot; the form of a snapshot by its type. -/
import Derived.Test.YtnmnahkkcfghjaaGreatJh
import Derived.ProofKit
import Derived.ReadAgain
import Derived.ChangeSame
import Derived.Test.YtnmnahkkcfghjaaGreatRows
import Derived.SizedLaws
import Derived.Test.YtnmnahkkcfghjaaGreatC6
set_option linter.unusedVariables false
set_option linter.unusedSimpArgs false
namespace Go.Proofs.YtnmnahkkcfghjaaGreat
open Go
def zDV (P:Program) (e:TypeId):Nat:=match P.underlying e with | some (.struct _)=>P.cellsOf e | _=>0
def zBA (P:Program):List Field->Nat->Nat->Bool
 | [],o,n=>o==n
 | f::fs,o,n=>f.offset==o&&zBA P fs (o+P.cellsOf f.type) n
def zI9 (P:Program) (T:List TypeId) (t:TypeId):Bool:=
 match P.underlying t with
 | some .bool=>true
 | some (.int _)=>true
 | some .string=>true
 | some (.slice e)=>T.contains e&&(P.cellsOf e==ez (zDV P e))&&decide (0<P.bytesOf e)
 | some (.struct fs)=>zBA P fs.toList 0 (P.cellsOf t)&&fs.toList.all λf=>T.contains f.type
 | _=>false
def zSi (R:TypeId->List D->Prop):List TypeId->List D->Prop
 | [],xs=>xs=[]
 | t::I,xs=>∃ a b,xs=a++b/\R t a/\zSi R I b
/-- the form of a snapshot's cells, by type; the number bounds the depth -/
def Shp (P:Program):Nat->TypeId->List D->Prop
 | 0,_,_=>False
 | n+1,t,xs=>match P.underlying t with
   | some .bool=>∃ v,xs=[.lit (.bool v)]
   | some (.int k)=>∃ m,xs=[.lit (.int k m)]/\(Lit.int k m).wf=true
   | some .string=>∃ s:ByteArray,xs=[.lit (.string s)]/\s.size<=reachBytes
   | some (.slice e)=>∃ a es c,xs=[.sl a (zDV P e) es c]/\es.length<=reachBytes/\∀ x∈es,Shp P n e x.cells
   | some (.struct fs)=>zSi (Shp P n) (fs.toList.map (·.type)) xs
   | _=>False
theorem zRp {P:Program} {n:Nat} {t:TypeId} {xs:List D} {k:IntKind} (I:P.underlying t=some (.int k)) (h:Shp P n t xs):∃ m,xs=[.lit (.int k m)]:=by
 cases n with
 | zero=>exact h.elim
 | succ n=>unfold Shp at h;rw [I] at h;obtain ⟨m,rfl,_⟩:=h;exact ⟨m,rfl⟩
theorem zMM:reachBytes<=4611686018427387904:=by decide
theorem zIu {P:Program} {n:Nat} {t e:TypeId} {xs:List D} (I:P.underlying t=some (.slice e)) (h:Shp P n t xs):∃ m a es c,n=m+1/\xs=[.sl a (zDV P e) es c]/\es.length<=4611686018427387904/\∀ x∈es,Shp P m e x.cells:=by
 cases n with
 | zero=>exact h.elim
 | succ n=>
   unfold Shp at h;rw [I] at h
   obtain ⟨a,es,c,rfl,J,O⟩:=h
   exact ⟨n,a,es,c,rfl,rfl,oN J zMM,O⟩
structure Snap (w:World) (cs:List Value) (xs:List D):Prop where
 cv:xs.map D.cv=cs
 cell:∀ x∈xs,x.isCell
 hold:∀ x∈xs,Holds w x
theorem Snap.one {w:World} {v:Value} {x:D} (I:x.cv=v) (J:x.isCell) (O:Holds w x):Snap w [v] [x]:=⟨by simp [I],by simpa using J,by simpa using O⟩
theorem Snap.app {w:World} {us bs:List Value} {xs ys:List D} (h:Snap w us xs) (I:Snap w bs ys):Snap w (us++bs) (xs++ys):=
 ⟨by rw [nc,h.cv,I.cv],λx J=>(oJ.1 J).elim (h.cell x) (I.cell x),λx J=>(oJ.1 J).elim (h.hold x) (I.hold x)⟩
theorem zDA {α β γ:Type} {f:α->Option β} {Q:α->γ->Prop}:∀ {l:List α} {r:List β},l.mapM f=some r->(∀ i∈l,∀ y∈r,f i=some y->∃ x,Q i x)->∃ xs:List γ,xs.length=l.length/\∀ (k:Nat) (i:α),l[k]?=some i->∃ x,xs[k]?=some x/\Q i x
 | [],r,h,U=>⟨[],rfl,λk i J=>by simp at J⟩
 | a :: l,r,h,U=>by
   rw [List.mapM_cons] at h
   cases O:f a with
   | none=>simp [O] at h
   | some y=>
     cases I:l.mapM f with
     | none=>simp [O,I] at h
     | some ys=>
       have Y:r=y::ys:=by simpa [O,I] using h.symm
       subst Y
       obtain ⟨x,h1⟩:=U a (by simp) y (by simp) O
       obtain ⟨xs,h2,h3⟩:=zDA I λi hi y hy=>U i (by simp [hi]) y (by simp [hy])
       refine ⟨x::xs,by simp [h2],λk i J=>?_⟩
       cases k with
       | zero=>simp at J;subst J;exact ⟨x,rfl,h1⟩
       | succ k=>simp at J;simpa using h3 k i J
variable {H:Type} {enc:TypeId × Value->H} {P:Program} {w:World} {base:Nat} {spare:Nat->Bool} {held:Bool} {T:List TypeId}
theorem zHN:∀ {L:List Field} {o n:Nat},zBA P L o n=true->o<=n
 | [],o,n,h=>by simp [zBA] at h;omega
 | f::L,o,n,h=>by
   simp only [zBA,oG] at h
   have:=zHN h.2
   omega
theorem zCj {g:TypeId->List Value->Option (DataW H × List MemPlace)} {R:TypeId->List D->Prop} {cs:List Value}:∀ {L:List Field} {o N:Nat} {r:List (DataW H × List MemPlace)},zBA P L o N=true->N<=cs.length ->
  (L.mapM λf=>g f.type ((cs.drop f.offset).take (P.cellsOf f.type)))=some r->(∀ x∈DataW.weightsEach P (L.map (·.type)) (r.map (·.1)),x<=reachBytes)->(∀ f∈L,∀ vs y,g f.type vs=some y->(∀ x∈y.1.weights P f.type,x<=reachBytes)->∃ xs,Snap w vs xs/\R f.type xs)->∃ xs,Snap w ((cs.drop o).take (N - o)) xs/\zSi R (L.map (·.type)) xs
 | [],o,N,r,hc,hN,h,U,Y=>by
   simp [zBA] at hc;subst hc
   exact ⟨[],⟨by simp,by simp,by simp⟩,rfl⟩
 | f :: L,o,N,r,hc,hN,h,U,Y=>by
   simp only [zBA,oG,nK] at hc
   obtain ⟨aa,O⟩:=hc
   rw [List.mapM_cons] at h
   cases I:g f.type ((cs.drop f.offset).take (P.cellsOf f.type)) with
   | none=>simp [I] at h
   | some y=>
     cases J:(L.mapM λf=>g f.type ((cs.drop f.offset).take (P.cellsOf f.type))) with
     | none=>simp [I,J] at h
     | some ys=>
       have hr:r=y::ys:=by simpa [I,J] using h.symm
       subst hr
       simp only [ol,DataW.weightsEach,oJ] at U
       obtain ⟨us,h1,h2⟩:=Y f (by simp) _ y I λx I=>U x (.inl I)
       obtain ⟨bs,h3,h4⟩:=zCj O hN J (λx I=>U x (.inr I)) λf hf=>Y f (by simp [hf])
       have ab:=zHN O
       refine ⟨us++bs,?_,us,bs,rfl,h2,h4⟩
       have:=h1.app h3
       rw [aa] at this
       have e:(cs.drop o).take (N - o)=(cs.drop o).take (P.cellsOf f.type)++(cs.drop (o+P.cellsOf f.type)).take (N - (o+P.cellsOf f.type)):=by
        rw [show N - o=P.cellsOf f.type+(N - (o+P.cellsOf f.type)) by omega,List.take_add,List.drop_drop]
       rw [e];exact this
theorem zPd {n:Nat} {t:TypeId} {xs:List D} (h:Shp P n t xs) (hc:∀ x∈xs,x.isCell) (hs:zDV P t=0) (I:∀ fs,P.underlying t≠some (.struct fs)):∃ x,xs=[x]:=by
 cases n with
 | zero=>exact h.elim
 | succ n=>
   unfold Shp at h
   split at h
   ·obtain ⟨v,rfl⟩:=h;exact ⟨_,rfl⟩
   ·obtain ⟨v,rfl,_⟩:=h;exact ⟨_,rfl⟩
   ·obtain ⟨v,rfl,_⟩:=h;exact ⟨_,rfl⟩
   ·obtain ⟨a,es,c,rfl,_⟩:=h;exact ⟨_,rfl⟩
   ·rename_i fs J;exact absurd J (I fs)
   ·exact h.elim
/-- one element: its cells as one datum -/
theorem zPx {n:Nat} {e:TypeId} {cs:List Value} {xs:List D} (hs:Snap w cs xs) (h:Shp P n e xs) (hl:cs.length=P.cellsOf e) (Y:P.cellsOf e=ez (zDV P e)) :
  ∃ x,x.cells=xs/\eOk (zDV P e) x/\Holds w x:=by
 have aa:xs.length=cs.length:=by rw [<-hs.cv];simp
 by_cases I:∃ fs,P.underlying e=some (.struct fs)
 ·obtain ⟨fs,I⟩:=I
  have J:zDV P e=P.cellsOf e:=by unfold zDV;rw [I]
  have O:P.cellsOf e≠0:=by
   intro h0;rw [J,h0] at Y;simp [ez] at Y
  refine ⟨.ag xs,rfl,?_,.ag hs.hold⟩
  unfold eOk
  rw [J,if_neg O]
  exact ⟨xs,rfl,by omega,hs.cell⟩
 ·have J:zDV P e=0:=by
   unfold zDV;split
   ·rename_i fs U;exact absurd ⟨fs,U⟩ I
   ·rfl
  obtain ⟨x,rfl⟩:=zPd h hs.cell J λfs U=>I ⟨fs,U⟩
  have hc:=hs.cell x (by simp)
  refine ⟨x,?_,?_,hs.hold x (by simp)⟩
  ·cases x<;>first | exact hc.elim | rfl
  ·unfold eOk;rw [J,if_pos rfl];exact hc
theorem zLd {a:Addr} {n:Nat} {cs:List Value} (h:w.cells? base a n=some cs):cs.length=n/\∀ j u,cs[j]?=some u->w.cell? (a.add j)=some u:=by
 unfold World.cells? at h
 split at h
 ·refine ⟨by have:=mapM_some_length h;simpa using this,λj u J=>?_⟩
  have I:j<n:=by
   have:=mapM_some_length h
   have O:=(oC.1 J).1
   simp at this;omega
  have:=mapM_some_get h j j (by simp [I])
  rw [this];exact J
 ·cases h
theorem zMB {a:Addr} {u:Value} (h:w.cell? a=some u):a.spot=none/\∃ c t fz,w.heap[a.block]?=some (.cells c t fz):=by
 refine ⟨World.cell?_spot h,?_⟩
 unfold World.cell? at h
 split at h
 ·rename_i c t fz I;exact ⟨_,_,_,I⟩
 ·cases h
/-- the elements of a slice stand in memory one behind the other -/
theorem zR0 {a:Addr} {z:Nat} {es:List D} (Y:∀ x∈es,eOk z x) (h:∀ (k:Nat) (x:D),es[k]?=some x->∀ (j:Nat) (u:D),x.cells[j]?=some u->w.cell? ((a.add (k*ez z)).add j)=some u.cv):Row w a (z9 es)/\(es≠[]->a.spot=none):=by
 by_cases J:es=[]
 ·subst J;exact ⟨.inl rfl,λh=>absurd rfl h⟩
 obtain ⟨x,l,rfl⟩:∃ x l,es=x::l:=by cases es with | nil=>exact absurd rfl J | cons x l=>exact ⟨x,l,rfl⟩
 have hx:=yc (Y x (by simp))
 have hp:=zA2 z
 obtain ⟨u0,aa⟩:∃ u,x.cells[0]?=some u:=⟨_,oH (by omega)⟩
 have h0:=h 0 x (by simp) 0 u0 aa
 have e0:(a.add (0*ez z)).add 0=a:=by simp [Addr.add]
 rw [e0] at h0
 obtain ⟨hs,c,t,fz,hb⟩:=zMB h0
 refine ⟨.inr ⟨c,t,fz,hb,λi u hu=>?_⟩,λ_=>hs⟩
 have ab:=zQ Y
 have hi:i<(x::l).length*ez z:=by rw [<-ab];exact (oC.1 hu).1
 have hk:i / ez z<(x::l).length:=(Nat.div_lt_iff_lt_mul hp).2 hi
 have hj:i % ez z<ez z:=Nat.mod_lt _ hp
 have hy:=oH hk
 have ae:=yc (Y _ (oB hy))
 have hv:=oH (l:=((x::l)[i / ez z]).cells) (i:=i % ez z) (by omega)
 have O:=rX Y hy hv
 have U:i / ez z*ez z+i % ez z=i:=by rw [Nat.mul_comm];exact Nat.div_add_mod i (ez z)
 rw [U,hu] at O
 have I:=h _ _ hy _ _ hv
 have ac:=oW O
 rw [<-ac] at I
 obtain ⟨b,o,s⟩:=a
 simp only at hs hb ⊢
 subst hs
 rw [xA,xA,mi,U] at I
 have:=zDN (w:=w) (ad:=⟨b,o,none⟩) rfl hb i
 rw [xA] at this
 rw [this] at I
 exact I
theorem qI {e:TypeId} {d:DataW H}:∀ {l:List (DataW H)},d∈l->∀ {x:Nat},x∈d.weights P e->x∈DataW.weightsAll P e l
 | d'::l,h,x,I=>by
   simp only [DataW.weightsAll,oJ]
   rcases oF.1 h with rfl | h
   ·exact .inl I
   ·exact .inr (qI h I)
theorem zGu (hT:T.all (zI9 P T)=true):∀ (n:Nat) (t:TypeId) (cs:List Value) (y:DataW H × List MemPlace),t∈T->DataW.trod enc P w base spare held n t cs=some y->(∀ x∈y.1.weights P t,x<=reachBytes)->∃ xs,Snap w cs xs/\Shp P n t xs:=by
 intro n
 induction n with
 | zero=>intro t cs y _ h _;simp [DataW.trod] at h
 | succ n ih=>
   intro t cs y ht h hw
   have J:=oZ.1 hT t ht
   unfold zI9 at J
   unfold Shp
   unfold DataW.trod at h
   split at h
   ·rename_i I;rw [I];exact ⟨[.lit _],.one rfl rfl .lit,_,rfl⟩
   ·rename_i I;rw [I]
    split at h
    ·rename_i hk;obtain ⟨rfl,hk⟩:=hk
     exact ⟨[.lit _],.one rfl rfl .lit,_,rfl,hk⟩
    ·cases h
   ·rename_i I;rw [I] at J;simp at J
   ·rename_i I;rw [I]
    split at h
    ·cases h
     exact ⟨[.lit _],.one rfl rfl .lit,_,rfl,hw _ (by simp only [DataW.weights,oY];exact nU.symm)⟩
    ·cases h
   ·rename_i I;rw [I] at J;simp at J
   ·rename_i I;rw [I] at J;simp at J
   ·rename_i e I;rw [I]
    exact ⟨_,.one (x:=.sl none (zDV P e) [] 0) rfl trivial .nil,_,_,_,rfl,Nat.zero_le _,λx Y=>absurd Y (by simp)⟩
   ·rename_i e a len cap I;rw [I] at J ⊢
    simp only [oG,nK,List.contains_iff_mem] at J
    obtain ⟨⟨ah,hz⟩,ab⟩:=J
    have ab:=lB ab
    simp only at h
    split at h
    rotate_left
    ·cases h
    rename_i hb
    obtain ⟨ax,ay,az⟩:=hb
    cases hm:(List.range len).mapM λi=>(w.cells? base (a.add (i*P.cellsOf e)) (P.cellsOf e)).bind (DataW.trod enc P w base spare held n e) with
    | none=>rw [hm] at h;simp at h
    | some elems=>
      have ai:=hm
      rw [hm] at h
      simp only [mq] at h
      obtain ⟨rest,_,hy⟩:=lC.1 h
      subst hy
      simp only [DataW.weights,I,oF,oJ] at hw
      have a2:elems.length=len:=by simpa using mapM_some_length hm
      have a3:len<=reachBytes:=by
       have h1:=hw _ (.inl rfl)
       have h2:((elems.map (·.1)).length+(rest.map (·.1)).length)*1<=((elems.map (·.1)).length+(rest.map (·.1)).length)*P.bytesOf e:=mY _ ab
       simp only [oV,Nat.mul_one] at h1 h2
       omega
      have aj:∀ y∈elems,∀ x∈y.1.weights P e,x<=reachBytes:=λy hy x Y=>hw x (.inr (.inl (qI (oQ.2 ⟨y,hy,rfl⟩) Y)))
      obtain ⟨es,O,ak⟩:=zDA (Q:=λi (x:D)=>Shp P n e x.cells/\eOk (zDV P e) x/\Holds w x/\∀ (j:Nat) (u:D),x.cells[j]?=some u->w.cell? ((a.add (i*ez (zDV P e))).add j)=some u.cv) ai λi _ y al hy=>by
       cases hc:w.cells? base (a.add (i*P.cellsOf e)) (P.cellsOf e) with
       | none=>rw [hc] at hy;simp at hy
       | some vs=>
         rw [hc] at hy
         simp only [mq] at hy
         obtain ⟨xs,h1,h2⟩:=ih e vs y ah hy (aj y al)
         obtain ⟨am,ao⟩:=zLd hc
         obtain ⟨x,rfl,h3,h4⟩:=zPx h1 h2 am hz
         refine ⟨x,h2,h3,h4,λj u I=>?_⟩
         rw [<-hz]
         refine ao j _ ?_
         rw [<-h1.cv,oE,I];rfl
      have O:es.length=len:=by simpa using O
      have aa:∀ k x,es[k]?=some x->Shp P n e x.cells/\eOk (zDV P e) x/\Holds w x/\∀ (j:Nat) (u:D),x.cells[j]?=some u->w.cell? ((a.add (k*ez (zDV P e))).add j)=some u.cv:=λk x hk=>by
       have aq:k<len:=by rw [<-O];exact (oC.1 hk).1
       obtain ⟨x',h1,h2⟩:=ak k k (by simp [aq])
       rw [hk] at h1;cases h1;exact h2
      have U:∀ x∈es,Shp P n e x.cells/\eOk (zDV P e) x/\Holds w x:=λx Y=>by
       obtain ⟨k,hk⟩:=oR.1 Y
       obtain ⟨h1,h2,h3,_⟩:=aa k x hk;exact ⟨h1,h2,h3⟩
      obtain ⟨ae,ac⟩:=zR0 (a:=a) (λx Y=>(U x Y).2.1) λk x hk=>(aa k x hk).2.2.2
      refine ⟨[.sl (some a) (zDV P e) es cap],.one (by simp [D.cv,O]) trivial (.sl ac (by omega) (λx Y=>(U x Y).2.1) (λx Y=>(U x Y).2.2) ae),_,_,_,rfl,by omega,λx Y=>(U x Y).1⟩
   ·rename_i cs _ cs' fs I;rw [I] at J ⊢
    simp only [oG,oZ,List.contains_iff_mem] at J
    obtain ⟨hc,au⟩:=J
    split at h
    rotate_left
    ·cases h
    rename_i hl
    cases hm:fs.toList.mapM λf=>DataW.trod enc P w base spare held n f.type ((cs.drop f.offset).take (P.cellsOf f.type)) with
    | none=>rw [hm] at h;simp at h
    | some r=>
      rw [hm] at h
      simp only [ob,nE] at h
      subst h
      simp only [DataW.weights,I] at hw
      obtain ⟨xs,h1,h2⟩:=zCj (R:=Shp P n) hc (by omega) hm hw λf hf vs y hy aw=>ih f.type vs y (au f hf) hy aw
      refine ⟨xs,?_,h2⟩
      simpa [<-hl] using h1
   all_goals (rename_i I;first | (rw [I] at J;simp at J;done) | (exfalso;simp_all;done))
open Go Go.ChangeShapes Go.WideShapes Go.ChangeAt Go.RowKit
structure Ret1 (W W':World) (e:Ending):Prop where
 e:e=.returned (.bool true)
 old:∀ b,b<W.heap.size->W'.heap[b]?=W.heap[b]?
 size:W.heap.size<=W'.heap.size
 ku:KU W W'
theorem zPT {av:Nat->Prop} {W W':World} {e:Ending} (h:Fin [.bool] (λr _=>r=true) av W e W'):Ret1 W W' e:=by
 cases e with
 | returned v=>
   obtain ⟨ps,rows,e',hd⟩:=h
   have I:=hd.q
   have J:=hd.v
   refine ⟨?_,hd.old,hd.size,hd.ku⟩
   cases ps with
   | nil=>simp [QT.app] at I
   | cons p ps=>
     cases p<;>simp [QT.app] at I
     cases ps<;>cases rows<;>simp [QT.app] at I
     subst I
     rw [J];rfl
 | _=>exact h.elim
theorem zL9 {H:Type} {enc:TypeId × Value->H} {P:Program} {fn:Func} {s:ChangeSpec} {apart fresh I:Bool} {W W':World} {args:Array Value} {ds gs:List (DataW H)} {J:List MemPlace} {tb:TypeId} {e:Ending}
  (K:Kids P (·<P.types.size)) (full:∀ t e,t<P.types.size->P.underlying t=some (.slice e)->0<P.cellsOf e)
  (Y:∀ t∈fn.params.toList,t<P.types.size) (hv:s.vars=[]) (ac:fn.resultTypes=#[tb]) (ae:P.underlying tb=some .bool)
  (hs:s.fn H (ds++gs)={ results:=[.lit (.bool true)],args:=ds })
  (hW:DataW.Whole enc P fn.params.toList s.vars apart W args.toList ds gs J) (hr:Ret1 W W' e) :
  ∃ v,e=.returned v/\s.post enc P fn apart fresh I false W args v W':=by
 refine ⟨_,hr.e,?_⟩
 have aa:=hW
 obtain ⟨p,q,hA,hV,rfl,ai,_⟩:=hW
 rw [hv] at hV
 obtain ⟨rfl,rfl⟩:=trodVars_none hV
 have ab:∀ x∈p++[],x.block<W.heap.size:=aa.lt
 have O:∀ {ts:List TypeId} {vs:List Value} {ds:List (DataW H)} {ps:List MemPlace},DataW.TrodAll enc P W 0 (λ_=>true) true ts vs ds ps->(∀ x∈ps,x.block<W.heap.size)->DataW.TrodAll enc P W' 0 (λ_=>true) true ts vs ds ps:=by
  intro ts
  induction ts with
  | nil=>intro vs ds ps h _;obtain ⟨rfl,rfl,rfl⟩:=trodAll_nil h;exact trodAll_mk0
  | cons t ts ih=>
    intro vs ds ps h hl
    obtain ⟨v,aj,d,ds1,a,b,rfl,rfl,rfl,⟨n,h1⟩,h2⟩:=trodAll_cons h
    refine ⟨a,b,⟨n,DataW.trod_carry n _ _ _ h1 λx U=>?_⟩,ih h2 λx U=>hl x (by simp [U]),rfl⟩
    have hb:=hr.old _ (hl x (by simp [U]))
    cases x with
    | cell b off=>simp only [World.sameAt,World.cell?,MemPlace.block] at hb ⊢;rw [hb]
    | map b=>exact hb
 have ah:=O hA λx U=>ab x (by simp [U])
 refine ⟨ds,[],p++[],[],p,[],aa,?_,?_,?_,⟨hr.ku.os,hr.ku.out,λi hi=>?_⟩,λh=>by cases h⟩
 ·rw [hs,ac]
  exact trodAll_mk1 ⟨1,by simp [DataW.trod,Value.cells,ae]⟩
 ·rw [hs]
  exact DataW.TrodAll.respare K full Y ah λx U=>by simpa using ab x (by simp [U])
 ·rw [hs,hv];rfl
 ·rw [hr.old i hi]
  cases hb:W.heap[i]? with
  | none=>rfl
  | some o=>
    cases o with
    | cells c t fr=>exact ⟨rfl,rfl,rfl,λ_ _=>rfl⟩
    | map es clock=>exact .inr ⟨rfl,rfl⟩
    | _=>rfl
open Go Go.Proofs Go.Proofs.Tryz Go.ChangeShapes Go.WideShapes Go.ChangeAt Go.RowKit
theorem zTO:Kids prog (·<prog.types.size):=kids_rows (by kernel_rfl) (by kernel_rfl)
theorem full:∀ t e,t<prog.types.size->prog.underlying t=some (.slice e)->0<prog.cellsOf e:=slices_full_of prog (by kernel_rfl)
/-- the types that the laws' arguments are made of -/
def TT:List TypeId:=[9,3,4,72,22,5]
theorem zM9:TT.all (zI9 prog TT)=true:=by kernel_rfl
theorem zG2:ownKnob prog.godebug=none:=by kernel_rfl
/-- the weights of each argument's reading -/
theorem zJs {H:Type} {P:Program} {I:List TypeId} {ds:List (DataW H)} (h:(DataW.weightsEach P I ds).all (·<=reachBytes)=true) {j:Nat} {t:TypeId} {d:DataW H} (J:I[j]?=some t) (hd:ds[j]?=some d):∀ n∈d.weights P t,n<=reachBytes:=λn O=>by
 have:=oZ.1 h _ (DataW.weights_mem_each J hd n O)
 simpa using this
/-- a slice that came in -/
theorem zNN {H:Type} {enc:TypeId × Value->H} {P:Program} {T:List TypeId} (O:T.all (zI9 P T)=true) {W:World} {r:Reach} {b:Nat} {t e:TypeId} {v:Value} {d:DataW H} {ps:List MemPlace} (U:t∈T) (J:P.underlying t=some (.slice e))
  (I:Value.okWide P W r b t v) (h:DataW.Trod enc P W 0 (λ_=>true) true t v d ps) (Y:∀ n∈d.weights P t,n<=reachBytes):∃ (n:Nat) (a:Option Addr) (es:List D) (c:Nat),(PV.sv a (zDV P e) es c).val []=v/\Holds W (.sl a (zDV P e) es c)/\Shp P n t [.sl a (zDV P e) es c]:=by
 obtain ⟨n,h⟩:=h
 obtain ⟨a0,len,cap,rfl⟩:=okWide_slice J I
 obtain ⟨xs,s,k⟩:=zGu O n t _ _ U h Y
 obtain ⟨m,a,es,c,rfl,rfl,_,_⟩:=zIu J k
 have e0:(D.sl a (zDV P e) es c).cv=.slice a0 len cap:=by
  have:=s.cv
  simpa [Value.cells] using this
 exact ⟨_,a,es,c,e0,s.hold _ (by simp),k⟩
end Go.Proofs.YtnmnahkkcfghjaaGreat
set_option maxRecDepth 100000
namespace Go.Proofs.YtnmnahkkcfghjaaGreat
open Go Go.Proofs Go.Proofs.Tryz
theorem ez5:zDV prog 5=0:=by kernel_rfl
theorem zOQ {W:World} {n:Nat} {a:Option Addr} {es:List D} {c:Nat} (hH:Holds W (.sl a 0 es c)) (h:Shp prog n 22 [.sl a 0 es c]):∀ d∈es,∃ k:Int,d=.lit (.int .u8 k):=by
 obtain ⟨m,a',J,c',e,hs,hl,O⟩:=zIu underlying22 h
 have he:J=es:=by cases hs;rfl
 subst he
 have I:∀ x∈J,x.isCell:=by
  cases hH with
  | nil=>intro x O;simp at O
  | sl h1 h2 h3 h4 h5=>intro x O;exact h3 x O
 intro x U
 obtain ⟨k,Y⟩:=zRp underlying5 (O x U)
 have hc:=I x U
 refine ⟨k,?_⟩
 cases x<;>simp [D.isCell,D.cells] at hc Y ⊢<;>exact Y
open Go Go.Proofs Go.Proofs.Tryz Go.ChangeShapes Go.WideShapes Go.ChangeAt Go.RowKit
set_option maxHeartbeats 1600000 in
set_option maxRecDepth 100000 in
theorem zC0 (os:Os) (I:os.Started) (H:Type) (enc:TypeId × Value->H) :
  ReturnsInHanded {} checked os 3 .any (Rows.fnErasedSpec.pre6 enc prog Tryz.f3 Rows.fnErasedRow.domain false) (Rows.fnErasedSpec.post enc prog Tryz.f3 false true false false):=by
 refine returnsInHanded_of_change_sized (C:=checked) zG2 I (by kernel_rfl) func3
  (ChangeSpec.witness6 (enc:=enc) (C:=checked) false ⟨#[],#[.slice none 0 0],[]⟩ 8 (by kernel_rfl) (by kernel_rfl) (by kernel_rfl) (by kernel_rfl)) ?_
 intro W base args ds gs ab U hW _ J _
 have O:∀ (j:Nat) t v,Tryz.f3.params[j]?=some t->args[j]?=some v->Value.okWide prog W .any base t v:=U
 have ac:=hW
 obtain ⟨p,q,ae,hV,rfl,ai,_⟩:=hW
 have hA:DataW.TrodAll enc prog W 0 (λ_=>true) true Tryz.f3.params.toList args.toList ds p:=ae
 have J:(DataW.weightsEach prog (Tryz.f3.params.toList++[]) (ds++gs)).all (·<=reachBytes)=true:=J
 rw [params3] at hA O J
 obtain ⟨v0,aj,d0,ds1,p0,p1,ha,rfl,rfl,h0,hr⟩:=trodAll_cons hA
 obtain ⟨rfl,rfl,rfl⟩:=trodAll_nil hr
 obtain rfl:args=#[v0]:=by rw [<-nN,ha]
 obtain ⟨rfl,rfl⟩:=trodVars_none hV
 obtain ⟨n0,aC,ah,cC,e0,Y,k0⟩:=zNN zM9 (by decide) underlying22 (O 0 22 v0 rfl rfl) h0 (zJs J (j:=0) rfl rfl)
 rw [ez5] at e0 Y k0
 have hc:=(zJ9 (zOQ Y k0) aC cC W.heap.size).h (λ_=>False) W rfl ⟨λ_ h=>h.elim,⟨λx hx=>by simp [glob] at hx⟩,λb hb=>by obtain ⟨x,hx,_⟩:=hb;simp [glob] at hx,λb hb=>by obtain ⟨x,hx,_⟩:=hb;simp [glob] at hx⟩ (λp hp=>by
  simp only [oF,od,nl] at hp
  subst hp
  exact ⟨⟨Y,λ_ _=>id⟩,rfl⟩)
 have aa:([PV.sv aC 0 ah cC].map (PV.val [])).toArray=#[v0]:=by
  simp only [ol,lA,e0]
 rw [aa] at hc
 refine hc.mono λe W' hf=>?_
 exact zL9 zTO full (by rw [params3];decide) rfl (by kernel_rfl) underlying4 rfl ac (zPT hf)
theorem fnErased_holds:Rows.FnErasedSaid:=
 OpenClaim.holds_of_wide 3 Tryz.f3 rfl rfl rfl rfl rfl rfl rfl ⟨rfl,rfl,rfl,rfl,rfl⟩ rfl rfl rfl rfl rfl (by kernel_rfl) func3 (by kernel_rfl)
  (lB (by kernel_rfl)) (by unfold Func.isWrapper;first | (rw [if_pos (by decide +kernel)];kernel_rfl) | (rw [if_neg (by decide +kernel)];exact ⟨rfl,rfl⟩))
  (λos I H enc _=>zC0 os I H enc)
#print axioms fnErased_holds
end Go.Proofs.YtnmnahkkcfghjaaGreat
