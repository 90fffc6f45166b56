/- Which parts of a body depend on late parameters: the reference. -/
import Derived.Test.YtlahkdflngobiaaGreatKa
import Derived.Test.YtlahkdflngobiaaGreatA6
import Derived.RangeFuncLeaves
import Derived.RangeFuncRecord
import Derived.RangeFuncOwn
import Derived.Below
import Derived.RangeFuncNested
import Derived.RangeFuncBound
import Derived.RangeFuncCalls
import Derived.Shelf.Abstract
import Derived.WalkKit
import Derived.OwnWalkIn
import Derived.TacticsInMore
import Derived.LoopNIn
import Derived.LoopIn
import Derived.Test.YtlahkdflngobiaaGreatProg
import Derived.Test.YtlahkdflngobiaaGreatA1
import Derived.Test.YtlahkdflngobiaaGreatA5
set_option linter.unusedVariables false
set_option linter.unusedSimpArgs false
namespace Go.Proofs.YtlahkdflngobiaaGreat
open Go Go.Proofs Go.Proofs.Tryz Go.IntWalk
theorem zJ2 {l:List Tm} {es:List D} (h:All2 Tm.Is l es) (O:(l.length:Int)=2):∃ I J d0 d1,l=[I,J]/\es=[d0,d1]/\I.Is d0/\J.Is d1:=by
 have he:=h.len
 match l,es,h with
 | [I,J],es,⟨d0,ds,e1,U,d1,Y,e2,h1,e3⟩=>subst e3;subst e2;subst e1;exact ⟨I,J,d0,d1,rfl,rfl,U,h1⟩
 | [],_,_=>simp at O
 | [_],_,_=>simp at O
 | _::_::_::_,_,_=>simp at O;omega
theorem tZ:∀ {l:List Tm} {x:Tm},zKm l=true->x∈l->x.isB=true
 | t::I,x,h,hx=>by
   simp only [zKm,oI] at h
   rcases oG.1 hx with rfl | hx
   ·exact h.1
   ·exact tZ h.2 hx
theorem zEy {l:List Tm} {es:List D} (h:All2 Tm.Is l es) (I:(l.length:Int)=3):∃ J O U d0 d1 d2,l=[J,O,U]/\es=[d0,d1,d2]/\J.Is d0/\O.Is d1/\U.Is d2:=by
 match l,es,h with
 | [J,O,U],es,⟨d0,ds,e1,Y,d1,aa,e2,h1,d2,ab,e3,h2,e4⟩=>subst e4;subst e3;subst e2;subst e1;exact ⟨J,O,U,d0,d1,d2,rfl,rfl,Y,h1,h2⟩
 | [],_,_=>simp at I
 | [_],_,_=>simp at I
 | [_,_],_,_=>simp at I
 | _::_::_::_::_,_,_=>simp at I;omega
theorem Tm.cnt_pos (t:Tm):1<=t.cnt:=by cases t;simp only [Tm.cnt];omega
theorem zFA {g:List Pm} {e:Tm} (h:(xb g e).isSome=true):zAo g=true/\e.vd=true/\e.isB=true:=by
 unfold xb at h
 split at h
 ·assumption
 ·cases h
theorem zTo {e:Tm} (h:e.vd=true):e.ok=true:=by
 simp only [Tm.vd,oI] at h
 exact h.2
open Go Go.RowKit
theorem zNQ {F:Fence} {n:Nat} {P:Program} {g:Operand} {ps:Array Tmp} {assign body:Code} {Q:Exit->Act->World->Prop} {a:Act} {w:World}
  (hro:F.round=none) (h1:1<=n) {gf:Nat} {lb:Array Value} (hg:a.eval g=.func (.func gf) #[] lb) (hFg:F.fn gf) (eg:∀ args w,(callFunc gf args).run P w=.ok (.enter gf args) w)
  {vals:Nat->Array Value} {len:Nat} (hps:∀ i,(vals i).size=ps.size)
  (I Ix:Nat->World->Prop)
  (hIp:∀ i W r r',W.heap[w.heap.size+1]?=some (.loop r)->I i W->I i (W.putObj (w.heap.size+1) (.loop r')))
  (hIxp:∀ i W r r',W.heap[w.heap.size+1]?=some (.loop r)->Ix i W->Ix i (W.putObj (w.heap.size+1) (.loop r')))
  (hI0:∀ r,I 0 ((w.alloc (.deferred (some []))).alloc (.loop r)))
  (hseq:∀ (l:Nat) (J Jx:Nat->World->Prop) (W:World),(∀ i W,J i W->I i W)->J 0 W->(∀ i W,i<len->J i W->YieldAt F (n - 1 - 1) P l (vals i) W fun e W'=>(e=.returned (.bool true)/\J (i+1) W')\/(e=.returned (.bool false)/\Jx (i+1) W')) ->
   CallsIn F (n - 1) P gf (#[.func (.yield l) #[] #[]]++lb) W fun e W'=>(∃ v,e=.returned v)/\(J len W'\/∃ k,k<=len/\Jx k W'))
  (hround:∀ (i:Nat) (W:World) (r0:Loop),i<len->I i W->W.heap[w.heap.size+1]?=some (.loop r0)->W.heap[w.heap.size]?=some (.deferred (some [])) ->
   assign.wpIn (F.inRound (w.heap.size+1)) (n - 1 - 1) P (Exit.then (fun a₁ W1=>W1.heap[w.heap.size+1]?=W.heap[w.heap.size+1]?/\W1.heap[w.heap.size]?=W.heap[w.heap.size]? /\
    ∀ r,body.wpIn (F.inRound (w.heap.size+1)) (n - 1 - 1) P (fun e _ W3=>W3.heap[w.heap.size+1]?=some (.loop r)/\W3.heap[w.heap.size]?=some (.deferred (some []))/\match e with
      | .normal=>I (i+1) W3
      | .ret=>Ix (i+1) W3
      | _=>False) a₁ (W1.putObj (w.heap.size+1) (.loop r))) (fun _ _ _=>False))
    { tmps:=(ps.zip (vals i)).foldl (fun t (p,v)=>t.setIfInBounds p v) a.tmps,defers:=[] } W)
  (hdone:∀ W,I len W->W.heap[w.heap.size]?=some (.deferred (some []))->Q .normal { a with defers:={ target:=.collected w.heap.size,args:=#[] }::a.defers } W)
  (hstop:∀ k W,k<=len->Ix k W->W.heap[w.heap.size]?=some (.deferred (some []))->Q .ret { a with defers:={ target:=.collected w.heap.size,args:=#[] }::a.defers } W) :
  (Code.rangeFunc g ps assign body).wpIn F n P Q a w:=by
 refine wpIn_rangeFunc ?_
 intro fn hfn
 rw [hro]
 obtain ⟨rec,hrec⟩:∃ rec:LoopState->Option Code->Loop,rec=fun st pe=>{ state:=st,pending:=pe,fn,tmps:=a.tmps,params:=ps,assign,body,defers:=w.heap.size }:=⟨_,rfl⟩
 obtain ⟨W1,hW1⟩:∃ W1,(w.alloc (.deferred (some []))).alloc (.loop (rec .ready none))=W1:=⟨_,rfl⟩
 have hL1:W1.heap[w.heap.size+1]?=some (.loop (rec .ready none)):=by
  rw [<-hW1];have:=World.alloc_heap_new (w.alloc (.deferred (some []))) (.loop (rec .ready none));rwa [World.size_alloc] at this
 have hK1:W1.heap[w.heap.size]?=some (.deferred (some [])):=by
  rw [<-hW1];exact (Below.heap_alloc _ _ _ (by simp)).trans (World.alloc_heap_new w _)
 have hI1:I 0 W1:=by rw [<-hW1];exact hI0 _
 refine ⟨w.heap.size+1,[{ target:=.collected w.heap.size,args:=#[] }],W1,{ target:=.fn (.func gf) lb,args:=#[.func (.yield (w.heap.size+1)) #[] #[]] },W1,gf,
  #[.func (.yield (w.heap.size+1)) #[] #[]]++lb,W1,?_,?_,?_,?_,fun _=>h1,?_⟩
 ·rw [<-hW1,hrec];exact run_enterLoop_outer _ _ _ _ _
 ·simp only [resolve,hg]
  simp [go_sem]
 ·intro f' hf';simp [Target.leads] at hf';subst hf';exact hFg
 ·simp [invoke,go_sem,eg]
 ·refine (hseq (w.heap.size+1)
   (fun i W=>I i W/\W.heap[w.heap.size+1]?=some (.loop (rec .ready none))/\W.heap[w.heap.size]?=some (.deferred (some [])))
   (fun i W=>Ix i W/\W.heap[w.heap.size+1]?=some (.loop (rec .done (some .ret)))/\W.heap[w.heap.size]?=some (.deferred (some [])))
   W1 (fun i W h=>h.1) ⟨hI1,hL1,hK1⟩ ?_).mono ?_
  ·rintro i W hlen ⟨hi,hl,hk⟩
   have hy:=run_yield (P:=P) (args:=vals i) hl (by rw [hrec];exact hps i)
   rw [hrec] at hy
   refine ⟨fn,_,assign,body,hy,roundIn_of_wpIn hfn (wpIn_mono (hround i W _ hlen hi hl hk) ?_)⟩
   intro e a1 Wa hq
   cases e with
   | normal=>
     obtain ⟨g1,g2,g3⟩:=hq
     rw [hl] at g1;rw [hk] at g2
     refine ⟨_,run_beginRound g1 (by rw [hrec]),wpIn_mono (g3 _) ?_⟩
     intro e a3 W3 hp
     obtain ⟨hl3,hk3,hp⟩:=hp
     have hlt3:=(oP.1 hl3).1
     cases e with
     | normal=>
       have:=run_endRound (P:=P) none hl3
       rw [hrec] at this
       exact ⟨_,_,this,.inl ⟨rfl,hIp _ _ _ _ hl3 hp,by rw [hrec];exact World.putObj_heap_same hlt3,(World.putObj_heap_other (by omega)).trans hk3⟩⟩
     | ret=>
       have:=run_endRound (P:=P) (some .ret) hl3
       rw [hrec] at this
       exact ⟨_,_,this,.inr ⟨rfl,hIxp _ _ _ _ hl3 hp,by rw [hrec];exact World.putObj_heap_same hlt3,(World.putObj_heap_other (by omega)).trans hk3⟩⟩
     | exit id=>exact hp.elim
     | goto t=>exact hp.elim
     | panic ch=>exact hp.elim
     | outgrown=>exact hp.elim
   | _=>exact hq.elim
  ·rintro e W2 ⟨⟨v,rfl⟩,(⟨hi,hl,hk⟩ | ⟨k,hkl,hi,hl,hk⟩)⟩
   ·exact ⟨none,_,by have:=run_endLoop (P:=P) hl (by rw [hrec];simp);rw [hrec] at this;exact this,hdone _ (hIp _ _ _ _ hl hi) ((World.putObj_heap_other (by omega)).trans hk)⟩
   ·exact ⟨some .ret,_,by have:=run_endLoop (P:=P) hl (by rw [hrec];simp);rw [hrec] at this;exact this,wpIn_ret (hstop _ _ hkl (hIxp _ _ _ _ hl hi) ((World.putObj_heap_other (by omega)).trans hk))⟩
open Go Go.Proofs Go.RowKit Go.Shelf
attribute [local go_sem] Oper.semAt_some
set_option maxRecDepth 100000 in
set_option maxHeartbeats 2000000 in
theorem zS2 (F:Fence) (n:Nat) (h8:F.fn 149) (hro:F.round=none) (hn:1<=n) (l Bs b off len cap:Nat) (a:Option Addr) (ha:0<len->a=some ⟨b,off,none⟩) (f:Nat->ByteArray × Int × Bool) (hreach:len*24<=140737488351232) (J Jx:Nat->World->Prop)
  (hJ:∀ i W,J i W->W.cell? ⟨Bs,0,none⟩=some (.slice a len cap)/\∀ j,j<len->W.cell? ⟨b,off+j*3,none⟩=some (.string (f j).1)/\W.cell? ⟨b,off+j*3+1,none⟩=some (.int .i64 (f j).2.1)/\W.cell? ⟨b,off+j*3+2,none⟩=some (.bool (f j).2.2))
  (hY:∀ i W,i<len->J i W->YieldAt F (n - 1) Tryz.prog l #[.int .i64 ((len - 1 - i:Nat):Int),.agg #[.string (f (len - 1 - i)).1,.int .i64 (f (len - 1 - i)).2.1,.bool (f (len - 1 - i)).2.2]] W fun e W'=>
   (e=.returned (.bool true)/\J (i+1) W')\/(e=.returned (.bool false)/\Jx (i+1) W'))
  (W:World) (h0:J 0 W) :
  CallsIn F n Tryz.prog 149 #[.func (.yield l) #[] #[],.pointer (some ⟨Bs,0,none⟩)] W fun e W'=>(∃ v,e=.returned v)/\(J len W'\/∃ k,k<=len/\Jx k W'):=by
 have hBs:=(hJ 0 W h0).1
 refine callsIn_of_wp Tryz.func149 rfl h8 ?_ hro
 simp only [Tryz.ntmps149,nB,oJ,oM,Nat.reduceAdd,Nat.reduceSub,mS,mT,mj,mY,oU,nD]
 gi_wp2
 gi_loopw [3] (fun i wr=>∃ k:Nat,k<=len/\i=.int .i64 ((len:Int) - 1 - k)/\J k wr)
  (fun i _=>(intOf i+1).toNat)
 case atStart=>exact ⟨0,Nat.zero_le _,by simp,h0⟩
 case round=>
  obtain ⟨k,hk,rfl,hJs⟩:=hrel
  by_cases hlt:k<len
  ·obtain rfl:=ha (by omega)
   obtain ⟨fn,tmps,assign,body,hy,hR⟩:=hY k wr hlt hJs
   obtain ⟨hB2,hc⟩:=hJ k wr hJs
   obtain ⟨h1,h2,h3⟩:=hc (len - 1 - k) (by omega)
   have hnn:(0:Int)<=(len:Int) - 1 - k:=by omega
   have e1:((len:Int) - 1 - k).toNat=len - 1 - k:=by omega
   have e2:((len - 1 - k:Nat):Int)=(len:Int) - 1 - k:=by omega
   rw [e2] at hy
   gi_wp2
   refine hR.mono ?_
   rintro e W3 (⟨rfl,hJ3⟩ | ⟨rfl,hJx3⟩)
   ·gi_wp2
    go_roundw
    case rel=>exact ⟨k+1,by omega,by simp;omega,hJ3⟩
    case measure=>simp [intOf];omega
   ·gi_wp2
    refine bodyPost_ret (results_none rfl _ _ _) rfl ?_
    exact ⟨⟨_,rfl⟩,.inr ⟨k+1,by omega,hJx3⟩⟩
  ·obtain rfl:k=len:=by omega
   gi_wp2
   go_end0
   exact ⟨⟨_,rfl⟩,.inl hJs⟩
/-- slices.Backward itself -/
theorem zUL (F:Fence) (n:Nat) (h:F.fn 120) (I:F.round=none) (a:Option Addr) (len cap:Nat) (W:World) :
  CallsIn F n Tryz.prog 120 #[.slice a len cap] W λe W'=>e=.returned (.func (.func 149) #[] #[.pointer (some ⟨W.heap.size,0,none⟩)])/\W'=W.alloc (.cells #[.slice a len cap] 60 (0,0)):=by
 refine callsIn_of_wp Tryz.func120 rfl h ?_ I
 simp only [Tryz.ntmps120,nB,oJ,oM,Nat.reduceAdd,Nat.reduceSub,mS,mT,mj,mY,oU,nD]
 gi_wp2
 go_ret
 exact ⟨rfl,rfl⟩
attribute [local go_sem] Oper.semAt_some
/-- the world while places.find runs -/
structure FG (W w:World) (nm:ByteArray) (a:Option Addr) (len cap:Nat) (r:ByteArray × Int × Bool):Prop where
 size:W.heap.size+3<=w.heap.size
 old:∀ k,k<W.heap.size->w.heap[k]?=W.heap[k]?
 b3:w.heap[W.heap.size]?=some (.cells #[.string nm] 9)
 b4:w.heap[W.heap.size+1]?=some (.cells #[.string r.1,.int .i64 r.2.1,.bool r.2.2] 65)
 b8:w.heap[W.heap.size+2]?=some (.cells #[.slice a len cap] 60)
 fz:∀ (k:Nat) (c:Array Value) (t:TypeId) (z:Nat × Nat),W.heap.size<=k->w.heap[k]?=some (.cells c t z)->z=(0,0)
 os:w.os=W.os
 out:w.output=W.output
theorem FG.cell {W w:World} {k:Nat} {c:Array Value} {t:TypeId} {z:Nat × Nat} {i:Nat} (h:w.heap[k]?=some (.cells c t z)):w.cell? ⟨k,i,none⟩=c[i]?:=by simp [World.cell?,h]
theorem zj {w:World} {k i:Nat} {v:Value} {c:Array Value} {t:TypeId} {z:Nat × Nat} (h:w.heap[k]?=some (.cells c t z)):(w.setCell ⟨k,i,none⟩ v).heap[k]?=some (.cells (c.setIfInBounds i v) t z):=by
 simp [World.setCell,Array.getElem?_modify,h]
theorem zG {w:World} {k i j:Nat} {v:Value} (h:j≠k):(w.setCell ⟨k,i,none⟩ v).heap[j]?=w.heap[j]?:=by
 simp [World.setCell,Array.getElem?_modify,Ne.symm h]
variable {W w:World} {nm:ByteArray} {a:Option Addr} {len cap:Nat} {r:ByteArray × Int × Bool}
theorem FG.alloc (h:FG W w nm a len cap r) {o:Obj} (U:∀ c t z,o=.cells c t z->z=(0,0)):FG W (w.alloc o) nm a len cap r:=by
 have key:∀ k,k<w.heap.size->(w.alloc o).heap[k]?=w.heap[k]?:=λk I=>Below.heap_alloc _ _ _ I
 have hs:=h.size
 refine ⟨by simp;omega,λk I=>(key k (by omega)).trans (h.old k I),(key _ (by omega)).trans h.b3,(key _ (by omega)).trans h.b4,(key _ (by omega)).trans h.b8,λk c t z I hc=>?_,h.os,h.out⟩
 by_cases O:k<w.heap.size
 ·rw [key k O] at hc;exact h.fz k c t z I hc
 ·by_cases J:k=w.heap.size
  ·subst J
   have Y:=World.alloc_heap_new w o
   rw [Y] at hc
   exact U c t z (oT hc)
  ·have:(w.alloc o).heap[k]?=none:=mK (by simp;omega)
   rw [this] at hc;cases hc
theorem FG.put (h:FG W w nm a len cap r) {l:Nat} {o:Obj} (Y:W.heap.size+3<=l) (U:∀ c t z,o=.cells c t z->z=(0,0)):FG W (w.putObj l o) nm a len cap r:=by
 have key:∀ k,k≠l->(w.putObj l o).heap[k]?=w.heap[k]?:=λk I=>World.putObj_heap_other I
 refine ⟨by simpa using h.size,λk I=>(key k (by omega)).trans (h.old k I),(key _ (by omega)).trans h.b3,(key _ (by omega)).trans h.b4,(key _ (by omega)).trans h.b8,λk c t z I hc=>?_,h.os,h.out⟩
 by_cases J:k=l
 ·subst J
  by_cases O:k<w.heap.size
  ·rw [World.putObj_heap_same O] at hc
   exact U c t z (oT hc)
  ·have:(w.putObj k o).heap[k]?=none:=mK (by simp;omega)
   rw [this] at hc;cases hc
 ·rw [key k J] at hc;exact h.fz k c t z I hc
theorem FG.set (h:FG W w nm a len cap r) (q:ByteArray × Int × Bool):FG W (((w.setCell ⟨W.heap.size+1,0,none⟩ (.string q.1)).setCell ⟨W.heap.size+1,1,none⟩ (.int .i64 q.2.1)).setCell ⟨W.heap.size+1,2,none⟩ (.bool q.2.2)) nm a len cap q:=by
 have key:∀ k,k≠W.heap.size+1->(((w.setCell ⟨W.heap.size+1,0,none⟩ (.string q.1)).setCell ⟨W.heap.size+1,1,none⟩ (.int .i64 q.2.1)).setCell ⟨W.heap.size+1,2,none⟩ (.bool q.2.2)).heap[k]?=w.heap[k]?:=λk I=>by
  rw [zG I,zG I,zG I]
 have O:(((w.setCell ⟨W.heap.size+1,0,none⟩ (.string q.1)).setCell ⟨W.heap.size+1,1,none⟩ (.int .i64 q.2.1)).setCell ⟨W.heap.size+1,2,none⟩ (.bool q.2.2)).heap[W.heap.size+1]?=some (.cells #[.string q.1,.int .i64 q.2.1,.bool q.2.2] 65):=by
  rw [zj (zj (zj h.b4))];rfl
 refine ⟨by simp [World.setCell];exact h.size,λk I=>(key k (by omega)).trans (h.old k I),(key _ (by omega)).trans h.b3,O,(key _ (by omega)).trans h.b8,λk c t z I hc=>?_,h.os,h.out⟩
 by_cases J:k=W.heap.size+1
 ·subst J;rw [O] at hc;cases hc;rfl
 ·rw [key k J] at hc;exact h.fz k c t z I hc
theorem FG.res {fn:Func} (I:fn.results=#[.cell 4 65]) (h:FG W w nm a len cap r) {Y:Array Value} (ht:Y[4]?.getD undef=.pointer (some ⟨W.heap.size+1,0,none⟩)) :
  (results fn Y).run Tryz.prog w=.ok (.agg #[.string r.1,.int .i64 r.2.1,.bool r.2.2]) w:=by
 have J:w.cell? ⟨W.heap.size+1,0,none⟩=some (.string r.1):=FG.cell (W:=w) h.b4
 have O:w.cell? ⟨W.heap.size+1,1,none⟩=some (.int .i64 r.2.1):=FG.cell (W:=w) h.b4
 have U:w.cell? ⟨W.heap.size+1,2,none⟩=some (.bool r.2.2):=FG.cell (W:=w) h.b4
 simp [results,I,go_sem,ht,J,O,U]
/-- what places.find comes to -/
structure FEnd (W w:World) (nm:ByteArray) (len:Nat) (f:Nat->ByteArray × Int × Bool) (r:ByteArray × Int × Bool):Prop where
 res:(∃ p,p<len/\(f p).1=nm/\(∀ q,p<q->q<len->(f q).1≠nm)/\r=f p)\/((∀ q,q<len->(f q).1≠nm)/\r=(⟨#[]⟩,0,false))
 size:W.heap.size<=w.heap.size
 old:∀ k,k<W.heap.size->w.heap[k]?=W.heap[k]?
 fz:∀ (k:Nat) (c:Array Value) (t:TypeId) (z:Nat × Nat),W.heap.size<=k->w.heap[k]?=some (.cells c t z)->z=(0,0)
 os:w.os=W.os
 out:w.output=W.output
set_option maxRecDepth 100000 in
set_option maxHeartbeats 2000000 in
theorem zUQ (F:Fence) (n:Nat) (ai:F.fn 76) (ah:F.fn 120) (ac:F.fn 149) (aa:F.round=none) (hn:5<=n) (b off len cap:Nat) (a:Option Addr) (ha:0<len->a=some ⟨b,off,none⟩) (f:Nat->ByteArray × Int × Bool) (ab:len*24<=140737488351232)
  (nm:ByteArray) (W:World) (hc:∀ j,j<len->W.cell? ⟨b,off+j*3,none⟩=some (.string (f j).1)/\W.cell? ⟨b,off+j*3+1,none⟩=some (.int .i64 (f j).2.1)/\W.cell? ⟨b,off+j*3+2,none⟩=some (.bool (f j).2.2)) :
  CallsIn F n Tryz.prog 76 #[.slice a len cap,.string nm] W λe w=>∃ r,e=.returned (.agg #[.string r.1,.int .i64 r.2.1,.bool r.2.2])/\FEnd W w nm len f r:=by
 refine callsIn_of_wp_marks Tryz.func76 rfl ai ?_ aa
 simp only [Tryz.ntmps76,nB,oJ,oM,Nat.reduceAdd,Nat.reduceSub,mS,mT,mj,mY,oU,nD]
 gi_wp2
 refine ⟨λ_=>by omega,(zUL F (n - 1) ah aa a len cap _).mono ?_⟩
 rintro e W' ⟨rfl,rfl⟩
 gi_wp2
 refine zNQ aa (by omega) (gf:=149) rfl ac (enters_of Tryz.func149 (by kernel_rfl) rfl) (len:=len)
  (vals:=λi=>#[.int .i64 ((len - 1 - i:Nat):Int),.agg #[.string (f (len - 1 - i)).1,.int .i64 (f (len - 1 - i)).2.1,.bool (f (len - 1 - i)).2.2]]) (λi=>rfl)
  (λi w=>(∀ j,j<i->(f (len - 1 - j)).1≠nm)/\FG W w nm a len cap (⟨#[]⟩,0,false))
  (λi w=>(∀ j,j+1<i->(f (len - 1 - j)).1≠nm)/\0<i/\(f (len - i)).1=nm/\FG W w nm a len cap (f (len - i))) ?_ ?_ ?_ ?_ ?_ ?_ ?_
 ·rintro i w r r' h ⟨h1,O⟩
  exact ⟨h1,O.put (by simp) (by simp)⟩
 ·rintro i w r r' h ⟨h1,h2,h3,O⟩
  exact ⟨h1,h2,h3,O.put (by simp) (by simp)⟩
 ·intro r
  refine ⟨λj hj=>by omega,FG.alloc (FG.alloc ?_ (by simp)) (by simp)⟩
  refine ⟨by simp,λk hk=>?_,?_,?_,?_,λk c t z hk hc=>?_,rfl,rfl⟩
  ·rw [Below.heap_alloc _ _ _ (by simp;omega),Below.heap_alloc _ _ _ (by simp;omega),Below.heap_alloc _ _ _ (by omega)]
  ·rw [Below.heap_alloc _ _ _ (by simp;omega),Below.heap_alloc _ _ _ (by simp)];exact World.alloc_heap_new _ _
  ·rw [Below.heap_alloc _ _ _ (by simp)]
   have:=World.alloc_heap_new (W.alloc (Obj.cells #[Value.string nm] 9)) (Obj.cells #[Value.string { data:=#[] },Value.int IntKind.i64 0,Value.bool false] 65)
   rwa [World.size_alloc] at this
  ·have:=World.alloc_heap_new ((W.alloc (Obj.cells #[Value.string nm] 9)).alloc (Obj.cells #[Value.string { data:=#[] },Value.int IntKind.i64 0,Value.bool false] 65)) (Obj.cells #[.slice a len cap] 60)
   simpa only [World.size_alloc] using this
  ·have aj:k=W.heap.size\/k=W.heap.size+1\/k=W.heap.size+2:=by
    have:=(oP.1 hc).1
    simp at this;omega
   rcases aj with rfl | rfl | rfl
   ·rw [Below.heap_alloc _ _ _ (by simp;omega),Below.heap_alloc _ _ _ (by simp),World.alloc_heap_new] at hc
    cases hc;rfl
   ·rw [Below.heap_alloc _ _ _ (by simp)] at hc
    have:=World.alloc_heap_new (W.alloc (Obj.cells #[Value.string nm] 9)) (Obj.cells #[Value.string { data:=#[] },Value.int IntKind.i64 0,Value.bool false] 65)
    rw [World.size_alloc] at this
    rw [this] at hc;cases hc;rfl
   ·have:=World.alloc_heap_new ((W.alloc (Obj.cells #[Value.string nm] 9)).alloc (Obj.cells #[Value.string { data:=#[] },Value.int IntKind.i64 0,Value.bool false] 65)) (Obj.cells #[.slice a len cap] 60)
    simp only [World.size_alloc] at this
    rw [this] at hc;cases hc;rfl
 ·intro l J Jx w hJ h0 hY
  refine zS2 F (n - 1) ac aa (by omega) l (W.heap.size+2) b off len cap a ha f ab J Jx (λi w h=>?_) hY w h0
  obtain ⟨_,O⟩:=hJ i w h
  have ae:∀ p:Addr,p.block<W.heap.size->w.cell? p=W.cell? p:=λp hp=>by simp [World.cell?,O.old _ hp]
  refine ⟨FG.cell (W:=w) O.b8,λj hj=>?_⟩
  obtain ⟨g1,g2,g3⟩:=hc j hj
  have hb:b<W.heap.size:=by
   by_cases hb:b<W.heap.size
   ·exact hb
   ·have h0:W.heap[b]?=none:=mK (by omega)
    simp [World.cell?,h0] at g1
  exact ⟨(ae _ hb).trans g1,(ae _ hb).trans g2,(ae _ hb).trans g3⟩
 ·rintro i w r0 hi ⟨h1,O⟩ hl hD
  simp only [List.zip_toArray,nB]
  gi_wp2
  have hS:(((W.alloc (Obj.cells #[Value.string nm] 9)).alloc (Obj.cells #[Value.string { data:=#[] },Value.int IntKind.i64 0,Value.bool false] 65)).alloc (Obj.cells #[Value.slice a len cap] 60)).heap.size=W.heap.size+3:=by simp
  rw [hS] at hl hD ⊢
  have ax:=(oP.1 hl).1
  have ay:=O.size
  refine ⟨Below.heap_alloc _ _ _ (by omega),Below.heap_alloc _ _ _ (by omega),λr=>?_⟩
  obtain ⟨w2,Y⟩:∃ w2,w2=(w.alloc (Obj.cells #[Value.string (f (len - 1 - i)).fst,Value.int IntKind.i64 (f (len - 1 - i)).snd.fst,Value.bool (f (len - 1 - i)).snd.snd] 65)).putObj (W.heap.size+3+1) (Obj.loop r):=⟨_,rfl⟩
  have U:FG W w2 nm a len cap (⟨#[]⟩,0,false):=by rw [Y];exact (O.alloc (by simp)).put (by omega) (by simp)
  have h6:w2.heap[w.heap.size]?=some (Obj.cells #[Value.string (f (len - 1 - i)).fst,Value.int IntKind.i64 (f (len - 1 - i)).snd.fst,Value.bool (f (len - 1 - i)).snd.snd] 65):=by
   rw [Y,World.putObj_heap_other (by omega)];exact World.alloc_heap_new _ _
  have ak:w2.heap[W.heap.size+3+1]?=some (.loop r):=by rw [Y];exact World.putObj_heap_same (by simp;omega)
  have al:w2.heap[W.heap.size+3]?=some (.deferred (some [])):=by rw [Y,World.putObj_heap_other (by omega),Below.heap_alloc _ _ _ (by omega)];exact hD
  rw [<-Y]
  have az:w2.cell? ⟨w.heap.size,0,none⟩=some (.string (f (len - 1 - i)).fst):=FG.cell (W:=w) h6
  have a0:w2.cell? ⟨w.heap.size,1,none⟩=some (.int .i64 (f (len - 1 - i)).2.1):=FG.cell (W:=w) h6
  have a2:w2.cell? ⟨w.heap.size,2,none⟩=some (.bool (f (len - 1 - i)).2.2):=FG.cell (W:=w) h6
  have c3:w2.cell? ⟨W.heap.size,0,none⟩=some (.string nm):=FG.cell (W:=w) U.b3
  have f40:w2.frozen? ⟨W.heap.size+1,0,none⟩=false:=by simp [World.frozen?,U.b4]
  have f41:w2.frozen? ⟨W.heap.size+1,1,none⟩=false:=by simp [World.frozen?,U.b4]
  have f42:w2.frozen? ⟨W.heap.size+1,2,none⟩=false:=by simp [World.frozen?,U.b4]
  have am:w2.cell? ⟨W.heap.size+1,0,none⟩=some (.string ⟨#[]⟩):=FG.cell (W:=w) U.b4
  have ao:w2.cell? ⟨W.heap.size+1,1,none⟩=some (.int .i64 0):=FG.cell (W:=w) U.b4
  have aq:w2.cell? ⟨W.heap.size+1,2,none⟩=some (.bool false):=FG.cell (W:=w) U.b4
  clear Y
  have e9:len - (i+1)=len - 1 - i:=by omega
  by_cases hm:(f (len - 1 - i)).1=nm
  ·gi_wp2
   refine ⟨?_,?_,h1,?_⟩
   ·rw [zG (by omega),zG (by omega),zG (by omega)];exact ak
   ·rw [zG (by omega),zG (by omega),zG (by omega)];exact al
   ·have:=U.set (f (len - 1 - i))
    rwa [hm] at this
  ·have a3:((f (len - 1 - i)).1.toList==nm.toList)=false:=by
    cases hb:((f (len - 1 - i)).1.toList==nm.toList) with
    | false=>rfl
    | true=>exact absurd (zJ6 (by simpa using hb)) hm
   gi_wp2
   intro j hj
   by_cases au:j=i
   ·rw [au];exact hm
   ·exact h1 j (by omega)
 ·rintro w ⟨h1,O⟩ hD
  have hS:(((W.alloc (Obj.cells #[Value.string nm] 9)).alloc (Obj.cells #[Value.string { data:=#[] },Value.int IntKind.i64 0,Value.bool false] 65)).alloc (Obj.cells #[Value.slice a len cap] 60)).heap.size=W.heap.size+3:=by simp
  rw [hS] at hD ⊢
  have f40:w.frozen? ⟨W.heap.size+1,0,none⟩=false:=by simp [World.frozen?,O.b4]
  have f41:w.frozen? ⟨W.heap.size+1,1,none⟩=false:=by simp [World.frozen?,O.b4]
  have f42:w.frozen? ⟨W.heap.size+1,2,none⟩=false:=by simp [World.frozen?,O.b4]
  have am:w.cell? ⟨W.heap.size+1,0,none⟩=some (.string ⟨#[]⟩):=FG.cell (W:=w) O.b4
  have ao:w.cell? ⟨W.heap.size+1,1,none⟩=some (.int .i64 0):=FG.cell (W:=w) O.b4
  have aq:w.cell? ⟨W.heap.size+1,2,none⟩=some (.bool false):=FG.cell (W:=w) O.b4
  gi_wp2
  have aw:=O.set (⟨#[]⟩,0,false)
  refine ⟨by simp,.inl ⟨_,_,rfl,run_takeDeferred (by rw [zG (by omega),zG (by omega),zG (by omega)];exact hD),?_⟩⟩
  have I:=aw.put (l:=W.heap.size+3) (o:=.deferred none) (by omega) (by simp)
  refine ⟨_,FG.res rfl I rfl,_,rfl,.inr ⟨λq hq=>?_,rfl⟩,oR (Nat.le_add_right _ 3) I.size,I.old,I.fz,I.os,I.out⟩
  have:=h1 (len - 1 - q) (by omega)
  rwa [show len - 1 - (len - 1 - q)=q by omega] at this
 ·rintro k w hk ⟨h1,h2,h3,O⟩ hD
  have hS:(((W.alloc (Obj.cells #[Value.string nm] 9)).alloc (Obj.cells #[Value.string { data:=#[] },Value.int IntKind.i64 0,Value.bool false] 65)).alloc (Obj.cells #[Value.slice a len cap] 60)).heap.size=W.heap.size+3:=by simp
  rw [hS] at hD ⊢
  refine ⟨by simp,.inl ⟨_,_,rfl,run_takeDeferred hD,?_⟩⟩
  have I:=O.put (l:=W.heap.size+3) (o:=.deferred none) (by omega) (by simp)
  refine ⟨_,FG.res rfl I rfl,_,rfl,.inl ⟨len - k,by omega,h3,λq hq a4=>?_,rfl⟩,oR (Nat.le_add_right _ 3) I.size,I.old,I.fz,I.os,I.out⟩
  have:=h1 (len - 1 - q) (by omega)
  rwa [show len - 1 - (len - 1 - q)=q by omega] at this
/-- a place: name, number, late -/
abbrev Pl:=ByteArray × Int × Bool
def plD (p:Pl):D:=.ag [.lit (.string p.1),.lit (.int .i64 p.2.1),.lit (.bool p.2.2)]
def plZ:Pl:=(⟨#[]⟩,0,false)
def zM0 (nm:ByteArray) (l:List Pl):Pl:=(l.reverse.find? λp=>decide (p.1=nm)).getD plZ
theorem zQw {nm:ByteArray} {l:List Pl} {r:Pl} (h:(∃ p,p<l.length/\(l.getD p plZ).1=nm/\(∀ q,p<q->q<l.length->(l.getD q plZ).1≠nm)/\r=l.getD p plZ)\/((∀ q,q<l.length->(l.getD q plZ).1≠nm)/\r=plZ)):r=zM0 nm l:=by
 have key:∀ l:List Pl,(∀ q,q<l.length->(l.getD q plZ).1≠nm)->l.reverse.find? (λp=>decide (p.1=nm))=none:=λl h=>by
  rw [List.find?_eq_none]
  intro x O hd
  obtain ⟨i,hi⟩:=oO.1 (mq.1 O)
  exact h i (oC.1 hi).1 (by rw [oA,hi];simpa using hd)
 rcases h with ⟨p,U,I,Y,rfl⟩ | ⟨I,rfl⟩
 ·have hl:l=l.take p++l.getD p plZ::l.drop (p+1):=by
   have hg:l.getD p plZ=l[p]:=by simp [U]
   rw [hg,ms,nZ]
  unfold zM0
  have h3:=key (l.drop (p+1)) λq hq=>by
   have J:p+1+q<l.length:=by simp at hq;omega
   have:=Y (p+1+q) (by omega) J
   rwa [oA,nL,<-oA]
  generalize l.getD p plZ=x at *
  rw [hl,List.reverse_append,List.reverse_cons,nh,List.find?_append,h3]
  simp [I]
 ·unfold zM0
  rw [key l I];rfl
theorem zKf:∀ (l:List Pl) (j:Nat),j<l.length->(zt (l.map plD))[j*3]?=some (.lit (.string (l.getD j plZ).1))/\(zt (l.map plD))[j*3+1]?=some (.lit (.int .i64 (l.getD j plZ).2.1))/\(zt (l.map plD))[j*3+2]?=some (.lit (.bool (l.getD j plZ).2.2))
 | [],j,h=>by simp at h
 | p::l,0,h=>by simp [zt,plD,D.cells]
 | p::l,j+1,h=>by
   have:=zKf l j (by simpa using h)
   have e:zt ((p::l).map plD)=[.lit (.string p.1),.lit (.int .i64 p.2.1),.lit (.bool p.2.2)]++zt (l.map plD):=by simp [zt,plD,D.cells]
   rw [e]
   have g:∀ k,([D.lit (.string p.1),D.lit (.int .i64 p.2.1),D.lit (.bool p.2.2)]++zt (l.map plD))[k+3]?=(zt (l.map plD))[k]?:=λk=>by
    rw [oQ (by simp)];simp
   have I:=g (j*3);have J:=g (j*3+1);have O:=g (j*3+2)
   rw [show (j+1)*3=j*3+3 by omega,show j*3+3+1=j*3+1+3 by omega,show j*3+3+2=j*3+2+3 by omega,I,J,O]
   simpa using this
theorem zSz (l:List Pl) (a:Option Addr) (c:Nat) (nm:ByteArray) (ae:l.length<=1073741824) (N:Nat) (Q:QT [.ag 3]) (hQ:∀ N',N<=N'->Q (plD (zM0 nm l)) N') :
  ACalls prog 76 [.ag 3] [.sv a 3 (l.map plD) c,.str nm] N Q:=by
 refine ⟨by kernel_rfl,λav w0 hN ah Y=>?_⟩
 subst hN
 have J:Good w0 av (.sl a 3 (l.map plD) c):=(Y _ (nY ..)).1
 have hH:=J.1
 obtain ⟨b,off,ha,hc⟩:∃ b off,(0<l.length->a=some ⟨b,off,none⟩)/\∀ j,j<l.length->w0.cell? ⟨b,off+j*3,none⟩=some (.string (l.getD j plZ).1)/\w0.cell? ⟨b,off+j*3+1,none⟩=some (.int .i64 (l.getD j plZ).2.1)/\w0.cell? ⟨b,off+j*3+2,none⟩=some (.bool (l.getD j plZ).2.2):=by
  generalize hm:l.map plD=es at hH
  cases hH with
  | nil=>
    have:l=[]:=by simpa using hm
    subst this
    exact ⟨0,0,by simp,by simp⟩
  | @sl ad z es cap U h2 h3 h4 h5=>
    by_cases h0:0<l.length
    ·have ab:l.map plD≠[]:=by intro hc;simp at hc;subst hc;simp at h0
     obtain ⟨b,off,sp⟩:=ad
     have U:=U (hm ▸ ab)
     simp only at U;subst U
     refine ⟨b,off,λ_=>rfl,λj hj=>?_⟩
     rcases h5 with h5 | ⟨cc,t,fz,h6,h7⟩
     ·have:=(zKf l j hj).1
      rw [hm,h5] at this;simp at this
     ·rw [<-hm] at h7
      obtain ⟨g1,g2,g3⟩:=zKf l j hj
      have g1:=h7 _ _ g1;have g2:=h7 _ _ g2;have g3:=h7 _ _ g3
      have I:∀ i,w0.cell? ⟨b,i,none⟩=cc[i]?:=λi=>FG.cell (W:=w0) h6
      refine ⟨?_,?_,?_⟩
      ·rw [I];exact g1
      ·rw [I,mF];exact g2
      ·rw [I,mF];exact g3
    ·exact ⟨0,0,λh=>absurd h h0,λj hj=>absurd hj (by omega)⟩
 have aa:(([PV.sv a 3 (l.map plD) c,.str nm]:List PV).map (PV.val [])).toArray=#[.slice a l.length c,.string nm]:=by
  simp [PV.val,PV.val1,PV.cv]
 rw [aa]
 have hC:=zUQ Fence.wide 5 trivial trivial trivial rfl (by omega) b off l.length c a ha (λj=>l.getD j plZ) (by omega) nm w0 hc
 refine (callsIn_wide.1 hC).mono λe w hr=>?_
 obtain ⟨r,rfl,O⟩:=hr
 have ac:=zQw O.res
 refine ⟨[.dg 3 (plD r)],[],[],{
  q:=⟨rfl,by rw [ac];exact hQ _ O.size⟩
  v:=by simp [zKu,zB2,zK5,PV.val1,plD,D.val,D.cv]
  m:={ el:=rfl,br:=λk B hk _=>by simp at hk,bo:=λk B hk _=>by simp at hk,bf:=λk B hk _=>by simp at hk,inj:=λi j b hi _=>by obtain ⟨_,_,B,h3,_⟩:=hi;simp at h3 }
  ok:=λp hp=>by
   simp at hp;subst hp
   refine ⟨⟨.ag λc hc=>?_,λb hb=>?_⟩,_,rfl,rfl,λc hc=>?_⟩
   ·simp at hc;rcases hc with rfl | rfl | rfl<;>exact .lit
   ·simp [plD,D.foot,zD] at hb
   ·simp at hc;rcases hc with rfl | rfl | rfl<;>rfl
  fresh:=λk b hb=>by simp [Env.at] at hb
  size:=O.size
  old:=O.old
  fz:=λb c t z U h2=>Fz.of (O.fz b c t z U h2)
  ku:=⟨O.os,O.out⟩ }⟩
theorem zId:∀ v:List Pl,zD (v.map plD)=[]
 | []=>rfl
 | b::v=>by simp only [od,zD,zId v];rfl
theorem zOp:∀ v:List Pl,xD (v.map plD)
 | []=>trivial
 | b::v=>⟨⟨trivial,trivial,trivial,trivial⟩,zOp v⟩
theorem zSG {N N':Nat} (v:List Pl):OwnL N N' (v.map plD):=⟨by rw [zId];simp,zOp v,by rw [zId];simp,by rw [zId];simp⟩
theorem zOy (v:List Pl) (hv:v.length<=1073741824) (a:Option Addr) (c:Nat) (N:Nat) (Q:QT [.row 65 3]) (Y:∀ c' N',N<=N'->Q (v.map plD) c' N'):ACalls prog 75 [.row 65 3] [.sv a 3 (v.map plD) c] N Q:=by
 have I:(a=none->v.map plD=[])->ACalls prog 75 [.row 65 3] [.sv a 3 (v.map plD) c] N Q:=λhn=>by
  refine uT N a _ c Q λ_=>Br.of (λhi N1 O=>?_) λ_=>⟨⟨rfl,rfl⟩,?_,λc2=>⟨⟨rfl,rfl⟩,λN2 U=>?_⟩⟩
  ·have:=hn (by simpa using hi)
   have h2:=Y 0 N1 O
   rwa [this] at h2
  ·unfold zA;simp;omega
  ·exact Y _ _ U
 cases a with
 | some ad=>exact I (by simp)
 | none=>
   by_cases J:v.map plD=[]
   ·exact I λ_=>J
   ·exact zQ8 (z:=3) (c:=c) (es:=v.map plD) (by kernel_rfl) (by simp) J
theorem zSg (v:List Pl) (Y:v.length<=1073741824) (p:Pl) (a:Option Addr) (c:Nat) (N:Nat) (Q:QT [.sl 3]) (hQ:∀ J O N',N<=N'->Own N N' (.sl J 3 ((v++[p]).map plD) O)->Q J ((v++[p]).map plD) O N') :
  ACalls prog 31 [.sl 3] [.sv a 3 (v.map plD) c,.dg 3 (plD p)] N Q:=by
 refine zCO N a _ c _ Q λ_ _ N1 aa=>?_
 refine zOy v Y a c N1 _ λc2 N2 ab _ _=>⟨⟨rfl,rfl⟩,?_,λc3=>⟨⟨rfl,rfl⟩,⟨rfl,rfl⟩,λa3 N3 ac U N4 I=>?_⟩⟩
 ·unfold zA;simp;omega
 ·have e:v.map plD++[plD p]=(v++[p]).map plD:=by simp
  rw [e] at U ⊢
  exact hQ _ _ _ (by omega) ((qy (N1:=N3) (zSG _) U (oD _)).mono (oD _) I)
end Go.Proofs.YtlahkdflngobiaaGreat
