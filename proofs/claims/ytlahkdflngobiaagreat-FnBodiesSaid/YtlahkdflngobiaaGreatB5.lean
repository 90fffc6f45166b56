/- slices.Backward over parameters. -/
import Derived.RangeFuncNested
import Derived.RangeFuncBound
import Derived.RangeFuncCalls
import Derived.RangeFuncLeaves
import Derived.Shelf.Abstract
import Derived.WalkKit
import Derived.OwnWalkIn
import Derived.TacticsInMore
import Derived.LoopNIn
import Derived.LoopIn
import Derived.Test.YtlahkdflngobiaaGreatProg
import Derived.Test.YtlahkdflngobiaaGreatB4
import Derived.Test.YtlahkdflngobiaaGreatKu
import Derived.Test.YtlahkdflngobiaaGreatB1
import Derived.Deep.MidRow
set_option linter.unusedVariables false
set_option linter.unusedSimpArgs false
namespace Go.Proofs.YtlahkdflngobiaaGreat
open Go Go.Proofs Go.RowKit Go.Shelf
attribute [local go_sem] Oper.semAt_some
set_option maxRecDepth 100000 in
set_option maxHeartbeats 2000000 in
theorem zR9 (F:Fence) (n:Nat) (h8:F.fn 97) (hro:F.round=none) (hn:1<=n) (l Bs b off len cap:Nat) (a:Option Addr) (ha:0<len->a=some ⟨b,off,none⟩) (f:Nat->ByteArray × Int × (Option Addr × Nat × Nat) × Bool) (hreach:len*24<=140737488351232) (J Jx:Nat->World->Prop)
  (hJ:∀ i W,J i W->W.cell? ⟨Bs,0,none⟩=some (.slice a len cap)/\∀ j,j<len->W.cell? ⟨b,off+j*4,none⟩=some (.string (f j).1)/\W.cell? ⟨b,off+j*4+1,none⟩=some (.int .i64 (f j).2.1)/\W.cell? ⟨b,off+j*4+2,none⟩=some (.slice (f j).2.2.1.1 (f j).2.2.1.2.1 (f j).2.2.1.2.2)/\W.cell? ⟨b,off+j*4+3,none⟩=some (.bool (f j).2.2.2))
  (hY:∀ i W,i<len->J i W->YieldAt F (n - 1) Tryz.prog l #[.int .i64 ((len - 1 - i:Nat):Int),.agg #[.string (f (len - 1 - i)).1,.int .i64 (f (len - 1 - i)).2.1,.slice (f (len - 1 - i)).2.2.1.1 (f (len - 1 - i)).2.2.1.2.1 (f (len - 1 - i)).2.2.1.2.2,.bool (f (len - 1 - i)).2.2.2]] W fun e W'=>
   (e=.returned (.bool true)/\J (i+1) W')\/(e=.returned (.bool false)/\Jx (i+1) W'))
  (W:World) (h0:J 0 W) :
  CallsIn F n Tryz.prog 97 #[.func (.yield l) #[] #[],.pointer (some ⟨Bs,0,none⟩)] W fun e W'=>(∃ v,e=.returned v)/\(J len W'\/∃ k,k<=len/\Jx k W'):=by
 have hBs:=(hJ 0 W h0).1
 refine callsIn_of_wp Tryz.func97 rfl h8 ?_ hro
 simp only [Tryz.ntmps97,nB,oJ,oM,Nat.reduceAdd,Nat.reduceSub,mS,mT,mj,mY,oU,nD]
 gi_wp2
 gi_loopw [3] (fun i wr=>∃ k:Nat,k<=len/\i=.int .i64 ((len:Int) - 1 - k)/\J k wr)
  (fun i _=>(intOf i+1).toNat)
 case atStart=>exact ⟨0,Nat.zero_le _,by simp,h0⟩
 case round=>
  obtain ⟨k,hk,rfl,hJs⟩:=hrel
  by_cases hlt:k<len
  ·obtain rfl:=ha (by omega)
   obtain ⟨fn,tmps,assign,body,hy,hR⟩:=hY k wr hlt hJs
   obtain ⟨hB2,hc⟩:=hJ k wr hJs
   obtain ⟨h1,h2,h3,h4⟩:=hc (len - 1 - k) (by omega)
   have hnn:(0:Int)<=(len:Int) - 1 - k:=by omega
   have e1:((len:Int) - 1 - k).toNat=len - 1 - k:=by omega
   have e2:((len - 1 - k:Nat):Int)=(len:Int) - 1 - k:=by omega
   rw [e2] at hy
   gi_wp2
   refine hR.mono ?_
   rintro e W3 (⟨rfl,hJ3⟩ | ⟨rfl,hJx3⟩)
   ·gi_wp2
    go_roundw
    case rel=>exact ⟨k+1,by omega,by simp;omega,hJ3⟩
    case measure=>simp [intOf];omega
   ·gi_wp2
    refine bodyPost_ret (results_none rfl _ _ _) rfl ?_
    exact ⟨⟨_,rfl⟩,.inr ⟨k+1,by omega,hJx3⟩⟩
  ·obtain rfl:k=len:=by omega
   gi_wp2
   go_end0
   exact ⟨⟨_,rfl⟩,.inl hJs⟩
/-- slices.Backward itself -/
theorem zTa (F:Fence) (n:Nat) (h:F.fn 48) (I:F.round=none) (a:Option Addr) (len cap:Nat) (W:World) :
  CallsIn F n Tryz.prog 48 #[.slice a len cap] W λe W'=>e=.returned (.func (.func 97) #[] #[.pointer (some ⟨W.heap.size,0,none⟩)])/\W'=W.alloc (.cells #[.slice a len cap] 24 (0,0)):=by
 refine callsIn_of_wp Tryz.func48 rfl h ?_ I
 simp only [Tryz.ntmps48,nB,oJ,oM,Nat.reduceAdd,Nat.reduceSub,mS,mT,mj,mY,oU,nD]
 gi_wp2
 go_ret
 exact ⟨rfl,rfl⟩
open Go Go.Proofs Go.Proofs.Tryz Go.IntWalk
def zHv (nm:ByteArray) (ty:Ty) (t:Tm):Tm:=.mk 6 nm (bytes []) 0 ty (.mk 0 []) [t]
def yS:List Pm->Tm->Tm
 | [],e=>e
 | p::g,e=>zHv p.nm p.ty (yS g e)
def pmW:List Pm->Nat
 | []=>0
 | p::g=>2+p.ty.cnt+pmW g
theorem zQV (nm:ByteArray) (ty:Ty) (t:Tm):(zHv nm ty t).cnt=2+ty.cnt+t.cnt:=by simp only [zHv,Tm.cnt,Ty.cnt,zJ,zR];omega
theorem zBd:∀ (g:List Pm) (e:Tm),(yS g e).cnt=pmW g+e.cnt
 | [],e=>by simp [yS,pmW]
 | p::g,e=>by simp only [yS,pmW,zQV,zBd g e];omega
theorem zLz:∀ (g:List Pm) (i:Nat),pmW (g.drop i)<=pmW g
 | [],i=>by simp
 | p::g,0=>by simp
 | p::g,i+1=>by simp only [List.drop_succ_cons,pmW];have:=zLz g i;omega
theorem zKe:∀ {g:List Pm} {p:Pm},p∈g->p.ty.cnt<=pmW g
 | q::g,p,h=>by
   simp only [pmW]
   rcases oG.1 h with rfl | h
   ·omega
   ·have:=zKe h;omega
theorem zLL {N N':Nat} {us vs:List D} (h:OwnL N N' (us++vs)):OwnL N N' vs:=by
 have J:=h.nd
 rw [zB,nN] at J
 exact ⟨J.2.1,(qA h.fl).2,λb I=>h.lo b (by rw [zB];exact nK _ I),λb I=>h.hi b (by rw [zB];exact nK _ I)⟩
theorem zPS {N N':Nat} {I J:D} {v:Value} {es:List D} (h:OwnL N N' (I::J::es)):OwnL N N' (I::J::.lit v::.sl none 2 [] 0::es):=
 ⟨by simpa only [zD,D.foot,oU] using h.nd,⟨h.fl.1,h.fl.2.1,trivial,⟨by simp,trivial⟩,h.fl.2.2⟩,by simpa only [zD,D.foot,oU] using h.lo,by simpa only [zD,D.foot,oU] using h.hi⟩
theorem zRf {s:ByteArray} (hs:s.size<=4611686018427387904) {ty:Ty} {Y:D} (h1:ty.Is Y) (aa:ty.cnt<=1073741824) {t:Tm} {x2:D} (h2:t.Is x2) (ab:t.cnt<=1073741824):Cop 51 9 [.str s,.dg 2 Y,.dg 9 x2] (zHv s ty t).Is:=λN Q hQ=>by
 refine zCg N s Y x2 Q λ_ _=>⟨⟨rfl,rfl⟩,λa _ N1 ac I=>?_⟩
 refine qg 6 (zAO h2) (by simp) (by simpa using ab) a 1 N1 _ λx N2 ak hx J _=>⟨wU I J,λ_ N3 ae=>?_⟩
 refine zI ty Y h1 aa N3 _ λx' N4 al O ah _ _ N5 ai=>?_
 obtain ⟨t0,t1,r0,r1,a',es,c,rfl,hh,U,aj⟩:=Tm.is_mk.1 hx
 refine hQ _ _ (by omega) (Tm.is_mk.2 ⟨_,_,_,_,_,_,_,rfl,⟨hs,hh.ot,Ty.is_cells O,hh.re⟩,U,aj⟩) ?_
 have hr:OwnL N1 N2 [r0,r1,.sl a' 9 es c]:=by
  have:OwnL N1 N2 [.j 6,.t (bytes []),.t (bytes []),.j 0,t0,t1,r0,r1,.sl a' 9 es c]:=⟨by have:=J.nd;simpa only [D.foot] using this,J.fl,by have:=J.lo;simpa only [D.foot] using this,by have:=J.hi;simpa only [D.foot] using this⟩
  exact zLL (us:=[.j 6,.t (bytes []),.t (bytes []),.j 0,t0,t1]) this
 have hc:=(vg O ah).mono (oD _) ai
 exact sB (zH (zH (zH (zH (rg hc (hr.mono ac ae) (by omega) (by omega))))))
theorem zGH {g:List Pm} {i:Nat} {p:Pm} (e:Tm) (h:g[i]?=some p):yS (g.drop i) e=zHv p.nm p.ty (yS (g.drop (i+1)) e):=by
 have I:i<g.length:=(oC.1 h).1
 rw [nw I]
 have:g[i]=p:=by rw [oE I] at h;exact oT h
 rw [this];rfl
theorem ti {g:List Pm} {es:List D} (h:Pms g es) (hg:g.length<=1073741824) (hW:pmW g<=536870000) {t:Tm} {d:D} (ht:t.Is d) (hc:t.cnt<=536870000) (a:Option Addr) (c:Nat):Cop 15 9 [.sv a 4 es c,.dg 9 d] (yS g t).Is:=λN Q hQ=>by
 have hl:=h.all.len
 refine zCK N a es c d Q λ_ _ N1 ao=>?_
 refine zMA t d ht (by omega) N1 _ ?_
 obtain ⟨k,nm,ot,n0,ty,re,l⟩:=t
 intro x4 x5 x6 x7 aa c' N2 a2 ab J ac _ _
 have a3:=J.len
 have a4:=xK l
 simp only [Tm.cnt] at hc
 have one:∀ (i:Nat) (p:Pm),g[i]?=some p->∀ (x:D),(yS (g.drop (i+1)) (.mk k nm ot n0 ty re l)).Is x ->
   ∃ s,(if 0=0 then D.cell (List.getD es i default) 0 else D.sub (List.getD es i default) 0 0)=D.t s/\∀ (N3:Nat) (Q':QT [.ag 9]),(∀ U N4,N3<=N4->(yS (g.drop i) (.mk k nm ot n0 ty re l)).Is U->Own N3 N4 U->Q' U N4) ->
     ACalls prog 51 [.ag 9] [.str s,.dg 2 (if 2=0 then D.cell (List.getD es i default) 1 else D.sub (List.getD es i default) 1 2),.dg 9 x] N3 Q':=λi p hp x hx=>by
  obtain ⟨t0,t1,ae,ai,aj⟩:=h.all.get hp
  have a6:=zKe (oB hp)
  have aq:=zBd (g.drop (i+1)) (.mk k nm ot n0 ty re l)
  have a7:=zLz g (i+1)
  simp only [Tm.cnt] at aq
  rw [ae]
  refine ⟨_,rfl,λN3 Q' au=>?_⟩
  refine zRf ai aj (by omega) hx (by omega) N3 Q' λU N4 Y O ho=>au U N4 Y (by rw [zGH _ hp];exact O) ho
 have rest:∀ (i:Nat),i<=g.length->∀ (x:D) (N3:Nat),N<=N3->(yS (g.drop i) (.mk k nm ot n0 ty re l)).Is x->Own N N3 x->yV Q N a es c ((i:Int) - 1) 0 (bytes []) (bytes []) 0 0 none [] 0 0 none [] 0 none [] 0 x N3:=by
  intro i
  induction i with
  | zero=>
    intro hi x N3 aw hx ho
    refine vJ _ _ _ _ _ _ _ _ _ _ _ _ _ _ _ _ _ _ _ _ _ _ _ (Br.dec (λh=>by omega) λ_ N4 Y=>?_)
    exact hQ _ _ (by omega) hx (ho.mono (oD _) Y)
  | succ i ih=>
    intro hi x N3 aw hx ho
    have hp:g[i]?=some g[i]:=oE (by omega)
    refine vJ _ _ _ _ _ _ _ _ _ _ _ _ _ _ _ _ _ _ _ _ _ _ _ ?_
    have e0:(((i+1:Nat):Int) - 1)=(i:Int):=by omega
    rw [e0,i64_in ((i:Int) - 1) (by omega),oH]
    refine Br.dec (λ_=>⟨⟨by omega,by omega⟩,?_⟩) λh=>by omega
    obtain ⟨s,hs,I⟩:=one i _ hp x hx
    exact ⟨s,hs,⟨by omega,by omega⟩,λN4 Y=>I N4 _ λU N5 ak O ac _ _=>ih (by omega) U N5 (by omega) O (ac.mono (by omega) (oD _))⟩
 have ax:∀ (a5:Option Addr) (N5:Nat),N2<=N5->Fresh N N5 a5 [D.ag aa]->(Tm.mk k nm ot n0 ty re l).Is (.ag [.j k,.t nm,.t ot,.j n0,x4,x5,x6,x7,.sl a5 9 aa c']):=λa5 N5 _ _=>Tm.is_mk.2 ⟨_,_,_,_,_,_,_,rfl,ab,by omega,J⟩
 refine pu _ _ _ _ _ _ _ _ _ _ _ _ _ _ _ _ _ _ _ _ _ _ _ _ _ _ _ _ _ _ _ _ _ _ ?_
 rw [i64_in ((es.length:Int) - 1) (by omega)]
 cases ay:g.length with
 | zero=>
   have az:g=[]:=oW ay
   subst az
   refine Br.dec (λh=>by omega) λ_=>⟨⟨rfl,rfl⟩,⟨rfl,rfl⟩,⟨rfl,rfl⟩,λa5 N5 ak hf N6 al=>?_⟩
   refine hQ _ _ (by omega) (Tm.is_mk.2 ⟨_,_,_,_,_,_,_,rfl,ab,by omega,J⟩) ?_
   exact sB (zH (zH (zH (zH ((zO4 (hd:=[x4,x5,x6,x7]) (ds:=[]) (ac.mono ao (oD _)) hf (by omega)).mono (oD _) al)))))
 | succ m=>
   have hp:g[m]?=some g[m]:=oE (by omega)
   have ah:g.drop (m+1)=[]:=lD (by omega)
   have e0:((es.length:Int) - 1)=(m:Int):=by omega
   rw [e0,i64_in ((m:Int) - 1) (by omega),oH]
   have key:=λ(x:D) (hx:(Tm.mk k nm ot n0 ty re l).Is x)=>one m _ hp x (by rw [ah];exact hx)
   obtain ⟨t0,t1,ae,ai,aj⟩:=h.all.get hp
   refine Br.dec (λ_=>⟨⟨by omega,by omega⟩,?_⟩) λh=>by omega
   have am:(if 0=0 then D.cell (List.getD es m default) 0 else D.sub (List.getD es m default) 0 0)=D.t (g[m].nm):=by rw [ae];rfl
   refine ⟨g[m].nm,am,⟨by omega,by omega⟩,⟨rfl,rfl⟩,⟨rfl,rfl⟩,λa5 N5 ak hf N6 al=>?_⟩
   obtain ⟨s,hs,I⟩:=key _ (Tm.is_mk.2 ⟨x4,x5,x6,x7,a5,aa,c',rfl,ab,by omega,J⟩)
   rw [am] at hs
   cases hs
   exact I N6 _ λU N7 a8 O a0 _ _=>rest m (by omega) U N7 (by omega) O (a0.mono (by omega) (oD _))
theorem zSa {s:ByteArray} (hs:s.size<=4611686018427387904) {ty:Ty} {J:D} (h1:ty.Is J) (O:ty.cnt<=1073741824) {t:Tm} {I:D} (h2:t.Is I) (N0 N:Nat) (h0:N0<=N) (ho:Own N0 N I) (Q:QT [.ag 9]) (hQ:∀ d' N',N<=N'->(zHv s ty t).Is d'->Own N0 N' d'->Q d' N') :
  ACalls prog 49 [.ag 9] [.str s,.dg 2 J,.dg 9 I] N Q:=by
 refine zJB N s J I Q λ_ _ N1 U=>?_
 refine zEk ty J h1 O N1 _ λx N2 ac hx Y _ _=>⟨⟨rfl,rfl⟩,⟨rfl,rfl⟩,⟨rfl,rfl⟩,λa N3 aa hf N4 ab=>?_⟩
 refine hQ _ _ (by omega) (Tm.is_mk.2 ⟨_,_,_,_,_,_,_,rfl,⟨hs,by decide,Ty.is_cells hx,xP _⟩,by simp,zAO h2⟩) ?_
 have hr:=zO4 (hd:=[x.cell 0,x.cell 1]) (es:=[I]) (ds:=[.sl none 2 [] 0]) (z:=9) (c:=1) (rg (vg hx Y) ((yA ho).mono (oD _) U) (by omega) (by omega)) (hf.mono h0 (oD _)) aa
 exact sB (zH (zH (zH (zH (zPS (hr.mono (oD _) ab))))))
attribute [local go_sem] Oper.semAt_some
theorem zAy {F:Fence} {n:Nat} {P:Program} {ops:Array Oper} {rest:List Oper} {o:Oper} {a:Act} {w:World} {Q:Exit->Act->World->Prop} (I:o.guard=none) (ty:TypeId) (x y:Operand) (J:o.op=.store ty x y)
  (b off:Nat) (cells:Array Value) (O:a.eval x=.pointer (some ⟨b,off,none⟩)) (U:a.eval y=.agg cells)
  (Y:w.there b off cells.size) (hi:(P.info? ty).map (·.size)=some cells.size) (h1:cells.all (·.oneCell')=true)
  (h:wpListIn F n P ops Q rest (a.put o.dst undef) (w.setCells b off cells.toList)):wpListIn F n P ops Q (o::rest) a w:=by
 refine wpListIn_plain I λK hK=>?_
 unfold Oper.wpIn
 refine ⟨by simp [Oper.about,J],?_⟩
 rw [Oper.semAt_plain F _ _ (by rw [J];intro c hc;cases hc)]
 simp [execOp,J,O,U,run_storeAt_mid w b off ty cells Y hi h1,Result.andThen]
 exact hK _ _ h
theorem zT1 {d:D} (h:IsAg 9 d):d.val=.agg #[(d.cell 0).cv,(d.cell 1).cv,(d.cell 2).cv,(d.cell 3).cv,(d.cell 4).cv,(d.cell 5).cv,(d.cell 6).cv,(d.cell 7).cv,(d.cell 8).cv]:=by
 obtain ⟨cs,rfl,I,_⟩:=h
 match cs,I with
 | [J,c1,O,U,Y,c5,c6,c7,c8],_=>simp [D.val,D.cvL,D.cell,D.cells,D.cv]
theorem zU9 {av:Nat->Prop} {w0:World} (h:∀ b,av b->b<w0.heap.size):Avl av w0 []:=
 ⟨h,⟨λx I=>by simp [glob] at I⟩,λb J=>by obtain ⟨x,I,_⟩:=J;simp [glob] at I,λb J=>by obtain ⟨x,I,_⟩:=J;simp [glob] at I⟩
/-- a call that hands back a term, as the kit has calls -/
theorem zRY {f:FuncId} {args:List PV} {N:Nat} {P:D->Nat->Prop} (h:ACalls Tryz.prog f [.ag 9] args N (λd N'=>P d N')) (n:Nat) (av:Nat->Prop) (w0:World) (O:w0.heap.size=N) (Y:∀ b,av b->b<N) (I:∀ p∈args,p.Ok w0 av/\p.refs=[])
  (vals:Array Value) (hv:(args.map (PV.val [])).toArray=vals) :
  CallsIn Fence.wide n Tryz.prog f vals w0 λe w=>∃ d,e=.returned (.agg #[(d.cell 0).cv,(d.cell 1).cv,(d.cell 2).cv,(d.cell 3).cv,(d.cell 4).cv,(d.cell 5).cv,(d.cell 6).cv,(d.cell 7).cv,(d.cell 8).cv])/\P d w.heap.size/\Good w av d/\IsAg 9 d/\w0.heap.size<=w.heap.size /\
   (∀ b,b<w0.heap.size->w.heap[b]?=w0.heap[b]?)/\(∀ (b:Nat) (c:Array Value) (t:TypeId) (z:Nat × Nat),w0.heap.size<=b->w.heap[b]?=some (.cells c t z)->Fz z)/\w.os=w0.os/\w.output=w0.output:=by
 subst hv
 refine callsIn_wide.2 ((h.h av w0 O (zU9 (O.symm ▸ Y)) I).mono λe w hf=>?_)
 cases e with
 | returned v=>
   obtain ⟨ps,rows,e,hd⟩:=hf
   have J:=hd.q
   match ps,rows,J with
   | [.dg n x],[],J=>
     simp [QT.app] at J
     obtain ⟨hn,J⟩:=J
     have U:=hd.ok _ (nG.2 rfl)
     simp only [PV.Ok] at U
     obtain ⟨hG,hA⟩:=U
     rw [<-hn] at hA
     refine ⟨x,?_,J,⟨hG.1,λb hb hv=>hG.2 b hb (.inl hv)⟩,hA,hd.size,hd.old,hd.fz,hd.ku.os,hd.ku.out⟩
     rw [<-zT1 hA,hd.v]
     rfl
 | _=>exact hf.elim
/-- the world while a function of parameters is built -/
structure FO (W w:World) (av:Nat->Prop) (s len cap:Nat) (a:Option Addr) (d:D):Prop where
 size:s+2<=w.heap.size
 lo:W.heap.size+2<=s
 old:∀ k,k<W.heap.size->w.heap[k]?=W.heap[k]?
 b4:w.heap[W.heap.size+1]?=some (.cells #[.int .i64 0,.string ⟨#[]⟩,.string ⟨#[]⟩,.int .i64 0,.int .i64 0,.slice none 0 0,.int .i64 0,.slice none 0 0,.slice none 0 0] 30 (0,0))
 b5:w.heap[s]?=some (.cells #[(d.cell 0).cv,(d.cell 1).cv,(d.cell 2).cv,(d.cell 3).cv,(d.cell 4).cv,(d.cell 5).cv,(d.cell 6).cv,(d.cell 7).cv,(d.cell 8).cv] 30 (0,0))
 b8:w.heap[s+1]?=some (.cells #[.slice a len cap] 24 (0,0))
 fz:∀ (k:Nat) (c:Array Value) (t:TypeId) (z:Nat × Nat),W.heap.size<=k->w.heap[k]?=some (.cells c t z)->Fz z
 hd:Good w (fun b=>av b\/b=W.heap.size\/b=W.heap.size+1\/b=s\/b=s+1) d
 ag:IsAg 9 d
 os:w.os=W.os
 out:w.output=W.output
variable {W w:World} {av:Nat->Prop} {s len cap:Nat} {a:Option Addr} {d:D}
theorem FO.alloc (h:FO W w av s len cap a d) {o:Obj} (ho:∀ c t z,o=.cells c t z->z=(0,0)):FO W (w.alloc o) av s len cap a d:=by
 have key:∀ k,k<w.heap.size->(w.alloc o).heap[k]?=w.heap[k]?:=λk I=>Below.heap_alloc _ _ _ I
 have hs:=h.size
 have O:=h.lo
 refine ⟨by simp;omega,O,λk I=>(key k (by omega)).trans (h.old k I),(key _ (by omega)).trans h.b4,(key _ (by omega)).trans h.b5,(key _ (by omega)).trans h.b8,λk c t z I hc=>?_,h.hd.mono (λb U _=>key b U) (λb _ U=>U),h.ag,h.os,h.out⟩
 by_cases Y:k<w.heap.size
 ·rw [key k Y] at hc;exact h.fz k c t z I hc
 ·by_cases J:k=w.heap.size
  ·subst J
   have h2:=World.alloc_heap_new w o
   rw [h2] at hc
   exact Fz.of (ho c t z (oT hc))
  ·have:(w.alloc o).heap[k]?=none:=mK (by simp;omega)
   rw [this] at hc;cases hc
theorem FO.put (h:FO W w av s len cap a d) (O:d.Flat0) {l:Nat} {o:Obj} (hl:s+2<=l) (hw:∀ c t z,w.heap[l]?≠some (.cells c t z)) (ho:∀ c t z,o=.cells c t z->z=(0,0)):FO W (w.putObj l o) av s len cap a d:=by
 have key:∀ k,k≠l->(w.putObj l o).heap[k]?=w.heap[k]?:=λk I=>World.putObj_heap_other I
 have U:=h.lo
 have Y:∀ b∈d.foot,b≠l:=λb hb aa=>by
  subst aa
  obtain ⟨c,t,z,hc⟩:=h.hd.1.block O b hb
  exact hw c t z hc
 refine ⟨by simpa using h.size,U,λk I=>(key k (by omega)).trans (h.old k I),(key _ (by omega)).trans h.b4,(key _ (by omega)).trans h.b5,(key _ (by omega)).trans h.b8,λk c t z I hc=>?_,⟨h.hd.1.mono λb hb=>key b (Y b hb),h.hd.2⟩,h.ag,h.os,h.out⟩
 by_cases J:k=l
 ·subst J
  by_cases ab:k<w.heap.size
  ·rw [World.putObj_heap_same ab] at hc
   exact Fz.of (ho c t z (oT hc))
  ·have:(w.putObj k o).heap[k]?=none:=mK (by simp;omega)
   rw [this] at hc;cases hc
 ·rw [key k J] at hc;exact h.fz k c t z I hc
/-- nine cells of a block set -/
def zGI (w:World) (s:Nat) (d:D):World:=
 ((((((((w.setCell ⟨s,0,none⟩ (d.cell 0).cv).setCell ⟨s,1,none⟩ (d.cell 1).cv).setCell ⟨s,2,none⟩ (d.cell 2).cv).setCell ⟨s,3,none⟩ (d.cell 3).cv).setCell ⟨s,4,none⟩ (d.cell 4).cv).setCell ⟨s,5,none⟩ (d.cell 5).cv).setCell ⟨s,6,none⟩ (d.cell 6).cv).setCell ⟨s,7,none⟩ (d.cell 7).cv).setCell ⟨s,8,none⟩ (d.cell 8).cv
theorem zSY (w:World) (s:Nat) (d:D):w.setCells s 0 #[(d.cell 0).cv,(d.cell 1).cv,(d.cell 2).cv,(d.cell 3).cv,(d.cell 4).cv,(d.cell 5).cv,(d.cell 6).cv,(d.cell 7).cv,(d.cell 8).cv].toList=zGI w s d:=rfl
theorem zTg {w:World} {s:Nat} {v0 v1 v2 I v4 J v6 O U:Value} {t:TypeId} (h:w.heap[s]?=some (.cells #[v0,v1,v2,I,v4,J,v6,O,U] t (0,0))):w.there s 0 9:=λj Y=>by
 refine ⟨?_,by simp [World.frozen?,h]⟩
 simp [World.cell?,h]
 omega
theorem xv {w:World} {s k:Nat} {d:D} (h:k≠s):(zGI w s d).heap[k]?=w.heap[k]?:=by
 unfold zGI
 rw [zG h,zG h,zG h,zG h,zG h,zG h,zG h,zG h,zG h]
theorem zE7 {w:World} {s:Nat} {d:D} {v0 v1 v2 I v4 J v6 O U:Value} {t:TypeId} {z:Nat × Nat} (h:w.heap[s]?=some (.cells #[v0,v1,v2,I,v4,J,v6,O,U] t z)) :
  (zGI w s d).heap[s]?=some (.cells #[(d.cell 0).cv,(d.cell 1).cv,(d.cell 2).cv,(d.cell 3).cv,(d.cell 4).cv,(d.cell 5).cv,(d.cell 6).cv,(d.cell 7).cv,(d.cell 8).cv] t z):=by
 unfold zGI
 rw [zj (zj (zj (zj (zj (zj (zj (zj (zj h))))))))]
 simp only [List.setIfInBounds_toArray,mH,mQ]
theorem yf {w:World} {p:Addr} {v:Value}:(w.setCell p v).heap.size=w.heap.size:=by
 unfold World.setCell;split<;>simp
theorem xy {w:World} {p:Addr} {v:Value}:(w.setCell p v).os=w.os:=by
 unfold World.setCell;split<;>rfl
theorem xL {w:World} {p:Addr} {v:Value}:(w.setCell p v).output=w.output:=by
 unfold World.setCell;split<;>rfl
theorem zAY {w:World} {s:Nat} {d:D}:(zGI w s d).heap.size=w.heap.size:=by
 unfold zGI;rw [yf,yf,yf,yf,yf,yf,yf,yf,yf]
theorem set9_os {w:World} {s:Nat} {d:D}:(zGI w s d).os=w.os:=by
 unfold zGI;rw [xy,xy,xy,xy,xy,xy,xy,xy,xy]
theorem set9_out {w:World} {s:Nat} {d:D}:(zGI w s d).output=w.output:=by
 unfold zGI;rw [xL,xL,xL,xL,xL,xL,xL,xL,xL]
theorem FO.set (h:FO W w av s len cap a d) {d':D} (hd:Good w (λb=>av b\/b=W.heap.size\/b=W.heap.size+1\/b=s\/b=s+1) d') (Y:IsAg 9 d'):FO W (zGI w s d') av s len cap a d':=by
 have J:=h.lo
 have hs:=h.size
 refine ⟨by rw [zAY];exact hs,J,λk O=>(xv (by omega)).trans (h.old k O),(xv (by omega)).trans h.b4,zE7 h.b5,(xv (by omega)).trans h.b8,λk c t z O hc=>?_,⟨hd.1.mono λb hb=>xv λU=>hd.2 b hb (by simp [U]),hd.2⟩,Y,set9_os.trans h.os,set9_out.trans h.out⟩
 by_cases I:k=s
 ·subst I;rw [zE7 h.b5] at hc;cases hc;exact fz0
 ·rw [xv I] at hc;exact h.fz k c t z O hc
/-- a parameter's cells -/
def pf (d:D):ByteArray × Int × (Option Addr × Nat × Nat) × Bool:=match d with
 | .ag [.lit (.string s),.lit (.int _ k),.sl a _ es c,.lit (.bool b)]=>(s,k,(a,es.length,c),b)
 | _=>(⟨#[]⟩,0,(none,0,0),false)
theorem zKK:∀ {es:List D} {j:Nat} {I c1 J O:D},(∀ e∈es,e.cells.length=4)->es[j]?=some (.ag [I,c1,J,O])->(zt es)[j*4]?=some I/\(zt es)[j*4+1]?=some c1/\(zt es)[j*4+2]?=some J/\(zt es)[j*4+3]?=some O
 | e::es,0,I,c1,J,O,U,h=>by
   simp at h;subst h
   rw [wb]
   simp [D.cells]
 | e::es,j+1,I,c1,J,O,U,h=>by
   have Y:=zKK (es:=es) (j:=j) (λx hx=>U x (by simp [hx])) (by simpa using h)
   have he:=U e (by simp)
   rw [wb]
   have g:∀ k,(e.cells++zt es)[k+4]?=(zt es)[k]?:=λk=>by
    rw [oQ (by omega),he];simp
   rw [show (j+1)*4=j*4+4 by omega,show j*4+4+1=j*4+1+4 by omega,show j*4+4+2=j*4+2+4 by omega,show j*4+4+3=j*4+3+4 by omega,g,g,g,g]
   exact Y
attribute [local go_sem] Oper.semAt_some run_store
theorem zPP {W:World} {av:Nat->Prop} {g:List Pm} {es:List D} (h:Pms g es) {a:Option Addr} {c:Nat} (hG:Good W av (.sl a 4 es c)) :
  ∃ b off,(0<es.length->a=some ⟨b,off,none⟩)/\∀ j,j<es.length->∃ p s k U I Y bo,g[j]?=some p/\pf (es.getD j default)=(s,k,(U,I.length,Y),bo)/\(s=p.nm/\s.size<=4611686018427387904/\p.ty.Is (.ag [.lit (.int .i64 k),.sl U 2 I Y])/\Good W av (.ag [.lit (.int .i64 k),.sl U 2 I Y])) /\
    W.cell? ⟨b,off+j*4,none⟩=some (.string s)/\W.cell? ⟨b,off+j*4+1,none⟩=some (.int .i64 k)/\W.cell? ⟨b,off+j*4+2,none⟩=some (.slice U I.length Y)/\W.cell? ⟨b,off+j*4+3,none⟩=some (.bool bo):=by
 have hl:=h.all.len
 have one:∀ j,j<es.length->∃ p k U I Y,g[j]?=some p/\es.getD j default=.ag [.lit (.string p.nm),.lit (.int .i64 k),.sl U 2 I Y,.lit (.bool p.dy)]/\p.nm.size<=4611686018427387904/\p.ty.Is (.ag [.lit (.int .i64 k),.sl U 2 I Y]):=λj O=>by
  have hp:g[j]?=some g[j]:=oE (by omega)
  obtain ⟨t0,t1,e,aa,ab⟩:=h.all.get hp
  generalize g[j]=p at *
  obtain ⟨nm,⟨k,l⟩,dy⟩:=p
  obtain ⟨U,I,Y,e2,ac,h2⟩:=Ty.is_mk.1 ab
  have e2:=D.ag.inj e2
  simp only [List.cons.injEq,and_true] at e2
  obtain ⟨rfl,rfl⟩:=e2
  exact ⟨_,k,U,I,Y,hp,e,aa,Ty.is_mk.2 ⟨_,_,_,rfl,ac,h2⟩⟩
 have h4:∀ e∈es,e.cells.length=4:=λe he=>by
  obtain ⟨j,O⟩:=oO.1 he
  have ae:=(oC.1 O).1
  obtain ⟨p,k,U,I,Y,_,h2,_⟩:=one j ae
  rw [oA,O] at h2
  simp only [om] at h2
  rw [h2];rfl
 have el:∀ j,j<es.length->Good W av (es.getD j default):=λj O=>by
  have hm:es.getD j default∈es:=by
   rw [oA,oE O];exact mD O
  exact hG.elem hm
 have hH:=hG.1
 cases hH with
 | nil=>exact ⟨0,0,λh=>absurd h (by simp),λj O=>absurd O (by simp)⟩
 | @sl ad z _ cap h1 h2 h3 _ h5=>
   obtain ⟨b,off,sp⟩:=ad
   by_cases h0:0<es.length
   ·have ah:es≠[]:=by intro hc;subst hc;simp at h0
    have h1:=h1 ah
    simp only at h1;subst h1
    refine ⟨b,off,λ_=>rfl,λj O=>?_⟩
    obtain ⟨p,k,U,I,Y,hp,e,aa,ab⟩:=one j O
    have hg:=el j O
    have ej:es[j]?=some (.ag [.lit (.string p.nm),.lit (.int .i64 k),.sl U 2 I Y,.lit (.bool p.dy)]):=by
     rw [oE O,<-e,oA,oE O];rfl
    obtain ⟨g0,g1,g2,g3⟩:=zKK h4 ej
    rw [e] at hg
    refine ⟨p,p.nm,k,U,I,Y,p.dy,hp,by rw [e];rfl,⟨rfl,aa,ab,⟨?_,λb hb=>hg.2 b ?_⟩⟩,?_⟩
    ·have hh:=hg.1
     cases hh with
     | ag hh=>exact .ag λx hx=>hh x (by simp at hx;rcases hx with rfl | rfl<;>simp)
    ·simp only [D.foot,zD,oU,nR] at hb ⊢;exact hb
    rcases h5 with h5 | ⟨cc,t,fz,h6,h7⟩
    ·rw [h5] at g0;simp at g0
    ·have g0:=h7 _ _ g0;have g1:=h7 _ _ g1;have g2:=h7 _ _ g2;have g3:=h7 _ _ g3
     have J:∀ i,W.cell? ⟨b,i,none⟩=cc[i]?:=λi=>FG.cell (W:=W) h6
     refine ⟨?_,?_,?_,?_⟩
     ·rw [J];exact g0
     ·rw [J,mF];exact g1
     ·rw [J,mF];exact g2
     ·rw [J,mF];exact g3
   ·exact ⟨b,off,λh=>absurd h h0,λj O=>absurd O (by omega)⟩
theorem zLI {d:D} (h:IsAg 9 d):(d.cell 0).cv.oneCell'=true/\(d.cell 1).cv.oneCell'=true/\(d.cell 2).cv.oneCell'=true/\(d.cell 3).cv.oneCell'=true/\(d.cell 4).cv.oneCell'=true/\(d.cell 5).cv.oneCell'=true/\(d.cell 6).cv.oneCell'=true/\(d.cell 7).cv.oneCell'=true/\(d.cell 8).cv.oneCell'=true:=by
 obtain ⟨cs,rfl,I,hc⟩:=h
 match cs,I,hc with
 | [c0,c1,c2,c3,c4,c5,c6,c7,c8],_,hc=>
   simp only [oG,oe,mL,mc,forall_eq] at hc
   obtain ⟨J,O,U,Y,h4,h5,h6,h7,h8⟩:=hc
   exact ⟨zM J,zM O,zM U,zM Y,zM h4,zM h5,zM h6,zM h7,zM h8⟩
theorem zOi {w:World} {l:Nat} {o:Obj}:(w.putObj l o).os=w.os:=rfl
theorem zMe {w:World} {l:Nat} {o:Obj}:(w.putObj l o).output=w.output:=rfl
theorem zVA {fn:Func} (I:fn.results=#[.cell 4 30]) {w:World} {b:Nat} {d:D} {ty:TypeId} {z:Nat × Nat}
  (h:w.heap[b]?=some (.cells #[(d.cell 0).cv,(d.cell 1).cv,(d.cell 2).cv,(d.cell 3).cv,(d.cell 4).cv,(d.cell 5).cv,(d.cell 6).cv,(d.cell 7).cv,(d.cell 8).cv] ty z)) {tm:Array Value} (ht:tm[4]?.getD undef=.pointer (some ⟨b,0,none⟩)) :
  (results fn tm).run Tryz.prog w=.ok (.agg #[(d.cell 0).cv,(d.cell 1).cv,(d.cell 2).cv,(d.cell 3).cv,(d.cell 4).cv,(d.cell 5).cv,(d.cell 6).cv,(d.cell 7).cv,(d.cell 8).cv]) w:=by
 have J:w.cell? ⟨b,0,none⟩=some (d.cell 0).cv:=FG.cell (W:=w) h
 have O:w.cell? ⟨b,1,none⟩=some (d.cell 1).cv:=FG.cell (W:=w) h
 have U:w.cell? ⟨b,2,none⟩=some (d.cell 2).cv:=FG.cell (W:=w) h
 have Y:w.cell? ⟨b,3,none⟩=some (d.cell 3).cv:=FG.cell (W:=w) h
 have aa:w.cell? ⟨b,4,none⟩=some (d.cell 4).cv:=FG.cell (W:=w) h
 have ab:w.cell? ⟨b,5,none⟩=some (d.cell 5).cv:=FG.cell (W:=w) h
 have ac:w.cell? ⟨b,6,none⟩=some (d.cell 6).cv:=FG.cell (W:=w) h
 have ae:w.cell? ⟨b,7,none⟩=some (d.cell 7).cv:=FG.cell (W:=w) h
 have ah:w.cell? ⟨b,8,none⟩=some (d.cell 8).cv:=FG.cell (W:=w) h
 simp [results,I,go_sem,ht,J,O,U,Y,aa,ab,ac,ae,ah]
set_option maxRecDepth 100000 in
set_option maxHeartbeats 4000000 in
theorem zVC (n:Nat) (hn:5<=n) {g:List Pm} {es:List D} (h:Pms g es) (hg:g.length<=1073741824) (hW:pmW g<=536870000) {t:Tm} {d:D} (ht:t.Is d) (hc:t.cnt<=536870000) (a:Option Addr) (c:Nat)
  (av:Nat->Prop) (W:World) (a3:∀ b,av b->b<W.heap.size) (hG:Good W av (.sl a 4 es c)) (ak:Good W av d) (hA:IsAg 9 d) :
  CallsIn Fence.wide n Tryz.prog 14 #[.slice a es.length c,.agg #[(d.cell 0).cv,(d.cell 1).cv,(d.cell 2).cv,(d.cell 3).cv,(d.cell 4).cv,(d.cell 5).cv,(d.cell 6).cv,(d.cell 7).cv,(d.cell 8).cv]] W λe w=>∃ r,e=.returned (.agg #[(r.cell 0).cv,(r.cell 1).cv,(r.cell 2).cv,(r.cell 3).cv,(r.cell 4).cv,(r.cell 5).cv,(r.cell 6).cv,(r.cell 7).cv,(r.cell 8).cv])/\(yS g t).Is r/\Own W.heap.size w.heap.size r/\Good w av r/\IsAg 9 r/\W.heap.size<=w.heap.size /\
   (∀ b,b<W.heap.size->w.heap[b]?=W.heap[b]?)/\(∀ (b:Nat) (c:Array Value) (t:TypeId) (z:Nat × Nat),W.heap.size<=b->w.heap[b]?=some (.cells c t z)->Fz z)/\w.os=W.os/\w.output=W.output:=by
 obtain ⟨b,off,ha,ah⟩:=zPP h hG
 refine callsIn_of_wp_marks Tryz.func14 rfl trivial ?_ rfl
 simp only [Tryz.ntmps14,nB,oJ,oM,Nat.reduceAdd,Nat.reduceSub,mS,mT,mj,mY,oU,nD]
 gi_wp2
 obtain ⟨W0,aa⟩:∃ W0,W0=((W.alloc (.cells #[(d.cell 0).cv,(d.cell 1).cv,(d.cell 2).cv,(d.cell 3).cv,(d.cell 4).cv,(d.cell 5).cv,(d.cell 6).cv,(d.cell 7).cv,(d.cell 8).cv] 30)).alloc (.cells #[.int .i64 0,.string ⟨#[]⟩,.string ⟨#[]⟩,.int .i64 0,.int .i64 0,.slice none 0 0,.int .i64 0,.slice none 0 0,.slice none 0 0] 30)):=⟨_,rfl⟩
 rw [<-aa]
 have c5:W0.heap.size=W.heap.size+2:=by rw [aa];simp
 have a4:∀ k,k<W.heap.size->W0.heap[k]?=W.heap[k]?:=λk hk=>by
  rw [aa,Below.heap_alloc _ _ _ (by simp;omega),Below.heap_alloc _ _ _ (by omega)]
 have bn:W0.heap[W.heap.size]?=some (.cells #[(d.cell 0).cv,(d.cell 1).cv,(d.cell 2).cv,(d.cell 3).cv,(d.cell 4).cv,(d.cell 5).cv,(d.cell 6).cv,(d.cell 7).cv,(d.cell 8).cv] 30 (0,0)):=by
  rw [aa,Below.heap_alloc _ _ _ (by simp)];exact World.alloc_heap_new _ _
 have a5:W0.heap[W.heap.size+1]?=some (.cells #[.int .i64 0,.string ⟨#[]⟩,.string ⟨#[]⟩,.int .i64 0,.int .i64 0,.slice none 0 0,.int .i64 0,.slice none 0 0,.slice none 0 0] 30 (0,0)):=by
  rw [aa]
  have:=World.alloc_heap_new (W.alloc (.cells #[(d.cell 0).cv,(d.cell 1).cv,(d.cell 2).cv,(d.cell 3).cv,(d.cell 4).cv,(d.cell 5).cv,(d.cell 6).cv,(d.cell 7).cv,(d.cell 8).cv] 30)) (.cells #[.int .i64 0,.string ⟨#[]⟩,.string ⟨#[]⟩,.int .i64 0,.int .i64 0,.slice none 0 0,.int .i64 0,.slice none 0 0,.slice none 0 0] 30)
  rwa [World.size_alloc] at this
 have a6:W0.os=W.os:=by rw [aa];rfl
 have aq:W0.output=W.output:=by rw [aa];rfl
 clear aa
 have ai:∀ {x:D} {b:Nat},Good W av x->b∈x.foot->b<W.heap.size:=λhx hb=>hx.1.lt _ hb
 refine ⟨trivial,λ_=>by omega,(zRY (zSi t d ht (by omega) W0.heap.size (λd' N'=>t.Is d'/\Own W0.heap.size N' d') λd' N' _ h1 h2=>⟨h1,h2⟩) (n - 1) (λb=>av b\/b=W.heap.size\/b=W.heap.size+1) W0 rfl (λb hb=>?_) (λp hp=>?_) _ ?_).mono ?_⟩
 ·show b<W0.heap.size
  rcases hb with hb | hb | hb
  ·have:=a3 b hb;omega
  ·omega
  ·omega
 ·simp at hp;subst hp
  refine ⟨⟨⟨ak.1.mono λb hb=>a4 b (ai ak hb),λb hb hbb=>?_⟩,hA⟩,rfl⟩
  have:=ai ak hb
  rcases hbb with hbb | hbb | hbb
  ·exact ak.2 b hb hbb
  ·omega
  ·omega
 ·simp [PV.val,PV.val1,zT1 hA]
 rintro e w ⟨d1,rfl,⟨bp,bq⟩,au,a7,c3,ab,a8,a9,aw⟩
 obtain ⟨o0,o1,o2,o3,o4,o5,o6,o7,o8⟩:=zLI a7
 gi_wp2
 have ba:W.heap.size+2<=w.heap.size:=by omega
 refine ⟨trivial,λ_=>by omega,(zTa Fence.wide (n - 1) trivial rfl a es.length c _).mono ?_⟩
 rintro e W' ⟨rfl,rfl⟩
 gi_wp2
 obtain ⟨s,hs⟩:∃ s,w.heap.size=s:=⟨_,rfl⟩
 obtain ⟨Z,hZ⟩:∃ Z,Z=((w.alloc (.cells #[(d1.cell 0).cv,(d1.cell 1).cv,(d1.cell 2).cv,(d1.cell 3).cv,(d1.cell 4).cv,(d1.cell 5).cv,(d1.cell 6).cv,(d1.cell 7).cv,(d1.cell 8).cv] 30)).alloc (.cells #[.slice a es.length c] 24 (0,0))):=⟨_,rfl⟩
 have bt:FO W Z av s es.length c a d1:=by
  have zo:∀ k,k<w.heap.size->Z.heap[k]?=w.heap[k]?:=λk hk=>by
   rw [hZ,Below.heap_alloc _ _ _ (by simp;omega),Below.heap_alloc _ _ _ (by omega)]
  have z5:Z.heap[s]?=some (.cells #[(d1.cell 0).cv,(d1.cell 1).cv,(d1.cell 2).cv,(d1.cell 3).cv,(d1.cell 4).cv,(d1.cell 5).cv,(d1.cell 6).cv,(d1.cell 7).cv,(d1.cell 8).cv] 30 (0,0)):=by
   rw [hZ,<-hs,Below.heap_alloc _ _ _ (by simp)];exact World.alloc_heap_new _ _
  have z8:Z.heap[s+1]?=some (.cells #[.slice a es.length c] 24 (0,0)):=by
   rw [hZ,<-hs]
   have:=World.alloc_heap_new (w.alloc (.cells #[(d1.cell 0).cv,(d1.cell 1).cv,(d1.cell 2).cv,(d1.cell 3).cv,(d1.cell 4).cv,(d1.cell 5).cv,(d1.cell 6).cv,(d1.cell 7).cv,(d1.cell 8).cv] 30)) (.cells #[.slice a es.length c] 24 (0,0))
   rwa [World.size_alloc] at this
  have zs:Z.heap.size=s+2:=by rw [hZ,<-hs];simp
  have bb:∀ b∈d1.foot,b<w.heap.size:=λb hb=>au.1.lt _ hb
  refine ⟨by omega,by omega,λk hk=>?_,?_,z5,z8,λk cc tt z hk O=>?_,⟨au.1.mono λb hb=>zo b (bb b hb),λb hb hbb=>?_⟩,a7,?_,?_⟩
  ·rw [zo k (by omega),ab k (by omega),a4 k hk]
  ·rw [zo _ (by omega),ab _ (by omega),a5]
  ·by_cases h1:k<w.heap.size
   ·rw [zo k h1] at O
    by_cases h2:k<W0.heap.size
    ·rw [ab k h2] at O
     rcases (show k=W.heap.size\/k=W.heap.size+1 by omega) with rfl | rfl
     ·rw [bn] at O;cases O;exact fz0
     ·rw [a5] at O;cases O;exact fz0
    ·exact a8 k cc tt z (by omega) O
   ·have h3:=(oP.1 O).1
    rcases (show k=s\/k=s+1 by omega) with rfl | rfl
    ·rw [z5] at O;cases O;exact fz0
    ·rw [z8] at O;cases O;exact fz0
  ·have h1:=bb b hb
   have h2:=au.2 b hb
   rcases hbb with hbb | hbb | hbb | hbb | hbb
   ·exact h2 (.inl hbb)
   ·exact h2 (.inr (.inl hbb))
   ·exact h2 (.inr (.inr hbb))
   ·omega
   ·omega
  ·rw [hZ];exact a9.trans a6
  ·rw [hZ];exact aw.trans aq
 have ax:Z.heap.size=s+2:=by rw [hZ,<-hs];simp
 rw [hs,<-hZ]
 have bc:Own W.heap.size Z.heap.size d1:=bq.mono (by omega) (by omega)
 clear hZ ba 
 refine zNQ rfl (by omega) (gf:=97) rfl trivial (enters_of Tryz.func97 (by kernel_rfl) rfl) (len:=es.length)
  (vals:=λi=>#[.int .i64 ((es.length - 1 - i:Nat):Int),.agg #[.string (pf (es.getD (es.length - 1 - i) default)).1,.int .i64 (pf (es.getD (es.length - 1 - i) default)).2.1,.slice (pf (es.getD (es.length - 1 - i) default)).2.2.1.1 (pf (es.getD (es.length - 1 - i) default)).2.2.1.2.1 (pf (es.getD (es.length - 1 - i) default)).2.2.1.2.2,.bool (pf (es.getD (es.length - 1 - i) default)).2.2.2]]) (λi=>rfl)
  (λi w=>∃ d2,FO W w av s es.length c a d2/\(yS (g.drop (es.length - i)) t).Is d2/\Own W.heap.size w.heap.size d2)
  (λi w=>False) ?_ ?_ ?_ ?_ ?_ ?_ ?_
 ·rintro i w r r' h ⟨d2,U,h1,h2⟩
  exact ⟨d2,U.put h2.fl (by omega) (λ_ _ _ hc=>by rw [h] at hc;cases hc) (by simp),h1,by simpa using h2⟩
 ·rintro i w r r' h h1
  exact h1.elim
 ·intro r
  refine ⟨d1,FO.alloc (FO.alloc bt (by simp)) (by simp),?_,bc.mono (oD _) (by simp;omega)⟩
  rw [Nat.sub_zero,h.all.len,List.drop_length]
  exact bp
 ·intro l J Jx w hJ h0 hY
  refine zR9 Fence.wide (n - 1) trivial rfl (by omega) l (s+1) b off es.length c a ha (λj=>pf (es.getD j default)) (by have:=h.all.len;omega) J Jx (λi w hh=>?_) hY w h0
  obtain ⟨_,U,_,_⟩:=hJ i w hh
  have al:∀ p:Addr,p.block<W.heap.size->w.cell? p=W.cell? p:=λp hp=>by simp [World.cell?,U.old _ hp]
  refine ⟨FG.cell (W:=w) U.b8,λj hj=>?_⟩
  obtain ⟨p,s',k,a2,aj,c2,bo,_,e1,_,g1,g2,g3,g4⟩:=ah j hj
  have hb:b<W.heap.size:=by
   by_cases hb:b<W.heap.size
   ·exact hb
   ·have h0:W.heap[b]?=none:=mK (by omega)
    simp [World.cell?,h0] at g1
  rw [e1]
  exact ⟨(al _ hb).trans g1,(al _ hb).trans g2,(al _ hb).trans g3,(al _ hb).trans g4⟩
 ·rintro i w r0 hi ⟨d2,U,h1,h2⟩ hl hD
  obtain ⟨p,s',k,a2,aj,c2,bo,hp,e1,⟨rfl,bv,bw,am⟩,_⟩:=ah (es.length - 1 - i) (by omega)
  simp only [List.zip_toArray,nB,e1]
  gi_wp2
  rw [ax] at hl hD ⊢
  have c6:=(oP.1 hl).1
  have bz:=U.size
  have bd:=U.lo
  refine ⟨Below.heap_alloc _ _ _ (by omega),Below.heap_alloc _ _ _ (by omega),λr=>?_⟩
  obtain ⟨w2,ac⟩:∃ w2,w2=(w.alloc (Obj.cells #[Value.string p.nm,Value.int IntKind.i64 k,.slice a2 aj.length c2,Value.bool bo] 62)).putObj (s+2+1) (Obj.loop r):=⟨_,rfl⟩
  have I:FO W w2 av s es.length c a d2:=by
   rw [ac]
   refine (U.alloc (by simp)).put h2.fl (by omega) (λc t z hc=>?_) (by simp)
   rw [Below.heap_alloc _ _ _ (by omega),hl] at hc
   cases hc
  have h6:w2.heap[w.heap.size]?=some (Obj.cells #[Value.string p.nm,Value.int IntKind.i64 k,.slice a2 aj.length c2,Value.bool bo] 62):=by
   rw [ac,World.putObj_heap_other (by omega)];exact World.alloc_heap_new _ _
  have b1:w2.heap[s+2+1]?=some (.loop r):=by rw [ac];exact World.putObj_heap_same (by simp;omega)
  have ay:w2.heap[s+2]?=some (.deferred (some [])):=by rw [ac,World.putObj_heap_other (by omega),Below.heap_alloc _ _ _ (by omega)];exact hD
  have ba:w2.heap.size=w.heap.size+1:=by rw [ac];simp
  rw [<-ac]
  have c7:w2.cell? ⟨w.heap.size,0,none⟩=some (.string p.nm):=FG.cell (W:=w) h6
  have c8:w2.cell? ⟨w.heap.size,1,none⟩=some (.int .i64 k):=FG.cell (W:=w) h6
  have c9:w2.cell? ⟨w.heap.size,2,none⟩=some (.slice a2 aj.length c2):=FG.cell (W:=w) h6
  have b2:w2.cell? ⟨s,0,none⟩=some (d2.cell 0).cv:=FG.cell (W:=w) I.b5
  have b6:w2.cell? ⟨s,1,none⟩=some (d2.cell 1).cv:=FG.cell (W:=w) I.b5
  have b7:w2.cell? ⟨s,2,none⟩=some (d2.cell 2).cv:=FG.cell (W:=w) I.b5
  have b9:w2.cell? ⟨s,3,none⟩=some (d2.cell 3).cv:=FG.cell (W:=w) I.b5
  have ca:w2.cell? ⟨s,4,none⟩=some (d2.cell 4).cv:=FG.cell (W:=w) I.b5
  have cd:w2.cell? ⟨s,5,none⟩=some (d2.cell 5).cv:=FG.cell (W:=w) I.b5
  have ce:w2.cell? ⟨s,6,none⟩=some (d2.cell 6).cv:=FG.cell (W:=w) I.b5
  have cf:w2.cell? ⟨s,7,none⟩=some (d2.cell 7).cv:=FG.cell (W:=w) I.b5
  have cg:w2.cell? ⟨s,8,none⟩=some (d2.cell 8).cv:=FG.cell (W:=w) I.b5
  have ch:Own W.heap.size w2.heap.size d2:=h2.mono (oD _) (by omega)
  clear ac
  gi_wp2
  have da:=zKe (oB hp)
  have ci:∀ {x:D} {b:Nat},Good w2 (λb=>av b\/b=W.heap.size\/b=W.heap.size+1\/b=s\/b=s+1) x->b∈x.foot->b<w2.heap.size:=λhx hb=>hx.1.lt _ hb
  refine ⟨trivial,λ_=>by omega,CallsIn.inRound _ ((zRY (zSa bv bw (by omega) h1 W.heap.size w2.heap.size (by omega) ch (λd' N'=>(zHv p.nm p.ty (yS (g.drop (es.length - i)) t)).Is d'/\Own W.heap.size N' d') λd' N' _ h1 h2=>⟨h1,h2⟩) _ (λb=>av b\/b=W.heap.size\/b=W.heap.size+1\/b=s\/b=s+1) w2 rfl (λb hb=>?_) (λq hq=>?_) _ ?_).mono ?_)⟩
  ·show b<w2.heap.size
   rcases hb with hb | hb | hb | hb | hb
   ·have:=a3 b hb;omega
   ·omega
   ·omega
   ·omega
   ·omega
  ·simp only [oG,oe,mL] at hq
   rcases hq with rfl | rfl | rfl
   ·exact ⟨trivial,rfl⟩
   ·refine ⟨⟨⟨am.1.mono λb hb=>I.old b (ai am hb),λb hb hbb=>?_⟩,?_⟩,rfl⟩
    ·have:=ai am hb
     rcases hbb with hbb | hbb | hbb | hbb | hbb
     ·exact am.2 b hb hbb
     ·omega
     ·omega
     ·omega
     ·omega
    ·refine ⟨_,rfl,rfl,λx hx=>?_⟩
     simp at hx
     rcases hx with rfl | rfl<;>simp [D.isCell,Value.oneCell']
   ·exact ⟨⟨I.hd,I.ag⟩,rfl⟩
  ·have vv:D.val (.ag [.lit (.int .i64 k),.sl a2 2 aj c2])=.agg #[.int .i64 k,.slice a2 aj.length c2]:=by simp [D.val,D.cv]
   simp [PV.val,PV.val1,PV.cv,zT1 I.ag,vv]
  rintro e w3 ⟨d3,rfl,⟨cj,ck⟩,cm,bg,c4,Y,bh,bi,az⟩
  have bj:FO W w3 av s es.length c a d2:=by
   refine ⟨by omega,bd,λk hk=>(Y k (by omega)).trans (I.old k hk),(Y _ (by omega)).trans I.b4,(Y _ (by omega)).trans I.b5,(Y _ (by omega)).trans I.b8,λk cc tt z hk O=>?_,⟨I.hd.1.mono λb hb=>Y b (ci I.hd hb),I.hd.2⟩,I.ag,bi.trans I.os,az.trans I.out⟩
   by_cases ao:k<w2.heap.size
   ·rw [Y k ao] at O;exact I.fz k cc tt z hk O
   ·exact bh k cc tt z (by omega) O
  obtain ⟨o0,o1,o2,o3,o4,o5,o6,o7,o8⟩:=zLI bg
  have cn:w3.heap[s+2+1]?=some (.loop r):=(Y _ (by omega)).trans b1
  have co:w3.heap[s+2]?=some (.deferred (some [])):=(Y _ (by omega)).trans ay
  have cp:∃ d2,FO W (zGI w3 s d3) av s es.length c a d2/\(yS (List.drop (es.length - (i+1)) g) t).Is d2/\Own W.heap.size (zGI w3 s d3).heap.size d2:=by
   refine ⟨d3,bj.set cm bg,?_,by rw [zAY];exact ck⟩
   have hh:=zGH t hp
   rw [show es.length - 1 - i+1=es.length - i by omega] at hh
   rw [show es.length - (i+1)=es.length - 1 - i by omega,hh]
   exact cj
  have cq:(zGI w3 s d3).heap[s+2+1]?=some (.loop r):=(xv (by omega)).trans cn
  have cr:(zGI w3 s d3).heap[s+2]?=some (.deferred (some [])):=(xv (by omega)).trans co
  have ct:=zTg bj.b5
  simp only []
  rename_i hK
  refine hK _ _ ?_
  refine zAy (P:=Tryz.prog) ?_ 30 (.tmp 5) (.tmp 19) ?_ s 0 #[(d3.cell 0).cv,(d3.cell 1).cv,(d3.cell 2).cv,(d3.cell 3).cv,(d3.cell 4).cv,(d3.cell 5).cv,(d3.cell 6).cv,(d3.cell 7).cv,(d3.cell 8).cv] ?_ ?_ ct ?_ (by simp [o0,o1,o2,o3,o4,o5,o6,o7,o8]) ?_
  ·rfl
  ·rfl
  ·rfl
  ·rfl
  ·rfl
  rw [zSY]
  generalize zGI w3 s d3=w4 at cq cr cp ⊢
  gi_wp2
 ·rintro w ⟨d2,U,h1,h2⟩ hD
  rw [ax] at hD
  have f4:∀ i,w.frozen? ⟨W.heap.size+1,i,none⟩=false:=λi=>by simp [World.frozen?,U.b4]
  have b2:w.cell? ⟨s,0,none⟩=some (d2.cell 0).cv:=FG.cell (W:=w) U.b5
  have b6:w.cell? ⟨s,1,none⟩=some (d2.cell 1).cv:=FG.cell (W:=w) U.b5
  have b7:w.cell? ⟨s,2,none⟩=some (d2.cell 2).cv:=FG.cell (W:=w) U.b5
  have b9:w.cell? ⟨s,3,none⟩=some (d2.cell 3).cv:=FG.cell (W:=w) U.b5
  have ca:w.cell? ⟨s,4,none⟩=some (d2.cell 4).cv:=FG.cell (W:=w) U.b5
  have cd:w.cell? ⟨s,5,none⟩=some (d2.cell 5).cv:=FG.cell (W:=w) U.b5
  have ce:w.cell? ⟨s,6,none⟩=some (d2.cell 6).cv:=FG.cell (W:=w) U.b5
  have cf:w.cell? ⟨s,7,none⟩=some (d2.cell 7).cv:=FG.cell (W:=w) U.b5
  have cg:w.cell? ⟨s,8,none⟩=some (d2.cell 8).cv:=FG.cell (W:=w) U.b5
  have db:w.cell? ⟨W.heap.size+1,0,none⟩=some (.int .i64 0):=FG.cell (W:=w) U.b4
  have de:w.cell? ⟨W.heap.size+1,1,none⟩=some (.string ⟨#[]⟩):=FG.cell (W:=w) U.b4
  have df:w.cell? ⟨W.heap.size+1,2,none⟩=some (.string ⟨#[]⟩):=FG.cell (W:=w) U.b4
  have dh:w.cell? ⟨W.heap.size+1,3,none⟩=some (.int .i64 0):=FG.cell (W:=w) U.b4
  have di:w.cell? ⟨W.heap.size+1,4,none⟩=some (.int .i64 0):=FG.cell (W:=w) U.b4
  have dj:w.cell? ⟨W.heap.size+1,5,none⟩=some (.slice none 0 0):=FG.cell (W:=w) U.b4
  have dk:w.cell? ⟨W.heap.size+1,6,none⟩=some (.int .i64 0):=FG.cell (W:=w) U.b4
  have dl:w.cell? ⟨W.heap.size+1,7,none⟩=some (.slice none 0 0):=FG.cell (W:=w) U.b4
  have dm:w.cell? ⟨W.heap.size+1,8,none⟩=some (.slice none 0 0):=FG.cell (W:=w) U.b4
  obtain ⟨o0,o1,o2,o3,o4,o5,o6,o7,o8⟩:=zLI U.ag
  gi_wp2
  have bd:=U.lo
  have bz:=U.size
  have dn:s+2<w.heap.size:=(oP.1 hD).1
  have ay:(zGI w (W.heap.size+1) d2).heap[s+2]?=some (.deferred (some [])):=(xv (by omega)).trans hD
  rw [ax]
  change bodyPostM _ _ _ _ _ _ _ (zGI w (W.heap.size+1) d2)
  refine ⟨by simp,.inl ⟨_,_,rfl,run_takeDeferred ay,?_⟩⟩
  obtain ⟨w5,ae⟩:∃ w5,w5=(zGI w (W.heap.size+1) d2).putObj (s+2) (.deferred none):=⟨_,rfl⟩
  rw [<-ae]
  have key:∀ k,k≠W.heap.size+1->k≠s+2->w5.heap[k]?=w.heap[k]?:=λk h1 h2=>by
   rw [ae,World.putObj_heap_other h2,xv h1]
  have h4:w5.heap[W.heap.size+1]?=some (.cells #[(d2.cell 0).cv,(d2.cell 1).cv,(d2.cell 2).cv,(d2.cell 3).cv,(d2.cell 4).cv,(d2.cell 5).cv,(d2.cell 6).cv,(d2.cell 7).cv,(d2.cell 8).cv] 30 (0,0)):=by
   rw [ae,World.putObj_heap_other (by omega),zE7 U.b4]
  have cw:w5.heap[s+2]?=some (.deferred none):=by
   rw [ae];exact World.putObj_heap_same (by rw [zAY];omega)
  have cx:w5.heap.size=w.heap.size:=by rw [ae];simp [zAY]
  have cy:w5.os=W.os:=by rw [ae,zOi,set9_os];exact U.os
  have cz:w5.output=W.output:=by rw [ae,zMe,set9_out];exact U.out
  have c0:∀ b∈d2.foot,b≠s+2:=λb hb a0=>by
   obtain ⟨c,t,z,hc⟩:=U.hd.1.block h2.fl b hb
   rw [a0,hD] at hc;cases hc
  refine ⟨_,zVA rfl h4 rfl,d2,rfl,by simpa using h1,by rw [cx];exact h2,⟨U.hd.1.mono λb hb=>key b (λa0=>U.hd.2 b hb (by simp [a0])) (c0 b hb),λb hb hbb=>U.hd.2 b hb (.inl hbb)⟩,U.ag,by omega,λk hk=>(key k (by omega) (by omega)).trans (U.old k hk),λk cc tt z hk O=>?_,cy,cz⟩
  by_cases bm:k=W.heap.size+1
  ·subst bm;rw [h4] at O;cases O;exact fz0
  ·by_cases ao:k=s+2
   ·subst ao;rw [cw] at O;cases O
   ·rw [key k bm ao] at O;exact U.fz k cc tt z hk O
 ·rintro k w hk hf
  exact hf.elim
theorem sD {g:List Pm} {es:List D} (h:Pms g es) (hg:g.length<=1073741824) (hW:pmW g<=536870000) {t:Tm} {d:D} (ht:t.Is d) (hc:t.cnt<=536870000) (a:Option Addr) (c:Nat):Cop 14 9 [.sv a 4 es c,.dg 9 d] (yS g t).Is:=λN Q hQ=>by
 refine ⟨by kernel_rfl,λav w0 hN ab I=>?_⟩
 subst hN
 have hG:Good w0 av (.sl a 4 es c):=(I _ (nY ..)).1
 have h2:=(I (.dg 9 d) (by simp)).1
 simp only [PV.Ok] at h2
 obtain ⟨ac,hA⟩:=h2
 have J:(([PV.sv a 4 es c,.dg 9 d]:List PV).map (PV.val [])).toArray=#[.slice a es.length c,.agg #[(d.cell 0).cv,(d.cell 1).cv,(d.cell 2).cv,(d.cell 3).cv,(d.cell 4).cv,(d.cell 5).cv,(d.cell 6).cv,(d.cell 7).cv,(d.cell 8).cv]]:=by
  simp [PV.val,PV.val1,PV.cv,zT1 hA]
 rw [J]
 refine (callsIn_wide.1 (zVC 5 (by omega) h hg hW ht hc a c av w0 ab.lt hG ac hA)).mono λe w hr=>?_
 obtain ⟨r,rfl,hI,hO,O,U,Y,hold,ae,ah,aa⟩:=hr
 refine ⟨[.dg 9 r],[],[],{
  q:=⟨rfl,hQ _ _ Y hI hO⟩
  v:=by simp [zKu,zB2,zK5,PV.val1,zT1 U]
  m:={ el:=rfl,br:=λk B hk _=>by simp at hk,bo:=λk B hk _=>by simp at hk,bf:=λk B hk _=>by simp at hk,inj:=λi j b hi _=>by obtain ⟨_,_,B,h3,_⟩:=hi;simp at h3 }
  ok:=λp hp=>by
   simp at hp;subst hp
   refine ⟨⟨O.1,λb hb hl=>?_⟩,U⟩
   rcases hl with hl | hl
   ·exact O.2 b hb hl
   ·obtain ⟨k,_,_,B,h3,_⟩:=hl;simp at h3
  fresh:=λk b hb=>by simp [Env.at] at hb
  size:=Y
  old:=hold
  fz:=ae
  ku:=⟨ah,aa⟩ }⟩
theorem zRG {m:Nat}:∀ {g:List Pm},(∀ x∈g,x.ty.cnt<=m)->pmW g<=g.length*(2+m)
 | [],_=>by simp [pmW]
 | x::g,h=>by
   have J:=zRG (g:=g) λy I=>h y (by simp [I])
   have O:=h x (by simp)
   simp only [pmW,oJ,nE (n:=g.length),Nat.one_mul]
   omega
end Go.Proofs.YtlahkdflngobiaaGreat
