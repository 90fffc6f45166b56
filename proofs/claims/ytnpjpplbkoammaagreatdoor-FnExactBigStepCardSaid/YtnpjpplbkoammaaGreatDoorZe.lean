/- BigStep: the program's splices and counts. -/
import Derived.Test.YtnpjpplbkoammaaGreatDoorZd
import Derived.Test.YtnpjpplbkoammaaGreatDoorYe
set_option linter.unusedVariables false
set_option linter.unusedSimpArgs false
namespace Go.Proofs.YtnpjpplbkoammaaGreatDoor
open Go Go.Proofs Go.Proofs.Tryz Go.IntWalk
theorem zNF {a:Option Addr} {z c b:Nat} {es:List D} (h:b∈(D.sl a z es c).foot):(∃ ad,a=some ad∧b=ad.block)∨b∈zB es:=by
 cases a with
 | none=>simp only [D.foot] at h;exact .inr h
 | some ad=>
   simp only [D.foot] at h
   split at h
   ·simp at h
   ·rcases List.mem_cons.1 h with h | h
    ·exact .inl ⟨ad,rfl,h⟩
    ·exact .inr h
/-- a node's blocks: new, or its other part's -/
theorem zGy {N0 N2 N3 b:Nat} {v0 v1 v2 v3:Value} {x4 x5 x6 x7:D} {a:Option Addr} {es ds:List D} {c:Nat} (ho:∀ y∈[x4,x5,x6,x7],∀ b∈y.foot,N0≤b) (hf:Fresh N0 N3 a ds) (hb:b<N0)
  (h:b∈(D.ag [.lit v0,.lit v1,.lit v2,.lit v3,x4,x5,x6,x7,.sl a 9 es c]).foot):b∈zB es:=by
 simp only [D.foot] at h
 obtain ⟨y,hy,hby⟩:=zC.1 h
 simp only [List.mem_cons,List.not_mem_nil,or_false] at hy
 rcases hy with rfl | rfl | rfl | rfl | rfl | rfl | rfl | rfl | rfl
 ·simp [D.foot] at hby
 ·simp [D.foot] at hby
 ·simp [D.foot] at hby
 ·simp [D.foot] at hby
 ·have:=ho _ (by simp) b hby;omega
 ·have:=ho _ (by simp) b hby;omega
 ·have:=ho _ (by simp) b hby;omega
 ·have:=ho _ (by simp) b hby;omega
 ·rcases zNF hby with ⟨ad,ha,rfl⟩ | h
  ·have:=hf.lo ad ha;omega
  ·exact h
theorem zQK {t y:Tm} {d dy:D} (h:t.Is d) (hG:t.G) (hy:y.Is dy) {i:Nat} (hi:i<t.as.length) {N0 N:Nat} (hN:N0≤N) (Q':D→Nat→Prop) (hq:∀ d' N',N≤N'→(t.wth i y).Is d'→(∀ b,b<N0→b∉dy.foot→b∉d'.foot)→Q' d' N') :
  ACalls prog 40 [.pk,.int .i64,.str,.str,.int .i64,.dc,.dc,.dc,.dc,.row 34 9] [.dg 9 d] N (fun n s s_1 n_1 x x_1 x_2 x_3 es c N2=>N≤N2→Bel N2 (D.ag es)→(0≤(i:Int)∧(i:Int)<(es.length:Int)∧(0+(i:Int).toNat:Nat)<es.length)∧(0+(i:Int).toNat:Nat)<es.length ∧
   (es.length=(List.set es (0+(i:Int).toNat:Nat) dy).length∧c=c)∧(es.length=(List.set es (0+(i:Int).toNat:Nat) dy).length∧c=c)∧(es.length=(List.set es (0+(i:Int).toNat:Nat) dy).length∧c=c)∧(es.length=(List.set es (0+(i:Int).toNat:Nat) dy).length∧c=c)∧(es.length=(List.set es (0+(i:Int).toNat:Nat) dy).length∧c=c) ∧
   ∀ a N3,N2≤N3→Fresh N0 N3 a [D.ag (List.set es (0+(i:Int).toNat:Nat) dy),x,x_1,x_2,x_3]→∀ N4,N3≤N4 →
   Q' (D.ag [D.lit (.int .i64 n),D.lit (.string s),D.lit (.string s_1),D.lit (.int .i64 n_1),x,x_1,x_2,x_3,D.sl a 9 (List.set es (0+(i:Int).toNat:Nat) dy) c]) N4):=by
 refine uj t d h hG N _ ?_
 cases t with
 | mk k2 nm2 ot2 n2 ty2 re2 l2=>
 simp only [Tm.as] at hi
 intro x4 x5 x6 x7 es' c' N2 hN2 hh' hes' ho' _ _
 have hl':=hes'.len
 have hgl:=hG.2.2.1
 rw [Int.toNat_natCast,Nat.zero_add]
 have hs:(List.set es' i dy).length=es'.length:=List.length_set
 refine ⟨⟨by omega,by omega,by omega⟩,by omega,⟨hs.symm,rfl⟩,⟨hs.symm,rfl⟩,⟨hs.symm,rfl⟩,⟨hs.symm,rfl⟩,⟨hs.symm,rfl⟩,fun a2 N3 hN3 hf N4 hN4=>hq _ _ (by omega) (Tm.is_mk.2 ⟨_,_,_,_,_,_,_,rfl,hh',by omega,xO hes' hy⟩) fun b hb hbd hc=>?_⟩
 have h1:=zGy (N2:=N2) (fun y hy b hb=>Nat.le_trans hN (ho'.lo b (zC.2 ⟨y,List.mem_append_left _ hy,hb⟩))) hf hb hc
 obtain ⟨y,hy2,hby⟩:=zC.1 h1
 rcases List.mem_or_eq_of_mem_set hy2 with h2 | rfl
 ·have:=ho'.lo b (zC.2 ⟨y,List.mem_append_right _ h2,hby⟩);omega
 ·exact hbd hby
theorem zOn {t y:Tm} {d dy:D} (h:t.Is d) (hG:t.G) (hy:y.Is dy) (h1:t.as.length=1) {N0 N:Nat} (hN:N0≤N) {a1:Option Addr} (hb:w8 N [a1]) (Q':D→Nat→Prop) (hq:∀ d' N',N≤N'→(t.wth 0 y).Is d'→(∀ b,b<N0→b∉dy.foot→b∉d'.foot)→Q' d' N') :
  ACalls prog 78 [.pk,.int .i64,.str,.str,.int .i64,.dc,.dc,.dc,.dc,.bk 1] [.dg 9 d,.sv a1 9 [dy] 1] N (fun n s s_1 n_1 x_1 x_2 x_3 x_4 x_5 N7=>N≤N7→x_5=D.sl a1 9 [dy] 1∧Off [a1] x_1∧Off [a1] x_2∧Off [a1] x_3∧Off [a1] x_4∧(1=([dy]).length∧1=1)∧(1=([dy]).length∧1=1)∧(1=([dy]).length∧1=1) ∧
   ∀ a_2 N8,N7≤N8→Fresh N0 N8 a_2 [D.ag [dy],x_1,x_2,x_3,x_4]→∀ N9,N8≤N9→Q' (D.ag [D.lit (.int .i64 n),D.lit (.string s),D.lit (.string s_1),D.lit (.int .i64 n_1),x_1,x_2,x_3,x_4,D.sl a_2 9 [dy] 1]) N9):=by
 cases t with
 | mk k nm ot n0 ty re l=>
 obtain ⟨t0,t1,r0,r1,a,es,c,rfl,hh,hlen,hes⟩:=Tm.is_mk.1 h
 simp only [Tm.as] at h1
 obtain ⟨g1,g2,g3,g4⟩:=hG
 refine zFZ hh g1 g2 a1 [dy] 1 N _ fun x4 x5 x6 x7 N5 hN5 hh5 ho5 _=>⟨rfl,?_⟩
 have off:∀ y∈[x4,x5,x6,x7],Off [a1] y:=fun y hy a' ha' ad had hc=>by
  have h1:=hb a' ha' ad had
  have h2:=ho5.lo _ (zC.2 ⟨y,hy,hc⟩)
  omega
 refine ⟨off x4 (by simp),off x5 (by simp),off x6 (by simp),off x7 (by simp),⟨rfl,rfl⟩,⟨rfl,rfl⟩,⟨rfl,rfl⟩,fun a2 N8 hN8 hf N9 hN9=>hq _ _ (by omega) ?_ fun b hb2 hbd hc=>?_⟩
 ·have hset:l.set 0 y=[y]:=by
   cases l with
   | nil=>simp at h1
   | cons p ls=>cases ls with
     | nil=>rfl
     | cons _ _=>simp at h1
  simp only [Tm.wth]
  rw [hset]
  exact Tm.is_mk.2 ⟨_,_,_,_,_,_,_,rfl,hh5,by simp,dy,[],rfl,hy,rfl⟩
 ·have h1:=zGy (N2:=N5) (fun y hy b hb=>Nat.le_trans hN (ho5.lo b (zC.2 ⟨y,hy,hb⟩))) hf hb2 hc
  obtain ⟨y,hy2,hby⟩:=zC.1 h1
  rw [List.mem_singleton] at hy2
  subst hy2
  exact hbd hby
/-- the first splice's part put in its place -/
theorem zE3 {q:Tm} {dq:D} (hq:q.Is dq) (ad:Addr):∀ (t:Tm) (d:D),t.Is d→t.F t.dp→∀ m:Int,LvIn m t.dp→(∀ p,t.fs m=some p→(p.pt 0).res=false)→∀ (N:Nat) (Q:QT [.ag 9,.int .i64,.bool]),
  (∀ d' N',N≤N'→(t.cod (fun _=>(q,0)) m).1.Is d'→(∀ b,b<N→b∉d.foot→b∉dq.foot→b∉d'.foot)→Q d' (t.cod (fun _=>(q,0)) m).2.1 (t.cod (fun _=>(q,0)) m).2.2 N') →
  ACalls prog 77 [.ag 9,.int .i64,.bool] [.dg 9 d,.int .i64 m,.fn 116 [.pd ad 9 dq]] N Q:=by
 refine Tm.ind fun k nm ot n0 ty re l ih d hd hF m hm hfs N Q hQ=>?_
 have hd0:=hd
 have hF1:(Tm.mk k nm ot n0 ty re l).F (w5 l+1):=hF
 obtain ⟨t0,t1,r0,r1,a,es,c,rfl,hh,hlen,hes⟩:=Tm.is_mk.1 hd
 have hl:=hes.len
 have hsub:∀ x∈l,∀ b,b∉(D.ag [.lit (.int .i64 k),.lit (.string nm),.lit (.string ot),.lit (.int .i64 n0),t0,t1,r0,r1,.sl a 9 es c]).foot→∀ i:Nat,i<es.length→b∉(es.getD i default).foot:=fun x hx b hb i hi hc=>by
  apply hb
  simp only [D.foot]
  refine zC.2 ⟨.sl a 9 es c,by simp,?_⟩
  have:b∈zB es:=zC.2 ⟨_,by rw [List.getD_eq_getElem?_getD,List.getElem?_eq_getElem hi];exact List.getElem_mem hi,hc⟩
  cases a with
  | none=>simpa only [D.foot] using this
  | some ad=>
    simp only [D.foot]
    split
    ·rename_i hem
     rw [List.isEmpty_iff.1 hem] at hi
     simp at hi
    ·exact List.mem_cons_of_mem _ this
 have loop:¬(k=11∧m=1)→yC Q N m ad dq a es c es.length 0 (.ag [.lit (.int .i64 k),.lit (.string nm),.lit (.string ot),.lit (.int .i64 n0),t0,t1,r0,r1,.sl a 9 es c]) 0 (bytes []) (bytes []) 0 0 none [] 0 0 none [] 0 none [] 0 N:=fun hne=>by
  simp only [Tm.cod] at hQ
  rw [if_neg hne] at hQ
  simp only [Tm.fs] at hfs
  rw [if_neg hne] at hfs
  refine up hes hlen (fun i xs=>∀ N',N≤N'→(∀ p,wU xs (zS k m)=some p→(p.pt 0).res=false)→(match zn (fun _=>(q,0)) xs (zS k m) with | none=>zn (fun _=>(q,0)) l (zS k m)=none | some (l',r)=>zn (fun _=>(q,0)) l (zS k m)=some (l.take i++l',r)) →
   yC Q N m ad dq a es c es.length i (.ag [.lit (.int .i64 k),.lit (.string nm),.lit (.string ot),.lit (.int .i64 n0),t0,t1,r0,r1,.sl a 9 es c]) 0 (bytes []) (bytes []) 0 0 none [] 0 0 none [] 0 none [] 0 N') ?_ ?_ N (Nat.le_refl _) hfs ?_
  ·intro i hlt hi N' hN' _ he
   simp only [zn] at he
   rw [he] at hQ
   refine ut _ _ _ _ _ _ _ _ _ _ _ _ _ _ _ _ _ _ _ _ _ _ _ _ _ _ _ ?_
   rw [hlt]
   exact fun N2 hN2=>hQ _ _ (by omega) hd0 fun b _ h _=>h
  ·intro i x xs hat hxs ih2 N' hN' hfx he
   have hb:=hat.b
   have hil:i<l.length:=(List.getElem?_eq_some_iff.1 hat.g).1
   refine ut _ _ _ _ _ _ _ _ _ _ _ _ _ _ _ _ _ _ _ _ _ _ _ _ _ _ _ ?_
   rw [hat.lt,hat.w]
   refine ⟨⟨by omega,by omega⟩,fun N1 hN1=>uQ hm.b N1 _ fun N2 hN2 _ N3 hN3=>?_⟩
   have hr:=hat.r
   have hFx:=hF1.mem x hat.m
   have hsx:=hsub x hat.m
   simp only [wU] at hfx
   rw [Int.toNat_natCast]
   refine ih x hat.m _ hr ⟨hFx.ok,Nat.le_refl _,hFx.c,hFx.w⟩ _ (hm.next (dp_mem hat.m)) (fun p hp=>by rw [hp] at hfx;exact hfx p rfl) N3 _ fun dx N4 hN4 hx hox _ _=>Br.of (fun hv N5 hN5=>?_) fun hv=>?_
   ·simp only [zn] at he
    rw [if_pos hv] at he
    simp only at he
    rw [he] at hQ
    have:=zQK hd0 hF.z.g hx (i:=i) hil (N0:=N) (N:=N5) (by omega) (fun d N=>Q d (x.cod (fun _=>(q,0)) (zS k m)).2.1 true N) fun d' N6 hN6 hd' hof=>hQ _ _ (by omega) (by
     have:l.take i++(x.cod (fun _=>(q,0)) (zS k m)).1::xs=l.set i (x.cod (fun _=>(q,0)) (zS k m)).1:=by
      rw [List.set_eq_take_append_cons_drop,if_pos hil,hxs]
     simp only
     rw [this]
     exact hd') fun b hb1 hb2 hb3=>hof b hb1 (hox b (by omega) (hsx b hb2 i (by omega)) hb3)
    simpa only [Int.toNat_natCast] using this
   ·refine ih2 _ (by omega) ?_ ?_
    ·cases hfx2:x.fs (zS k m) with
     | none=>rw [hfx2] at hfx;exact hfx
     | some p=>
       rw [hfx2] at hfx
       have:=zGa x (zS k m) p (q:=q) hfx2 (hfx p rfl)
       rw [this] at hv
       cases hv
    simp only [zn] at he
    rw [if_neg (by rw [hv];decide)] at he
    cases hc:zn (fun _=>(q,0)) xs (zS k m) with
    | none=>rw [hc] at he;exact he
    | some p=>
      obtain ⟨l',r⟩:=p
      rw [hc] at he
      simp only at he ⊢
      rw [he,yu hat.g,List.append_assoc];rfl
  ·cases hc:zn (fun _=>(q,0)) l (zS k m) with
   | none=>rfl
   | some p=>obtain ⟨l',r⟩:=p;simp
 refine zAW N _ m ad dq Q fun _=>⟨_,rfl,Br.beq (fun h1=>Br.beq (fun h2=>?_) fun h2=>⟨_,_,_,rfl,loop fun h=>h2 h.2⟩) fun h1=>⟨_,_,_,rfl,loop fun h=>h1 h.1⟩⟩
 have hl1:=(yv hF.ok).1 (by omega)
 have hi0:0<l.length:=by omega
 have hm0:=zG hi0
 have hF0:=hF1.mem _ hm0
 have hp0:=zZ hes hi0
 have hc0:=hF0.c
 have hrr:=hfs (.mk k nm ot n0 ty re l) (by simp only [Tm.fs];rw [if_pos ⟨h1,h2⟩])
 rw [zKx] at hrr
 simp only [Tm.cod] at hQ
 rw [if_pos ⟨h1,h2⟩] at hQ
 unfold zPI at hQ
 rw [zKx,if_neg (by rw [hrr];decide)] at hQ
 refine ⟨_,_,_,rfl,⟨by omega,by omega⟩,fun N1 hN1=>wc hp0 hF0.ok (by omega) N1 _ fun N2 hN2 _=>Br.not (fun hr N3 hN3=>?_) fun hr=>absurd hr (by rw [hrr];decide)⟩
 refine vO N3 _ ad dq _ fun _ N4 hN4 _ _=>⟨⟨rfl,rfl⟩,fun a1 _ _ N5 hN5 hb=>?_⟩
 exact zOn hd0 hF.z.g hq hl1 (N0:=N) (by omega) hb (fun d N=>Q d 0 true N) fun d' N6 hN6 hd' hof=>hQ _ _ (by omega) hd' fun b hb1 _ hb3=>hof b hb1 hb3
theorem zL7 {nm ot:ByteArray} {n:Int} {ty re:Ty} {l:List Tm} (h:(Tm.mk 10 nm ot n ty re l).ok=true):∃ b,Tm.mk 10 nm ot n ty re l=Tm.nod 10 [b]∧b.ok=true∧l=[b]:=by
 have hl:=(yv h).1 (by omega)
 obtain ⟨h1,h2,h3⟩:=Tm.ok_mk.1 h
 cases l with
 | nil=>simp at hl
 | cons b l=>
 cases l with
 | cons c l=>simp at hl
 | nil=>
 have z1:∀ t:Ty,t.zero=true→t=.mk 0 []:=fun t ht=>by
  cases t with
  | mk k l=>
  simp only [Ty.zero,Ty.k,Ty.as,Bool.and_eq_true,beq_iff_eq] at ht
  have:l=[]:=List.eq_nil_of_length_eq_zero (by omega)
  rw [this,ht.1]
 simp only [zK,Bool.and_eq_true] at h2
 obtain ⟨_,h4,_,h5,h6,h7⟩:=h2
 have e1:=z1 ty (by simpa [s7] using h4)
 have e2:=z1 re (by simpa using h5)
 have e3:=xC.1 h6
 have e4:nm=bytes []∧ot=bytes []:=by simpa [xU] using h7
 have e5:n=0:=by simp at e3;omega
 refine ⟨b,?_,h1 b (by simp),rfl⟩
 rw [e1,e2,e4.1,e4.2,e5];rfl
/-- a quotation's evaluation: the first splice first -/
theorem zMM {f:Nat} {b:Tm} {s:Nat} (hb:b.ok=true) (hr:(Tm.nod 10 [b]).res=false):evT (f+1) (Tm.nod 10 [b]) s=match b.fs 1 with
  | none=>none
  | some p=>match p.codE (evT f) 1 s with
    | none=>none
    | some (y,s1)=>evT (f+1) (Tm.nod 10 [b.rpl 1 y]) s1:=by
 have e1:evT (f+1) (Tm.nod 10 [b]) s=match b.codE (evT f) 1 s with
   | none=>none
   | some (b,s1)=>if (Tm.nod 10 [b]).res then some (Tm.nod 10 [b],s1) else none:=by
  show (if (Tm.nod 10 [b]).res=true then _ else if (10:Int)=10 then _ else _)=_
  rw [if_neg (by rw [hr];decide),if_pos rfl];rfl
 rw [e1]
 cases hf:b.fs 1 with
 | none=>
   rw [sP b 1 s ((zKj b 1).1 hf)]
   simp only
   rw [if_neg (by rw [hr];decide)]
 | some p=>
   have hp:=zO0 hf hb
   have hmd:∀ x s1,p.codE (evT f) 1 s=some (x,s1)→x.made 1=true:=fun x s1 h=>(zCJ (f:=p.dp) (fun e s v s1 _=>uq f e s v s1) p (by omega) hp _ _ _ _ h).2.1
   rw [zKC b 1 s p hf hmd]
   simp only
   cases hc:p.codE (evT f) 1 s with
   | none=>rfl
   | some q=>
     obtain ⟨y,s1⟩:=q
     simp only
     show _=(if (Tm.nod 10 [b.rpl 1 y]).res=true then _ else if (10:Int)=10 then _ else _)
     by_cases hr2:(Tm.nod 10 [b.rpl 1 y]).res=true
     ·have hmm:=zIn hr2 rfl
      have hmm:(b.rpl 1 y).made 1=true:=hmm
      rw [if_pos hr2,sP _ 1 s1 hmm]
      simp only
      rw [if_pos hr2]
      rfl
     ·rw [if_neg hr2,if_pos rfl];rfl
theorem zNg {f:Nat} {k:Int} {nm ot:ByteArray} {n:Int} {ty re:Ty} {l:List Tm} {s:Nat} (hr:(Tm.mk k nm ot n ty re l).res=false) (hk:¬k=10) :
  evT (f+1) (.mk k nm ot n ty re l) s=match zEW (evT f) (l.take (wA k l.length)) s with
   | none=>none
   | some (l1,s1)=>if (Tm.mk k nm ot n ty re (l1++l.drop (wA k l.length))).apl.2=0 then none else
     match zDf (Tm.mk k nm ot n ty re (l1++l.drop (wA k l.length))).apl.1 s1 with
     | none=>none
     | some (x,s2)=>evT f x s2:=by
 have e1:evT (f+1) (.mk k nm ot n ty re l) s=match zEW (evT f) (l.take (yY k l.length)) s with
   | none=>none
   | some (l1,s1)=>if (Tm.mk k nm ot n ty re (l1++l.drop (yY k l.length))).apl.2=0 then none else
     match zDf (Tm.mk k nm ot n ty re (l1++l.drop (yY k l.length))).apl.1 s1 with
     | none=>none
     | some (x,s2)=>evT f x s2:=by
  simp only [evT]
  rw [if_neg (by rw [hr];decide),if_neg hk];rfl
 rw [e1]
 by_cases h:k=4∨k=7∨k=5∨k=8∨k=12∨k=13
 ·have:yY k l.length=wA k l.length:=by
   unfold yY wA
   rcases h with rfl | rfl | rfl | rfl | rfl | rfl<;>rfl
  rw [this]
 ·have hz:∀ l:List Tm,(Tm.mk k nm ot n ty re l).apl.2=0:=fun l=>by
   simp only [Tm.apl]
   rw [if_neg (by omega),if_neg (by omega),if_neg (by omega),if_neg (by omega),if_neg (by omega),if_neg (by omega)]
  have hs:wA k l.length=0:=by unfold wA;rw [if_neg (by omega),if_neg (by omega)]
  rw [hs]
  simp only [List.take_zero,zEW]
  rw [if_pos (hz _)]
  cases zEW (evT f) (l.take (yY k l.length)) s with
  | none=>rfl
  | some p=>obtain ⟨l1,s1⟩:=p;simp only;rw [if_pos (hz _)]
theorem zGB:∀ (t:Tm) (d:D),t.Is d→∀ m:Int,LvIn m t.dp→∀ (N:Nat) (Q:QT [.ag 9,.bool]),(∀ d' b N',N≤N'→(match t.fs m with | none=>b=false | some p=>b=true∧p.Is d')→Q d' b N') →
  ACalls prog 115 [.ag 9,.bool] [.dg 9 d,.int .i64 m] N Q:=by
 refine Tm.ind fun k nm ot n0 ty re l ih d hd m hm N Q hQ=>?_
 have hd0:=hd
 obtain ⟨t0,t1,r0,r1,a,es,c,rfl,hh,hlen,hes⟩:=Tm.is_mk.1 hd
 have hl:=hes.len
 have loop:¬(k=11∧m=1)→ze Q N m a es c es.length 0 (.ag [.lit (.int .i64 k),.lit (.string nm),.lit (.string ot),.lit (.int .i64 n0),t0,t1,r0,r1,.sl a 9 es c]) 0 (bytes []) (bytes []) 0 0 none [] 0 0 none [] 0 none [] 0 N:=fun hne=>by
  simp only [Tm.fs] at hQ
  rw [if_neg hne] at hQ
  refine up hes hlen (fun i xs=>∀ N',N≤N'→(∀ d' b N',N≤N'→(match wU xs (zS k m) with | none=>b=false | some p=>b=true∧p.Is d')→Q d' b N') →
   ze Q N m a es c es.length i (.ag [.lit (.int .i64 k),.lit (.string nm),.lit (.string ot),.lit (.int .i64 n0),t0,t1,r0,r1,.sl a 9 es c]) 0 (bytes []) (bytes []) 0 0 none [] 0 0 none [] 0 none [] 0 N') ?_ ?_ N (Nat.le_refl _) hQ
  ·intro i hlt hi N' hN' hq
   simp only [wU] at hq
   refine vH _ _ _ _ _ _ _ _ _ _ _ _ _ _ _ _ _ _ _ _ _ _ _ _ _ ?_
   rw [hlt]
   exact ⟨⟨rfl,rfl⟩,fun a2 N6 hN6 _ N7 hN7=>pR N7 11 a2 _ 1 _ fun _ N8 hN8 _ _ N9 hN9=>hq _ _ _ (by omega) rfl⟩
  ·intro i x xs hat hxs ih2 N' hN' hq
   have hb:=hat.b
   simp only [wU] at hq
   refine vH _ _ _ _ _ _ _ _ _ _ _ _ _ _ _ _ _ _ _ _ _ _ _ _ _ ?_
   rw [hat.lt,hat.w,Int.toNat_natCast]
   refine ⟨⟨by omega,by omega⟩,fun N1 hN1=>uQ hm.b N1 _ fun N2 hN2 _ N3 hN3=>?_⟩
   refine ih x hat.m _ hat.r _ (hm.next (dp_mem hat.m)) N3 _ fun dx b N4 hN4 hp _ _=>?_
   cases hx:x.fs (zS k m) with
   | none=>
     rw [hx] at hp hq
     have hp:b=false:=hp
     subst hp
     exact ih2 _ (by omega) hq
   | some p=>
     rw [hx] at hp hq
     obtain ⟨rfl,hp⟩:=hp
     exact fun N5 hN5=>hq _ _ _ (by omega) ⟨rfl,hp⟩
 refine pO N _ m Q fun _=>⟨_,rfl,Br.beq (fun h1=>Br.beq (fun h2 N1 hN1=>hQ _ _ _ hN1 ?_) fun h2=>⟨_,_,_,rfl,loop fun h=>h2 h.2⟩) fun h1=>⟨_,_,_,rfl,loop fun h=>h1 h.1⟩⟩
 unfold Tm.fs
 rw [if_pos ⟨h1,h2⟩]
 exact ⟨rfl,hd0⟩
theorem pL (d:D) (x y:Int) (v:Bool) (N:Nat) (Q:QT [.bool,.int .i64,.int .i64,.bool]) (hQ:∀ N',N≤N'→Q false x y true N') :
  BCalls prog 90 [.bool,.int .i64,.int .i64,.bool] [.pb 0 0 0 0,.dg 9 d,.int .i64 0] [.var [.int .i64 x,.int .i64 y,.bool v]] N Q:=
 wR N d 0 x y v Q fun E _=>⟨sA,fun N1 h=>hQ _ h⟩
theorem zMF {x:Tm} {d:D} (hd:x.Is d) (hs:x.sz≤9223372036854775807) {r:Int} (hr:¬r=0) {F s:Nat} (hF:F≤200) (hsF:s≤F) (N:Nat) (Q:QT [.bool,.int .i64,.int .i64,.bool])
  (hQ:∀ (v:Bool) (le us:Int) (b:Bool) (N':Nat),N≤N'→(match zDf x s with | none=>v=false∧b=true | some (_,s1)=>v=true∧le=s1∧us=(F:Int) - s1∧b=false)→Q v le us b N') :
  BCalls prog 90 [.bool,.int .i64,.int .i64,.bool] [.pb 0 0 0 0,.dg 9 d,.int .i64 r] [.var [.int .i64 s,.int .i64 ((F:Int) - s),.bool false]] N Q:=by
 unfold zDf at hQ
 refine wR N d r s _ false Q fun E _=>Br.beq (fun h=>absurd h hr) fun _=>Br.beq (fun h0=>⟨sA,fun N1 h1=>hQ _ _ _ _ _ h1 ?_⟩) fun h0 N1 hN1=>zKY x d hd hs N1 _ fun N2 hN2 _=>Br.dec (fun h4=>⟨sA,fun N3 hN3=>hQ _ _ _ _ _ (by omega) ?_⟩) fun h4=>⟨sA,fun N3 hN3=>hQ _ _ _ _ _ (by omega) ?_⟩
 ·rw [if_pos (.inl (by omega))];exact ⟨rfl,rfl⟩
 ·rw [if_pos (.inr (by omega))];exact ⟨rfl,rfl⟩
 ·rw [if_neg (by omega),i64_in _ (by omega),i64_in _ (by omega)]
  exact ⟨rfl,by omega,by omega,rfl⟩
def IvP (o:Option (Tm × Nat)) (F:Nat) (d:D) (le us:Int) (b:Bool):Prop:=match o with
 | none=>b=true∧∃ v:Tm,v.Is d∧v.ok=true∧v.sz≤1300000
 | some (v,s1)=>b=false∧le=s1∧us=(F:Int) - s1∧v.Is d
def IvC (f F:Nat):Prop:=∀ (e:Tm) (d:D) (s:Nat),e.Is d→e.ok=true→e.sz+400*s≤1300000→e.dp+401*s≤f→s≤F→∀ (N:Nat) (Q:QT [.ag 9,.int .i64,.int .i64,.bool]),
 (∀ d' le us b N',N≤N'→IvP (evT f e s) F d' le us b→Q d' le us b N')→BCalls prog 57 [.ag 9,.int .i64,.int .i64,.bool] [.pb 0 0 0 0,.dg 9 d] [.var [.int .i64 s,.int .i64 ((F:Int) - s),.bool false]] N Q
/-- the first splice's piece comes into its place -/
theorem zJ7 {f F:Nat} (hF:F≤200) (hE:IvC f F) {b:Tm} {d:D} {s:Nat} (hd:(Tm.nod 10 [b]).Is d) (hb:b.ok=true) (hs:(Tm.nod 10 [b]).sz+400*s≤1300000) (hf:(Tm.nod 10 [b]).dp+401*s≤f+1) (hsF:s≤F) (N:Nat) (Q:QT [.ag 9,.int .i64,.int .i64,.bool])
  (hQ:∀ (d':D) (le us:Int) (v:Bool) (N':Nat),N≤N'→(match b.fs 1 with
   | none=>v=true∧d'=d
   | some p=>match p.codE (evT f) 1 s with
     | none=>v=true∧d'=d
     | some (y,s1)=>v=false∧le=s1∧us=(F:Int) - s1∧(Tm.nod 10 [b.rpl 1 y]).Is d')→Q d' le us v N') :
  BCalls prog 89 [.ag 9,.int .i64,.int .i64,.bool] [.pb 0 0 0 0,.dg 9 d] [.var [.int .i64 s,.int .i64 ((F:Int) - s),.bool false]] N Q:=by
 have hd0:=hd
 have ho:=ql hb
 have hFF:=zKb ho (by omega)
 have hG:=hFF.z.g
 have hsz:(Tm.nod 10 [b]).sz=1+(b.sz+0):=rfl
 have hFb:=zKb hb (by omega)
 have hdb:=hFb.dp
 obtain ⟨t0,t1,r0,r1,a,es,c,rfl,hh,hlen,hes⟩:=Tm.is_mk.1 hd
 have hl:=hes.len
 have hbd:b.Is (es.getD 0 default):=zZ hes (j:=0) (by simp)
 have hlv:LvIn 1 b.dp:=by unfold LvIn;omega
 refine uA N _ s _ false Q fun E _=>⟨_,_,_,rfl,⟨by omega,by rw [hl];simp⟩,fun N1 hN1=>zGB b _ hbd 1 hlv N1 _ fun dp bb N2 hN2 hp _ _=>?_⟩
 cases hfs:b.fs 1 with
 | none=>
   rw [hfs] at hp hQ
   have hp:bb=false:=hp
   subst hp
   exact ⟨sA,fun N3 hN3=>hQ _ _ _ _ _ (by omega) ⟨rfl,rfl⟩⟩
 | some p=>
 rw [hfs] at hp hQ
 obtain ⟨rfl,hp⟩:=hp
 have hpo:=zO0 hfs hb
 have hpk:=zQB b 1 p hfs
 have hpd:=zRA hfs
 have hps:=zLO b 1 p tm0 hfs
 have htz:tm0.sz=1:=rfl
 have hps2:p.sz≤b.sz:=by have:=Tm.sz_pos (b.rpl 1 tm0);omega
 have hdn:(Tm.nod 10 [b]).dp=b.dp+1:=by simp [Tm.nod,Tm.dp,w5]
 rw [Bool.not_true,vL]
 have hcE:p.codE (evT f) 1 s=match evT f (p.pt 0) s with
   | none=>none
   | some (x,s1)=>if x.kd=10 then zDf (x.pt 0) s1 else none:=by
  cases p with
  | mk k nm ot n ty re l=>
  have hpk:k=11:=hpk
  simp only [Tm.codE,and_true]
  rw [if_pos hpk];rfl
 simp only at hQ
 rw [hcE] at hQ
 have hF1:=zMf hpo (.inr (.inl hpk))
 cases p with
 | mk kp np op mp tp rp lp=>
 obtain ⟨u0,u1,v0,v1,a1,es1,c1,rfl,hh1,hlen1,hes1⟩:=Tm.is_mk.1 hp
 have hl1:=hes1.len
 simp only [Tm.as] at hF1
 have hm1:=zG (l:=lp) (i:=0) (by omega)
 have hdm1:=Tm.dp_mem (k:=kp) (nm:=np) (ot:=op) (n:=mp) (ty:=tp) (re:=rp) hm1
 have hsm1:=Tm.sz_mem (k:=kp) (nm:=np) (ot:=op) (n:=mp) (ty:=tp) (re:=rp) hm1
 have hp1:=zZ hes1 (j:=0) (by omega)
 have hqp:(Tm.mk kp np op mp tp rp lp).pt 0=lp.getD 0 tm0:=rfl
 rw [hqp] at hQ hF1
 generalize hX:lp.getD 0 tm0=X at hQ hF1 hm1 hdm1 hsm1 hp1 hqp
 refine ⟨_,_,_,rfl,⟨by omega,by omega⟩,fun N4 hN4=>hE X _ s hp1 hF1.1 (by omega) (by omega) hsF N4 _ fun dx le us fb N5 hN5 hxp _ _ N6 hN6=>?_⟩
 cases hev:evT f X s with
 | none=>
   rw [hev] at hxp hQ
   obtain ⟨rfl,v,hv,hvo,hvs⟩:=hxp
   have hvF:=zKb hvo hvs
   have bad:∀ dd N8,N≤N8→BCalls prog 90 [.bool,.int .i64,.int .i64,.bool] [.pb 0 0 0 0,.dg 9 dd,.int .i64 0] [.var [.int .i64 le,.int .i64 us,.bool true]] N8 _:=fun dd N8 hN8=>
    pL dd le us true N8 (fun b_3 n_2 n_3 b_4 N9=>b_3=false∧b_4=true∧N8≤N9) fun N9 hN9=>⟨rfl,rfl,hN9⟩
   refine rS hv hvo hvF.c N6 _ fun dy N7 hN7 hy _ _=>Br.of (fun _=>Br.not (fun h=>by cases h) fun _ N8 hN8=>?_) fun _ N8 hN8=>?_
   ·exact pL _ _ _ _ N8 _ fun N9 hN9 _=>⟨sA,fun N10 hN10=>hQ _ _ _ _ _ (by omega) ⟨rfl,rfl⟩⟩
   ·exact pL _ _ _ _ N8 _ fun N9 hN9 _=>⟨sA,fun N10 hN10=>hQ _ _ _ _ _ (by omega) ⟨rfl,rfl⟩⟩
 | some w=>
 obtain ⟨x,s1⟩:=w
 rw [hev] at hxp hQ
 obtain ⟨rfl,rfl,rfl,hx⟩:=hxp
 have ev:=uq f _ _ _ _ hev hF1.1
 have ev1:=ev.l
 have ev2:=ev.z
 have ev3:=ev.o
 have ev4:=ev.r
 have hxF:=zKb ev3 (by omega)
 simp only at hQ
 refine rS hx ev3 hxF.c N6 _ fun dy N7 hN7 hy _ _=>?_
 by_cases h10:x.kd=10
 case neg=>
  rw [if_neg h10] at hQ
  rw [if_neg (fun h=>h10 h.1)]
  exact fun N8 hN8=>pL _ _ _ _ N8 _ fun N9 hN9 _=>⟨sA,fun N10 hN10=>hQ _ _ _ _ _ (by omega) ⟨rfl,rfl⟩⟩
 case pos=>
 rw [if_pos h10] at hQ
 rw [if_pos ⟨h10,ev4⟩] at hy ⊢
 intro N8 hN8
 have hxq:=(zMf ev3 (.inl h10)).1
 have hxz:=zPP (e:=x) (i:=0)
 refine zMF (x:=x.pt 0) hy (by omega) (by decide) hF (by omega) N8 _ fun v le us fb N9 hN9 hc _=>?_
 cases hce:zDf (x.pt 0) s1 with
 | none=>
   rw [hce] at hc hQ
   obtain ⟨rfl,rfl⟩:=hc
   exact ⟨sA,fun N10 hN10=>hQ _ _ _ _ _ (by omega) ⟨rfl,rfl⟩⟩
 | some w=>
 obtain ⟨y,s2⟩:=w
 obtain ⟨e1,e2,e3⟩:=vg hce
 rw [hce] at hc hQ
 subst e1
 obtain ⟨rfl,rfl,rfl,rfl⟩:=hc
 rw [Bool.not_true,vL]
 have fin:∀ (N21:Nat),N9≤N21→∀ (dB:D) (B:Tm),B.Is dB→B.ok=true→B.sz≤1300000→(B.cod (Tm.stp B.dp) 1).1=b.rpl 1 (x.pt 0)→ACalls prog 77 [.ag 9,.int .i64,.bool] [.dg 9 dB,.int .i64 1,.fn 41 []] N21 (fun x_10 n_8 b_8 N22=>N21≤N22→Bel N22 x_10→(1=([x_10]).length∧1=1)∧∀ a_6,ApA a_6 [x_10]→Off [a_6] (.ag [.lit (.int .i64 10),.lit (.string (bytes [])),.lit (.string (bytes [])),.lit (.int .i64 0),t0,t1,r0,r1,.sl a 9 es c])→∀ N23,N22≤N23→w8 N23 [a_6]→ACalls prog 78 [.pk,.int .i64,.str,.str,.int .i64,.dc,.dc,.dc,.dc,.bk 1] [.dg 9 (.ag [.lit (.int .i64 10),.lit (.string (bytes [])),.lit (.string (bytes [])),.lit (.int .i64 0),t0,t1,r0,r1,.sl a 9 es c]),.sv a_6 9 [x_10] 1] N23 (fun n_9 s_2 s_3 n_10 x_11 x_12 x_13 x_14 x_15 N24=>N23≤N24→x_15=D.sl a_6 9 [x_10] 1∧Off [a_6] x_11∧Off [a_6] x_12∧Off [a_6] x_13∧Off [a_6] x_14∧(1=([x_10]).length∧1=1)∧(1=([x_10]).length∧1=1)∧(1=([x_10]).length∧1=1)∧∀ a_7 N25,N24≤N25→Fresh N N25 a_7 [D.ag [x_10],x_11,x_12,x_13,x_14]→∀ N25',N25≤N25'→ud E [.var [.int .i64 0,.int .i64 0,.bool false]]∧∀ N26,N25'≤N26→Q (D.ag [D.lit (.int .i64 n_9),D.lit (.string s_2),D.lit (.string s_3),D.lit (.int .i64 n_10),x_11,x_12,x_13,x_14,D.sl a_7 9 [x_10] 1]) s2 ((F:Int) - s2) false N26)):=fun N21 hN21 dB B hB hBo hBs hcod=>by
  have hBF:=zKb hBo (by omega)
  have hBd:=hBF.dp
  refine zAt (zEd B.dp) B dB hB (hBF.up (by omega)) 1 (by unfold LvIn;omega) N21 _ fun dz N22 hN22 hz _ _=>⟨⟨rfl,rfl⟩,fun a1 _ _ N23 hN23 hba=>?_⟩
  rw [hcod] at hz
  refine zLY hd0 hG hz rfl (N0:=N) hba (fun d N25=>ud E [.var [.int .i64 0,.int .i64 0,.bool false]]∧∀ N26,N25≤N26→Q d s2 ((F:Int) - s2) false N26) fun d' N24 hN24 hd'=>⟨sA,fun N26 hN26=>hQ _ _ _ _ _ (by omega) ⟨rfl,rfl,rfl,hd'⟩⟩
 refine ⟨_,_,_,rfl,⟨by omega,by rw [hl];simp⟩,_,_,_,rfl,⟨by omega,by omega⟩,fun N11 hN11=>wc hp1 hF1.1 (zKb hF1.1 (by omega)).c N11 _ fun N12 hN12 _=>Br.not (fun hr=>?_) fun hr N21 hN21=>?_⟩
 ·-- the part was no result
  intro ad hap hoff N13 hN13 hba
  have hcc:=zGa b 1 _ (q:=x) hfs (by rw [hqp];exact hr)
  have hwo:((Tm.mk kp np op mp tp rp lp).wth 0 x).ok=true:=zP2 hpo ev3
  have hwk:((Tm.mk kp np op mp tp rp lp).wth 0 x).kd=11:=hpk
  have hwz:((Tm.mk kp np op mp tp rp lp).wth 0 x).sz+X.sz=(Tm.mk kp np op mp tp rp lp).sz+x.sz:=by
   have:=zHm (x:=x) (l:=lp) (i:=0) (by omega)
   rw [hX] at this
   simp only [Tm.wth,Tm.sz];omega
  have hwp:((Tm.mk kp np op mp tp rp lp).wth 0 x).pt 0=x:=by
   simp only [Tm.wth,Tm.pt]
   rw [List.getD_eq_getElem?_getD,List.getElem?_set_self (by omega)];rfl
  obtain ⟨g1,g2⟩:=zQD hwk b 1 _ hfs
  have hrz:=zLO b 1 _ ((Tm.mk kp np op mp tp rp lp).wth 0 x) hfs
  have hpc:=fun S=>zHo (S:=S) _ 1 _ g1 (by rw [hwp];exact ev4) (by rw [hwp];exact h10)
  refine zE3 hx ad b _ hbd hFb 1 hlv (fun p hp=>by rw [hfs] at hp;cases hp;rw [hqp];exact hr) N13 _ fun dz N14 hN14 hz hof _=>⟨fun a' ha' ad' had' hc=>?_,fun _ N15 hN15=>?_⟩
  ·rw [List.mem_singleton] at ha'
   subst ha'
   injection had' with had'
   subst had'
   exact hof _ (hba _ (by simp) _ rfl) (hoff _ (by simp) _ rfl) (hap _ rfl _ (by simp)) hc
  ·rw [hcc] at hz
   have hz:(b.rpl 1 ((Tm.mk kp np op mp tp rp lp).wth 0 x)).Is dz:=hz
   have:=fin N15 (by omega) dz _ hz (zOT b 1 _ hb hwo) (by omega) (by rw [hpc,hwp,g2])
   refine this.mono ?_
   intro x_10 n_8 b_8 N22 h h1 h2
   obtain ⟨g3,g4⟩:=h h1 h2
   refine ⟨g3,fun a_4 h3 h4 N17 h5 h6=>(g4 a_4 h3 h4 N17 h5 h6).mono ?_⟩
   intro n_6 s_ s_1 n_7 x_5 x_6 x_7 x_8 x_9 N18 h7 h8
   obtain ⟨k1,k2,k3,k4,k5,k6,k7,k8,k9⟩:=h7 h8
   exact ⟨k1,k2,k3,k4,k5,k6,k7,k8,fun a_5 N19 h9 h10=>k9 a_5 N19 h9 h10 N19 (Nat.le_refl _)⟩
 ·have hpc:=fun S=>zHo (S:=S) b 1 _ hfs (by rw [hqp];exact hr)
  have hXx:x=X∧s1=s:=by
   cases X with
   | mk k nm ot n ty re l=>
   cases f with
   | zero=>cases hev
   | succ f=>
     simp only [evT] at hev
     rw [if_pos hr] at hev
     injection hev with hev
     injection hev with h1 h2
     exact ⟨h1.symm,h2.symm⟩
  have:=fin N21 (by omega) _ b hbd hb (by omega) (by rw [hpc _ (by rw [hqp,←hXx.1];exact h10),hqp,←hXx.1])
  refine this.mono ?_
  intro x_10 n_8 b_8 N22 h h1 h2
  obtain ⟨g3,g4⟩:=h h1 h2
  refine ⟨g3,fun a_4 h3 h4 N17 h5 h6=>(g4 a_4 h3 h4 N17 h5 h6).mono ?_⟩
  intro n_6 s_ s_1 n_7 x_5 x_6 x_7 x_8 x_9 N18 h7 h8
  obtain ⟨k1,k2,k3,k4,k5,k6,k7,k8,k9⟩:=h7 h8
  exact ⟨k1,k2,k3,k4,k5,k6,k7,k8,fun a_5 N19 h9 h10=>k9 a_5 N19 h9 h10 N19 (Nat.le_refl _)⟩
theorem zOt {k:Int} {nm ot:ByteArray} {n:Int} {ty re:Ty} {l:List Tm} (h:(Tm.mk k nm ot n ty re l).ok=true):wA k l.length≤l.length:=by
 unfold wA
 split
 ·exact Nat.le_refl _
 ·split
  ·rename_i h2
   obtain ⟨b1,b2,b3,_⟩:=yv h
   rcases h2 with h | h | h | h
   ·have:=b3 h;omega
   ·have:=b2 (.inr h);omega
   ·have:=b1 (by omega);omega
   ·have:=b1 (by omega);omega
  ·omega
def EvL (f F:Nat):Prop:=∀ (E:Env) (Q:QT [.ag 9,.int .i64,.int .i64,.bool]) (N s:Nat) (e:Tm) (d:D) (N':Nat),N≤N'→e.Is d→e.ok=true→e.sz+400*s≤1300000→e.dp+401*s≤f→s≤F →
 (∀ d' le us b N'',N≤N''→IvP (evT f e s) F d' le us b→Q d' le us b N'')→zV E Q N s ((F:Int) - s) false d 0 (bytes []) (bytes []) 0 0 none [] 0 0 none [] 0 none [] 0 N'
theorem EvL.c {f F:Nat} (h:EvL f F):IvC f F:=fun e d s hd ho hs hf hsF N Q hQ=>tv N d s _ false Q fun E _=>h E Q N s e d N (Nat.le_refl _) hd ho hs hf hsF hQ
theorem zK4 (E:Env) (Q:QT [.ag 9,.int .i64,.int .i64,.bool]) (N:Nat) (x y:Int) (d:D) (N':Nat) (hQ:∀ N'',N'≤N''→Q d x y true N''):zV E Q N x y true d 0 (bytes []) (bytes []) 0 0 none [] 0 0 none [] 0 none [] 0 N':=
 wy _ _ _ _ _ _ _ _ _ _ _ _ _ _ _ _ _ _ _ _ _ _ _ (Br.not (fun h=>by cases h) fun _=>⟨sA,hQ⟩)
theorem zEg {F:Nat} (hF:F≤200):∀ f,EvL f F
 | 0=>fun E Q N s e d N' _ _ _ _ h=>absurd (Tm.dp_pos e) (by omega)
 | f + 1 => by
   have hE:EvL f F:=zEg hF f
   have hI:=hE.c
   intro E Q N s
   induction s using Nat.strongRecOn with
   | ind s ihs=>
   intro e d N' hN' hd ho hs hf hsF hQ
   have hFF:=zKb ho (by omega)
   have hG:=hFF.z.g
   have hd0:=hd
   cases e with
   | mk k nm ot n0 ty re l=>
   obtain ⟨h1,h2,h3⟩:=Tm.ok_mk.1 ho
   obtain ⟨t0,t1,r0,r1,a,es,c,rfl,hh,hlen,hes⟩:=Tm.is_mk.1 hd
   have hl:=hes.len
   have hll:=hG.2.2.1
   refine wy _ _ _ _ _ _ _ _ _ _ _ _ _ _ _ _ _ _ _ _ _ _ _ ?_
   rw [Bool.not_false,zAJ]
   intro N1 hN1
   refine wc hd0 ho hFF.c N1 _ fun N2 hN2 _=>Br.not (fun hr=>⟨_,rfl,Br.beq (fun h10 N3 hN3=>?_) fun h10 N5 hN5=>?_⟩) fun hr=>⟨sA,fun N9 hN9=>?_⟩
   ·-- a quotation
    subst h10
    obtain ⟨b,eb,hbo,_⟩:=zL7 ho
    rw [eb] at hd0 hr hQ hs hf
    rw [zMM hbo hr] at hQ
    have hdn:(Tm.nod 10 [b]).dp=b.dp+1:=by simp [Tm.nod,Tm.dp,w5]
    have hsn:(Tm.nod 10 [b]).sz=1+(b.sz+0):=rfl
    refine zJ7 hF hI hd0 hbo hs hf hsF N3 _ fun d' le us v N4 hN4 hp _ _=>?_
    have ee:∃ w:Tm,w.Is (.ag [.lit (.int .i64 10),.lit (.string nm),.lit (.string ot),.lit (.int .i64 n0),t0,t1,r0,r1,.sl a 9 es c])∧w.ok=true∧w.sz≤1300000:=⟨_,hd0,ql hbo,by omega⟩
    cases hfs:b.fs 1 with
    | none=>
      rw [hfs] at hp hQ
      obtain ⟨rfl,rfl⟩:=hp
      exact zK4 E Q N _ _ _ N4 fun N5 hN5=>hQ _ _ _ _ _ (by omega) ⟨rfl,ee⟩
    | some p=>
      rw [hfs] at hp hQ
      simp only at hp hQ
      cases hc:p.codE (evT f) 1 s with
      | none=>
        rw [hc] at hp hQ
        obtain ⟨rfl,rfl⟩:=hp
        exact zK4 E Q N _ _ _ N4 fun N5 hN5=>hQ _ _ _ _ _ (by omega) ⟨rfl,ee⟩
      | some w=>
        obtain ⟨y,s1⟩:=w
        rw [hc] at hp hQ
        obtain ⟨rfl,rfl,rfl,hd'⟩:=hp
        have hpo:=zO0 hfs hbo
        have hpk:=zQB b 1 p hfs
        obtain ⟨o1,o2,o3,o4⟩:=zCJ (f:=p.dp) (fun e s v s1 _=>uq f e s v s1) p (by omega) hpo _ _ _ _ hc
        have hlt:s1<s∧y.sz≤400:=by
         cases p with
         | mk kp np op mp tp rp lp=>
         have hpk:kp=11:=hpk
         have hl1:=(yv hpo).1 (by omega)
         have hm1:=zG (l:=lp) (i:=0) (by omega)
         simp only [Tm.codE,and_true] at hc
         rw [if_pos hpk] at hc
         cases hev:evT f (lp.getD 0 tm0) s with
         | none=>rw [hev] at hc;cases hc
         | some q=>
           obtain ⟨x,s2⟩:=q
           rw [hev] at hc
           simp only at hc
           have ev:=uq f _ _ _ _ hev ((Tm.ok_mk.1 hpo).1 _ hm1)
           have ev1:=ev.l
           split at hc
           ·obtain ⟨e1,e2,e3⟩:=vg hc
            rw [e1]
            exact ⟨by omega,e3⟩
           ·cases hc
        have hrz:=zLO b 1 p y hfs
        have hsn2:(Tm.nod 10 [b.rpl 1 y]).sz=1+((b.rpl 1 y).sz+0):=rfl
        have hdn2:(Tm.nod 10 [b.rpl 1 y]).dp=(b.rpl 1 y).dp+1:=by simp [Tm.nod,Tm.dp,w5]
        have hdr:=zPm b 1 y
        have hydp:=Tm.dp_sz y
        have hpz:=Tm.sz_pos p
        exact ihs s1 hlt.1 _ d' N4 (by omega) hd' (ql (zOT b 1 y hbo o1)) (by omega) (by omega) (by omega) hQ
   ·-- another form
    rw [zNg hr h10] at hQ
    have hsl:=zOt ho
    refine uj _ _ hd0 hG N5 _ ?_
    intro x4 x5 x6 x7 es' c' N6 hN6 hH hes' _ _ _ N7 hN7
    refine zEX N7 _ fun N8 hN8 _=>?_
    rw [hl]
    have ee:∃ w:Tm,w.Is (.ag [.lit (.int .i64 k),.lit (.string nm),.lit (.string ot),.lit (.int .i64 n0),t0,t1,r0,r1,.sl a 9 es c])∧w.ok=true∧w.sz≤1300000:=⟨_,hd0,ho,by omega⟩
    have key:∀ (j i:Nat) (don:List Tm) (r:List D) (q s' N':Nat),N≤N'→i+j=wA k l.length→don.length=i→All2 Tm.Is (don++l.drop i) r→(∀ y∈don,y.ok=true∧y.res=true)→s'≤s→zH don+400*s'≤zH (l.take i)+400*s →
      (∀ d' le us b N',N≤N'→IvP (match zEW (evT f) ((l.drop i).take j) s' with
       | none=>none
       | some (l1,s1)=>if (Tm.mk k nm ot n0 ty re ((don++l1)++l.drop (wA k l.length))).apl.2=0 then none else match zDf (Tm.mk k nm ot n0 ty re ((don++l1)++l.drop (wA k l.length))).apl.1 s1 with
         | none=>none
         | some (x,s2)=>evT f x s2) F d' le us b→Q d' le us b N') →
      yQ E Q N (wA k l.length:Nat) i s' ((F:Int) - s') false (.ag [.lit (.int .i64 k),.lit (.string nm),.lit (.string ot),.lit (.int .i64 n0),t0,t1,r0,r1,.sl a 9 es c]) 0 (bytes []) (bytes []) 0 0 none [] 0 0 none [] 0 none [] 0 k nm ot n0 x4 x5 x6 x7 r.length q r q N':=by
     intro j
     induction j with
     | zero=>
       intro i don r q s' N' hN' hij hdl hA hdo hs' hz hq
       simp only [List.take_zero,zEW,List.append_nil] at hq
       have hi:i=wA k l.length:=by omega
       subst hi
       have hrl:=hA.len
       have hlen3:(don++l.drop (wA k l.length)).length=l.length:=by
        rw [List.length_append,hdl,List.length_drop];omega
       have hol:=zMd ho (l1:=don) (j:=wA k l.length) (by rw [List.length_take];omega) fun x hx=>(hdo x hx).1
       have h6:=xH (l.take (wA k l.length)) (l.drop (wA k l.length))
       rw [List.take_append_drop] at h6
       have h7:=xH don (l.drop (wA k l.length))
       have h8:(Tm.mk k nm ot n0 ty re (don++l.drop (wA k l.length))).sz=1+zH (don++l.drop (wA k l.length)):=rfl
       have h9:(Tm.mk k nm ot n0 ty re l).sz=1+zH l:=rfl
       have hdpp:=Tm.dp_pos (Tm.mk k nm ot n0 ty re l)
       refine wt _ _ _ _ _ _ _ _ _ _ _ _ _ _ _ _ _ _ _ _ _ _ _ _ _ _ _ _ _ _ _ _ _ _ _ _ _ (Br.dec (fun h=>by omega) fun _=>⟨⟨rfl,rfl⟩,⟨rfl,rfl⟩,fun a2 N4 hN4 _ N5 hN5=>?_⟩)
       have hres:k=12→((don++l.drop (wA k l.length)).getD 0 tm0).res=true:=fun h12=>by
        have hs1:wA k l.length=1:=by unfold wA;rw [if_neg (by omega),if_pos (by omega)]
        rw [hs1] at hdl ⊢
        cases don with
        | nil=>simp at hdl
        | cons x don=>exact (hdo x (by simp)).2
       have hap:=zMe _ (show (Tm.mk k nm ot n0 ty re (don++l.drop (wA k l.length))).sz≤1300000 by omega)
       have hao:=zMV hol
       have hFo:=zKb hol (by omega)
       generalize don++l.drop (wA k l.length)=L at hq hA hlen3 hol hres hap hao hFo hrl
       refine zMD (f:=(Tm.mk k nm ot n0 ty re L).dp) (Tm.is_mk.2 ⟨_,_,_,_,_,_,_,rfl,hH,by omega,hA⟩) (hFo.up (by omega)) hres N5 _ fun dx N6 hN6 hx _ _ N7 hN7=>?_
       by_cases h0:(Tm.mk k nm ot n0 ty re L).apl.2=0
       ·rw [h0]
        rw [if_pos h0] at hq
        exact pL _ _ _ _ N7 _ fun N8 hN8 _=>⟨sA,fun N9 hN9=>hq _ _ _ _ _ (by omega) ⟨rfl,ee⟩⟩
       ·rw [if_neg h0] at hq
        refine zMF hx (by omega) h0 hF (by omega) N7 _ fun v le us b N8 hN8 hc _=>?_
        cases hce:zDf (Tm.mk k nm ot n0 ty re L).apl.1 s' with
        | none=>
          rw [hce] at hc hq
          obtain ⟨rfl,rfl⟩:=hc
          exact ⟨sA,fun N9 hN9=>hq _ _ _ _ _ (by omega) ⟨rfl,ee⟩⟩
        | some w=>
          obtain ⟨y,s2⟩:=w
          obtain ⟨e1,e2,e3⟩:=vg hce
          rw [hce] at hc hq
          subst e1
          obtain ⟨rfl,rfl,rfl,rfl⟩:=hc
          have hdy:=Tm.dp_sz (Tm.mk k nm ot n0 ty re L).apl.1
          exact hE E Q N s2 _ dx N8 (by omega) hx (hao e3) (by omega) (by omega) (by omega) hq
     | succ j ih=>
       intro i don r q s' N' hN' hij hdl hA hdo hs' hz hq
       have hrl:=hA.len
       simp only [List.length_append,List.length_drop] at hrl
       have hlt:i<l.length:=by omega
       have hgi:=zU hlt
       have hmi:=zG hlt
       rw [zIz hgi] at hq
       simp only [zEW] at hq
       have hdm:=Tm.dp_mem (k:=k) (nm:=nm) (ot:=ot) (n:=n0) (ty:=ty) (re:=re) hmi
       have hdr:l.drop i=l.getD i tm0::l.drop (i+1):=by
        obtain ⟨g1,g2⟩:=List.getElem?_eq_some_iff.1 hgi
        rw [List.drop_eq_getElem_cons g1,g2]
       have hst:zH (l.take (i+1))=zH (l.take i)+(l.getD i tm0).sz:=by
        rw [yu hgi,xH];simp [zH]
       have hst2:=xH (l.take (i+1)) (l.drop (i+1))
       rw [List.take_append_drop] at hst2
       have h9:(Tm.mk k nm ot n0 ty re l).sz=1+zH l:=rfl
       have hri:(l.getD i tm0).Is (r.getD i default):=by
        refine hA.get ?_
        rw [hdr,List.getElem?_append_right (by omega),hdl,Nat.sub_self];rfl
       refine wt _ _ _ _ _ _ _ _ _ _ _ _ _ _ _ _ _ _ _ _ _ _ _ _ _ _ _ _ _ _ _ _ _ _ _ _ _ (Br.dec (fun _=>?_) fun h=>absurd (by omega) h)
       rw [Int.toNat_natCast,Nat.zero_add]
       refine ⟨⟨by omega,by omega,by omega⟩,by omega,fun N1 hN1=>hI (l.getD i tm0) _ s' hri (h1 _ hmi) (by omega) (by omega) (by omega) N1 _ fun dx le us b N2 hN2 hp _ _=>⟨⟨by omega,by omega,by omega⟩,by omega,?_⟩⟩
       cases hev:evT f (l.getD i tm0) s' with
       | none=>
         rw [hev] at hp hq
         obtain ⟨rfl,_⟩:=hp
         exact ⟨sA,fun N3 hN3=>hq _ _ _ _ _ (by omega) ⟨rfl,ee⟩⟩
       | some p=>
         obtain ⟨x',s1⟩:=p
         rw [hev] at hp hq
         obtain ⟨rfl,rfl,rfl,hx'⟩:=hp
         have ev:=uq f _ _ _ _ hev (h1 _ hmi)
         have ev1:=ev.l
         have ev2:=ev.z
         have hA2:=xO (j:=i) hA hx'
         have e1:=zIa don (l.getD i tm0) (l.drop (i+1)) x'
         rw [hdl] at e1
         rw [hdr,e1] at hA2
         rw [i64_in _ (by omega),vL]
         have:=ih (i+1) (don++[x']) (r.set i dx) q s1 N2 (by omega) (by omega) (by simp [hdl]) hA2 (fun y hy=>by
          rcases List.mem_append.1 hy with h | h
          ·exact hdo y h
          ·rw [List.mem_singleton] at h;subst h;exact ⟨ev.o,ev.r⟩) (by omega) (by rw [xH,hst];simp only [zH];omega) (fun d' fu st b N' hN' hcc=>hq _ _ _ _ _ hN' (by
          simp only
          cases hx:zEW (evT f) ((l.drop (i+1)).take j) s1 with
          | none=>rw [hx] at hcc;exact hcc
          | some p=>obtain ⟨l',s2⟩:=p;rw [hx] at hcc;simpa using hcc))
         simpa using this
    exact key (wA k l.length) 0 [] es' c' s N8 (by omega) (by omega) rfl hes' (by simp) (Nat.le_refl _) (by simp [zH]) (fun d' fu st b N' hN' hc=>hQ _ _ _ _ _ hN' hc)
   ·simp only [evT] at hQ
    rw [if_pos hr] at hQ
    exact hQ _ _ _ _ _ (by omega) ⟨rfl,rfl,rfl,hd0⟩
/-- what BigStep comes to -/
def zBs (e:Tm) (fu:Int):Tm × Int × Bool:=if (zCj e 0&&inB fu 0 200)=true then (match evT (e.dp+401*fu.toNat) e fu.toNat with
 | none=>(tm0,0,false)
 | some (v,s1)=>(v,fu - s1,true)) else (tm0,0,false)
theorem zDR {e:Tm} {d:D} (he:e.Is d) (hc:e.sz≤1048577) (hcc:e.cnt≤4000000) (fu:Int) (N:Nat) (Q:QT [.ag 9,.int .i64,.bool]) (hQ:∀ d' N',N≤N'→(zBs e fu).1.Is d'→Q d' (zBs e fu).2.1 (zBs e fu).2.2 N'):ACalls prog 28 [.ag 9,.int .i64,.bool] [.dg 9 d,.int .i64 fu] N Q:=by
 have hG:=Tm.G_cnt e (by omega)
 unfold zBs at hQ
 refine zDb N _ fu Q fun _ N1 hN1=>zB4 e d he (by omega) 0 N1 _ fun N2 hN2 _=>Br.not (fun hv N3 hN3=>?_) fun hv N4 hN4=>xv _ _ _ N4 _ fun N5 hN5 _=>Br.not (fun hb N6 hN6=>?_) fun hb N7 hN7=>?_
 ·rw [if_neg (by rw [hv];simp)] at hQ
  exact hQ _ _ (by omega) rv
 ·rw [if_neg (by rw [hv,hb];decide)] at hQ
  exact hQ _ _ (by omega) rv
 rw [if_pos (by rw [hv,hb];rfl)] at hQ
 have hbi:=xC.1 hb
 have hok:e.ok=true:=by unfold zCj at hv;simp at hv;exact hv.1
 refine w4 e d he hG N7 _ ?_
 obtain ⟨F,rfl⟩:∃ F:Nat,fu=(F:Int):=⟨fu.toNat,by omega⟩
 rw [Int.toNat_natCast] at hQ
 cases e with
 | mk k nm ot n0 ty re l=>
 intro x4 x5 x6 x7 es' c' N8 hN8 hh' hes' ho' _ _
 have hl':=hes'.len
 have hgl:=hG.2.2.1
 refine ⟨⟨rfl,rfl⟩,fun a1 N9 hN9 _ N10 hN10=>?_⟩
 have hdx:(Tm.mk k nm ot n0 ty re l).Is (.ag [.lit (.int .i64 k),.lit (.string nm),.lit (.string ot),.lit (.int .i64 n0),x4,x5,x6,x7,.sl a1 9 es' c']):=Tm.is_mk.2 ⟨_,_,_,_,_,_,_,rfl,hh',by omega,hes'⟩
 have:=qD (F:=F) (by omega) _ _ _ F hdx hok (by omega) (Nat.le_refl _) (Nat.le_refl _) N10
 rw [show (F:Int) - (F:Int)=0 by omega] at this
 refine this _ fun d' fu' st b N11 hN11 hp _ _=>?_
 cases hev:evT ((Tm.mk k nm ot n0 ty re l).dp+401*F) (Tm.mk k nm ot n0 ty re l) F with
 | none=>
   rw [hev] at hp hQ
   have hp:b=true:=hp
   subst hp
   exact fun N12 hN12=>hQ _ _ (by omega) rv
 | some w=>
   obtain ⟨v,s1⟩:=w
   rw [hev] at hp hQ
   obtain ⟨rfl,rfl,rfl,hv'⟩:=hp
   have ev:=uq _ _ _ _ _ hev hok
   have ev2:=ev.z
   have hvG:=zPc ev.o (by omega)
   intro N13 hN13
   refine w4 v _ hv' hvG N13 _ ?_
   cases v with
   | mk k2 nm2 ot2 n2 ty2 re2 l2=>
   intro z4 z5 z6 z7 es2 c2 N14 hN14 hh2 hes2 ho2 _ _
   have hl2:=hes2.len
   have hgl2:=hvG.2.2.1
   exact ⟨⟨rfl,rfl⟩,⟨rfl,rfl⟩,fun a2 N15 hN15 _ N16 hN16=>hQ _ _ (by omega) (Tm.is_mk.2 ⟨_,_,_,_,_,_,_,rfl,hh2,by omega,hes2⟩)⟩
theorem zID {N N':Nat}:Own N N' (.ag [.lit (.int .i64 0),.lit (.string (bytes [])),.lit (.string (bytes [])),.lit (.int .i64 0),.lit (.int .i64 0),.sl none 2 [] 0,.lit (.int .i64 0),.sl none 2 [] 0,.sl none 9 [] 0]):=
 ⟨by simp [D.foot,zB],by simp [D.Flat0,xB],by simp [D.foot,zB],by simp [D.foot,zB]⟩
theorem zDL {e:Tm} {d:D} (he:e.Is d) (hc:e.sz≤1048577) (hcc:e.cnt≤4000000) (fu:Int) (N:Nat) (Q:QT [.ag 9,.int .i64,.bool]) (hQ:∀ d' N',N≤N'→(zBs e fu).1.Is d'→Own N N' d'→Q d' (zBs e fu).2.1 (zBs e fu).2.2 N'):ACalls prog 29 [.ag 9,.int .i64,.bool] [.dg 9 d,.int .i64 fu] N Q:=by
 have hG:=Tm.G_cnt e (by omega)
 unfold zBs at hQ
 refine zDz N _ fu Q fun _ N1 hN1=>s8 e d he (by omega) 0 N1 _ fun N2 hN2 _=>Br.not (fun hv N3 hN3=>?_) fun hv N4 hN4=>yq _ _ _ N4 _ fun N5 hN5 _=>Br.not (fun hb N6 hN6=>?_) fun hb N7 hN7=>?_
 ·rw [if_neg (by rw [hv];simp)] at hQ
  exact hQ _ _ (by omega) rv zID
 ·rw [if_neg (by rw [hv,hb];decide)] at hQ
  exact hQ _ _ (by omega) rv zID
 rw [if_pos (by rw [hv,hb];rfl)] at hQ
 have hbi:=xC.1 hb
 have hok:e.ok=true:=by unfold zCj at hv;simp at hv;exact hv.1
 refine uj e d he hG N7 _ ?_
 obtain ⟨F,rfl⟩:∃ F:Nat,fu=(F:Int):=⟨fu.toNat,by omega⟩
 rw [Int.toNat_natCast] at hQ
 cases e with
 | mk k nm ot n0 ty re l=>
 intro x4 x5 x6 x7 es' c' N8 hN8 hh' hes' ho' _ _
 have hl':=hes'.len
 have hgl:=hG.2.2.1
 refine ⟨⟨rfl,rfl⟩,fun a1 N9 hN9 _ N10 hN10=>?_⟩
 have hdx:(Tm.mk k nm ot n0 ty re l).Is (.ag [.lit (.int .i64 k),.lit (.string nm),.lit (.string ot),.lit (.int .i64 n0),x4,x5,x6,x7,.sl a1 9 es' c']):=Tm.is_mk.2 ⟨_,_,_,_,_,_,_,rfl,hh',by omega,hes'⟩
 have:=(zEg (F:=F) (by omega) _).c _ _ F hdx hok (by omega) (Nat.le_refl _) (Nat.le_refl _) N10
 rw [show (F:Int) - (F:Int)=0 by omega] at this
 refine this _ fun d' le us b N11 hN11 hp _ _=>?_
 cases hev:evT ((Tm.mk k nm ot n0 ty re l).dp+401*F) (Tm.mk k nm ot n0 ty re l) F with
 | none=>
   rw [hev] at hp hQ
   obtain ⟨rfl,_⟩:=hp
   exact fun N12 hN12=>hQ _ _ (by omega) rv zID
 | some w=>
   obtain ⟨v,s1⟩:=w
   rw [hev] at hp hQ
   obtain ⟨rfl,rfl,rfl,hv'⟩:=hp
   have ev:=uq _ _ _ _ _ hev hok
   have ev2:=ev.z
   have hvG:=zPc ev.o (by omega)
   intro N13 hN13
   refine uj v _ hv' hvG N13 _ ?_
   cases v with
   | mk k2 nm2 ot2 n2 ty2 re2 l2=>
   intro z4 z5 z6 z7 es2 c2 N14 hN14 hh2 hes2 ho2 _ _
   have hl2:=hes2.len
   have hgl2:=hvG.2.2.1
   exact ⟨⟨rfl,rfl⟩,⟨rfl,rfl⟩,fun a2 N15 hN15 hf N16 hN16=>hQ _ _ (by omega) (Tm.is_mk.2 ⟨_,_,_,_,_,_,_,rfl,hh2,by omega,hes2⟩) ((uS (ho2.mono (by omega) (by omega)) hf (Nat.le_refl _)).mono (Nat.le_refl _) hN16)⟩
theorem zMc (e:Tm) (fu:Int) (hs:e.sz≤1048577):(zBs e fu).1.cnt≤79300000:=by
 unfold zBs
 split
 ·rename_i h
  have hok:e.ok=true:=by unfold zCj at h;simp at h;exact h.1.1
  have hb:inB fu 0 200=true:=by simp at h;exact h.2
  have hb:=xC.1 hb
  cases hev:evT (e.dp+401*fu.toNat) e fu.toNat with
  | none=>simp [tm0,Tm.cnt,zg,Ty.cnt,zJ]
  | some w=>
    obtain ⟨v,s1⟩:=w
    have ev:=uq _ _ _ _ _ hev hok
    have ev2:=ev.z
    have:=zKg v ev.o
    simp only;omega
 ·simp [tm0,Tm.cnt,zg,Ty.cnt,zJ]
end Go.Proofs.YtnpjpplbkoammaaGreatDoor
