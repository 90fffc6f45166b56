/- The law FnExactTypeOf: for all data it answers true. -/
import Derived.Test.YtnpjpplbkoammaaGreatDoorVv
import Derived.Test.YtnpjpplbkoammaaGreatDoorWn
import Derived.Test.YtnpjpplbkoammaaGreatDoorKa
import Derived.Test.YtnpjpplbkoammaaGreatDoorWh
import Derived.Test.YtnpjpplbkoammaaGreatDoorKu
import Derived.Test.YtnpjpplbkoammaaGreatDoorXs
set_option linter.unusedVariables false
set_option linter.unusedSimpArgs false
namespace Go.Proofs.YtnpjpplbkoammaaGreatDoor
open Go Go.Proofs Go.Proofs.Tryz Go.IntWalk
mutual
theorem zMv:∀ (t:Ty) (k:Int),(zKL t k).1.cnt=t.cnt
 | .mk kk l,k=>by simp only [zKL,Ty.cnt,sT l]
theorem sT:∀ (l:List Ty) (k:Int),zG (zM l k).1=zG l
 | [],k=>rfl
 | t::ts,k=>by simp only [zM,zG,zMv t,sT ts]
end
theorem Own.tree {N N':Nat} {d:D} (h:Own N N' d):Tree d:=⟨h.nd,h.fl⟩
theorem Own.low {N N' M:Nat} {d:D} (h:Own N N' d) (hM:M≤N):Low M d:=⟨fun b hb=>Nat.le_trans hM (h.lo b hb)⟩
/-- blocks below a bound and blocks from it on -/
theorem zBK {N N':Nat} {d x:D} (h:Own N N' d) (hx:Bel N x):∀ b∈d.foot,b∉x.foot:=fun b hb hc=>by
 have:=h.lo b hb;have:=hx b hc;omega
theorem zMM {N N' M M':Nat} {d x:D} (h:Own N N' d) (hx:Own M M' x) (hM:N'≤M):∀ b∈d.foot,b∉x.foot:=fun b hb hc=>by
 have:=h.hi b hb;have:=hx.lo b hc;omega
theorem Bel.mono {N M:Nat} {x:D} (h:Bel N x) (hM:N≤M):Bel M x:=fun b hb=>Nat.lt_of_lt_of_le (h b hb) hM
theorem zJE (l:List Ty) (k:Int) (es:List D) (a:Option Addr) (c:Nat) (hes:All2 Ty.Is (zM l k).1 es) (hlen:es.length≤4611686018427387904) (h0:0≤k) (h1:k+zG l≤4611686018427387904):zAa 84 [.sv a 2 es c,.int .i64 k] (zM l k).2:=by
 have h:=zCH (.mk 0 (zM l k).1) es a c hes hlen k h0 (by simp only [Ty.as,sT];exact h1)
 simp only [Ty.as,zEn l k h0] at h
 exact h
theorem zHL:∀ (t:Tm) (k:Int) (es:List D) (a:Option Addr) (c:Nat),All2 Tm.Is (yQ t.as k).1 es→es.length≤4611686018427387904→0≤k→k+4*zX t.as≤4611686018427387904→zAa 47 [.sv a 9 es c,.int .i64 k] (yQ t.as k).2:=by
 refine Tm.ind fun kk nm ot n ty re l ih k es a c hes hlen h0 h1 N Q hQ=>?_
 simp only [Tm.as] at hes hQ h1
 have hl:=hes.len
 rw [zHf] at hl
 refine zAp N a es c k Q fun _=>?_
 have key:∀ (xs:List Tm) (i:Nat) (m:Int) (N':Nat),N≤N'→(∀ x∈xs,x∈l)→i+xs.length=es.length→(yQ l k).1.drop i=(yQ xs m).1→(yQ xs m).2=(yQ l k).2→0≤m→m+4*zX xs≤4611686018427387904→ym Q N a es c m i N':=by
  intro xs
  induction xs with
  | nil=>
    intro i m N' hN' _ hi hd hk hm _
    refine v6 _ _ _ _ _ _ _ _ (Br.dec (fun h=>?_) fun _ N1 hN1=>?_)
    ·simp at hi;omega
    ·simp only [yQ] at hk;exact Qi (hQ _ (by omega)) hk.symm
  | cons x ts ihx=>
    intro i m N' hN' hmem hi hd hk hm hb
    cases x with
    | mk kx nx ox n_x tyx rex lx=>
    obtain ⟨tk,tl⟩:=tyx
    obtain ⟨rk,rl⟩:=rex
    have hx:=ih (.mk kx nx ox n_x (.mk tk tl) (.mk rk rl) lx) (hmem _ (by simp))
    simp only [Tm.as] at hx
    simp only [yQ,Ty.as] at hd hk
    simp only [zX,Tm.cnt,Ty.cnt] at hb
    simp only [List.length_cons] at hi
    have hkT:=xg tl (m+1+1+1+1+1)
    generalize hT:zM tl (m+1+1+1+1+1)=mT at hd hk hkT
    have hkR:=xg rl (mT.2+1)
    generalize hR:zM rl (mT.2+1)=mR at hd hk hkR
    have hkA:=pQ lx mR.2
    generalize hA:yQ lx mR.2=mA at hd hk hkA
    have hg:(yQ l k).1[i]?=some (Tm.mk m (u7 (m+1)) (u7 (m+1+1)) (m+1+1+1) (.mk (m+1+1+1+1) mT.1) (.mk mT.2 mR.1) mA.1):=by
     have:=congrArg (fun u=>u[0]?) hd
     simpa using this
    have hr:=hes.get hg
    obtain ⟨t0,t1,r0,r1,a2,es2,c2,hd2,hh,hlen2,hes2⟩:=Tm.is_mk.1 hr
    obtain ⟨kT,lT,aT,esT,cT,eT,rfl,rfl,hlenT,hesT⟩:=Ty.is_two hh.ty
    obtain ⟨kR,lR,aR,esR,cR,eR,rfl,rfl,hlenR,hesR⟩:=Ty.is_two hh.re
    injection eT with eT1 eT2
    injection eR with eR1 eR2
    subst eT1;subst eT2;subst eR1;subst eR2
    have hlt:(i:Int)<(es.length:Int):=by omega
    have B:(0:Int)≤(i:Int)∧(i:Int)<(es.length:Int):=⟨by omega,hlt⟩
    refine v6 _ _ _ _ _ _ _ _ ?_
    rw [i64_in (m+1) (by omega),i64_in (m+1+1) (by omega),i64_in (m+1+1+1) (by omega),i64_in (m+1+1+1+1) (by omega),i64_in (m+1+1+1+1+1) (by omega),i64_in ((i:Int)+1) (by omega)]
    rw [Int.toNat_natCast,hd2]
    refine Br.dec (fun _=>?_) fun h=>absurd hlt h
    refine ⟨B,_,rfl,Br.bne (fun h=>absurd rfl h) fun _=>⟨B,_,rfl,fun N2 hN2=>?_⟩⟩
    refine uw (m+1) (by omega) (by omega) N2 _ fun N3 hN3 _=>Br.nstr (fun h=>absurd rfl h) fun _=>⟨B,_,rfl,fun N5 hN5=>?_⟩
    refine uw (m+1+1) (by omega) (by omega) N5 _ fun N6 hN6 _=>Br.nstr (fun h=>absurd rfl h) fun _=>⟨B,_,rfl,Br.bne (fun h=>absurd rfl h) fun _=>⟨B,_,rfl,Br.bne (fun h=>absurd rfl h) fun _=>⟨B,_,_,_,rfl,fun N10 hN10=>?_⟩⟩⟩
    have hcT:=zJE tl (m+1+1+1+1+1) esT aT cT (by rw [hT];exact vA hesT) hlenT (by omega) (by omega)
    rw [hT] at hcT
    refine hcT N10 _ fun N11 hN11 _=>Br.dec (fun h=>by omega) fun _=>⟨B,_,rfl,Br.bne (fun h=>absurd rfl h) fun _=>⟨B,_,_,_,rfl,fun N14 hN14=>?_⟩⟩
    rw [i64_in (mT.2+1) (by omega)]
    have hcR:=zJE rl (mT.2+1) esR aR cR (by rw [hR];exact vA hesR) hlenR (by omega) (by omega)
    rw [hR] at hcR
    refine hcR N14 _ fun N15 hN15 _=>Br.dec (fun h=>by omega) fun _=>⟨B,_,_,_,rfl,fun N17 hN17=>?_⟩
    have hcA:=hx mR.2 es2 a2 c2 (by rw [hA];exact hes2) hlen2 (by omega) (by omega)
    rw [hA] at hcA
    refine hcA N17 _ fun N18 hN18 _=>Br.dec (fun h=>by omega) fun _=>?_
    refine ihx (i+1) mA.2 N18 (by omega) (fun x hx=>hmem x (by simp [hx])) (by omega) ?_ hk (by omega) (by omega)
    have:=congrArg (List.drop 1) hd
    simpa [List.drop_drop,Nat.add_comm] using this
 exact key l 0 k N (Nat.le_refl _) (fun x h=>h) (by omega) (by simp) rfl h0 h1
theorem zHw (t:Tm) (k:Int) (d:D) (hd:(t.mkd k).Is d) (h0:0≤k) (h1:k+4*t.cnt≤4611686018427387904):zAa 15 [.dg 9 d,.int .i64 k] (t.mkk k):=fun N Q hQ=>by
 obtain ⟨kk,nm,ot,n,⟨tk,tl⟩,⟨rk,rl⟩,l⟩:=t
 simp only [Tm.mkd,Tm.mkk,Ty.as,Ty.k] at hd hQ
 simp only [Tm.cnt,Ty.cnt] at h1
 have hkT:=xg tl k
 generalize hT:zM tl k=mT at hd hQ hkT
 have hkR:=xg rl mT.2
 generalize hR:zM rl mT.2=mR at hd hQ hkR
 have hkA:=pQ l mR.2
 obtain ⟨t0,t1,r0,r1,a2,es2,c2,rfl,hh,hlen2,hes2⟩:=Tm.is_mk.1 hd
 obtain ⟨kT,lT,aT,esT,cT,eT,rfl,rfl,hlenT,hesT⟩:=Ty.is_two hh.ty
 obtain ⟨kR,lR,aR,esR,cR,eR,rfl,rfl,hlenR,hesR⟩:=Ty.is_two hh.re
 injection eT with eT1 eT2
 injection eR with eR1 eR2
 subst eT1;subst eT2;subst eR1;subst eR2
 have hcT:zG mT.1=zG tl:=by rw [←hT];exact sT tl k
 have hcR:zG mR.1=zG rl:=by rw [←hR];exact sT rl _
 have hmT:uR mT.1 k=mT.2:=by rw [←hT];exact zEn tl k h0
 have hmR:uR mR.1 mT.2=mR.2:=by rw [←hR];exact zEn rl _ (by omega)
 refine zBa N _ k Q fun _ N1 hN1=>?_
 have h2:=zEQ (kk:=tk) (a:=aT) (c:=cT) hesT hlenT k h0 (by omega)
 rw [hmT] at h2
 refine h2 N1 _ fun N2 hN2 _=>Br.dec (fun h=>by omega) fun _ N4 hN4=>?_
 have h3:=zEQ (kk:=rk) (a:=aR) (c:=cR) hesR hlenR mT.2 (by omega) (by omega)
 rw [hmR] at h3
 refine h3 N4 _ fun N5 hN5 _=>Br.dec (fun h=>by omega) fun _=>⟨_,_,_,rfl,fun N7 hN7=>?_⟩
 refine zHL (.mk 0 (bytes []) (bytes []) 0 (.mk 0 []) (.mk 0 []) l) mR.2 es2 a2 c2 hes2 hlen2 (by omega) (by simp only [Tm.as];omega) N7 _ fun N8 hN8 _=>Br.dec (fun h=>by simp only [Tm.as] at h;omega) fun _ N10 hN10=>?_
 exact hQ _ (by omega)
theorem zM4 {s:ByteArray} (h:¬s=bytes [42]):y9 s=0:=if_neg h
theorem zDe:OpC:=by
 intro n0 nm ot ty re l d hd hW N Q hQ
 have hd0:=hd
 have hop:=hW.k.1.o rfl
 have har:=hW.k.1.ar.2.2.2.2.2 rfl
 have hl2:=zIO nm
 have hcall:=zKP hd0 hop (by omega) (fun x hx h=>by
  have hw:=(zt.1 hW.k.2 x hx)
  cases x with
  | mk k nm ot n ty re l=>
  rcases h with h | h
  ·exact hw.1.i h
  ·have:=hw.1.b h
   simp only [Tm.no];omega)
 have ar2:∀ s,(s=bytes [43]∨s=bytes [42]∨s=bytes [45])→zCx s=2:=by
  rintro s (rfl | rfl | rfl)<;>decide +kernel
 have two:(nm=bytes [43]∨nm=bytes [42]∨nm=bytes [45])→l.length=2:=fun h=>by have:=ar2 nm h;omega
 obtain ⟨t0,t1,r0,r1,a,es,c,rfl,hh,hlen,hes⟩:=Tm.is_mk.1 hd
 have hl:=hes.len
 unfold zGk at hQ
 refine rv N _ Q fun _ N1 hN1=>hcall N1 _ fun x N2 hN2 hx _ _=>Br.of (fun hv N3 hN3=>?_) fun hv=>zLH hh.nm N2 fun N3 hN3=>?_
 ·rw [if_pos hv] at hQ
  exact hQ _ _ (by omega) hx
 rw [if_neg (by rw [hv];decide)] at hQ
 refine sC _ _ _ _ _ _ _ _ _ _ _ _ _ _ _ _ _ _ _ _ _ ?_
 have p0:l.length=2→(l.getD 0 tm0).Is (es.getD 0 default):=fun h=>zP hes (by omega)
 have p1:l.length=2→(l.getD 1 tm0).Is (es.getD 1 default):=fun h=>zP hes (by omega)
 refine Br.not (fun hb N4 hN4=>?_) fun hb=>⟨_,rfl,Br.nstr (fun h45=>?_) fun h45=>?_⟩
 ·simp only [xc,Bool.or_eq_false_iff,decide_eq_false_iff_not] at hb
  rw [if_neg (fun h=>h.elim (fun h=>hb.2.1 h.1) fun h=>hb.1 h.1),if_neg (fun h=>h.elim (fun h=>hb.2.1 h.1) fun h=>h.elim (fun h=>hb.1 h.1) fun h=>hb.2.2 h.1)] at hQ
  exact hQ _ _ (by omega) hd0
 ·have h2:l.length=2:=two (by
   simp only [xc,Bool.or_eq_true,decide_eq_true_iff] at hb
   rcases hb with h | h | h
   ·exact .inr (.inl h)
   ·exact .inl h
   ·exact .inr (.inr h))
  have hc1:((nm=bytes [43]∧(l.getD 0 tm0).isI 0=true)∨(nm=bytes [42]∧(l.getD 0 tm0).isI 1=true))↔(l.getD 0 tm0).isI (y9 nm)=true:=by
   by_cases h42:nm=bytes [42]
   ·rw [h42]
    exact ⟨fun h=>h.elim (fun h=>absurd h.1 (by decide)) (·.2),fun h=>.inr ⟨rfl,h⟩⟩
   ·have h43:nm=bytes [43]:=by
     simp only [xc,Bool.or_eq_true,decide_eq_true_iff] at hb
     exact (hb.resolve_left h42).resolve_right h45
    rw [h43]
    exact ⟨fun h=>h.elim (·.2) (fun h=>absurd h.1 (by decide)),fun h=>.inl ⟨rfl,h⟩⟩
  have hc2:((nm=bytes [43]∧(l.getD 1 tm0).isI 0=true)∨(nm=bytes [42]∧(l.getD 1 tm0).isI 1=true)∨(nm=bytes [45]∧(l.getD 1 tm0).isI 0=true))↔(l.getD 1 tm0).isI (y9 nm)=true:=by
   by_cases h42:nm=bytes [42]
   ·rw [h42]
    exact ⟨fun h=>by
     rcases h with h | h | h
     ·exact absurd h.1 (by decide)
     ·exact h.2
     ·exact absurd h.1 (by decide),fun h=>.inr (.inl ⟨rfl,h⟩)⟩
   ·have h43:nm=bytes [43]:=by
     simp only [xc,Bool.or_eq_true,decide_eq_true_iff] at hb
     exact (hb.resolve_left h42).resolve_right h45
    rw [h43]
    exact ⟨fun h=>by
     rcases h with h | h | h
     ·exact h.2
     ·exact absurd h.1 (by decide)
     ·exact absurd h.1 (by decide),fun h=>.inl ⟨rfl,h⟩⟩
  refine ⟨_,_,_,rfl,⟨by omega,by omega⟩,fun N4 hN4=>zIM _ _ (p0 h2) _ N4 _ fun N5 hN5 _=>Br.of (fun hi=>⟨_,_,_,rfl,⟨by omega,by omega⟩,fun N6 hN6=>?_⟩) fun hi=>⟨_,_,_,rfl,⟨by omega,by omega⟩,fun N6 hN6=>zIM _ _ (p1 h2) _ N6 _ fun N7 hN7 _=>Br.of (fun hj=>⟨_,_,_,rfl,⟨by omega,by omega⟩,fun N8 hN8=>?_⟩) fun hj N8 hN8=>?_⟩⟩
  ·rw [if_pos (hc1.2 hi)] at hQ
   exact hQ _ _ (by omega) (p1 h2)
  ·rw [if_neg (fun h=>by rw [hc1.1 h] at hi;cases hi),if_pos (hc2.2 hj)] at hQ
   exact hQ _ _ (by omega) (p0 h2)
  ·rw [if_neg (fun h=>by rw [hc1.1 h] at hi;cases hi),if_neg (fun h=>by rw [hc2.1 h] at hj;cases hj)] at hQ
   exact hQ _ _ (by omega) hd0
 ·have h2:l.length=2:=two (.inr (.inr h45))
  have hn:y9 nm=0:=zM4 (by rw [h45];decide)
  rw [hn]
  rw [if_neg (by rintro (⟨h,_⟩ | ⟨h,_⟩)<;>exact absurd (h.symm.trans h45) (by decide))] at hQ
  have hc2:((nm=bytes [43]∧(l.getD 1 tm0).isI 0=true)∨(nm=bytes [42]∧(l.getD 1 tm0).isI 1=true)∨(nm=bytes [45]∧(l.getD 1 tm0).isI 0=true))↔(l.getD 1 tm0).isI 0=true:=by
   rw [h45]
   exact ⟨fun h=>by
    rcases h with h | h | h
    ·exact absurd h.1 (by decide)
    ·exact absurd h.1 (by decide)
    ·exact h.2,fun h=>.inr (.inr ⟨rfl,h⟩)⟩
  refine ⟨_,_,_,rfl,⟨by omega,by omega⟩,fun N4 hN4=>zIM _ _ (p1 h2) _ N4 _ fun N5 hN5 _=>Br.of (fun hi=>⟨_,_,_,rfl,⟨by omega,by omega⟩,fun N6 hN6=>?_⟩) fun hi N6 hN6=>?_⟩
  ·rw [if_pos (hc2.2 hi)] at hQ
   exact hQ _ _ (by omega) (p0 h2)
  ·rw [if_neg (fun h=>by rw [hc2.1 h] at hi;cases hi)] at hQ
   exact hQ _ _ (by omega) hd0
/-- the law FnExactSimplify: for all data it answers true -/
theorem zHQ {t:Tm} {d:D} (he:t.Is d) (N:Nat) :
  ACalls prog 8 [.bool] [.dg 9 d] N (fun r _=>r=true):=by
 refine tW N d _ fun hB1 N4 hN4=>?_
 refine zMz t d he 1048576 (by omega) (by omega) N4 _ fun r2 N5 hN5 hr2 _=>Br.dec (fun _ N6 _=>rfl) fun hneg2 N7 hN7=>?_
 obtain ⟨hq0,hq1,hcn⟩:=hr2.resolve_left (by omega)
 have hcn:t.cnt≤3145731:=by omega
 have hcn2:t.cnt≤1073741824:=by omega
 clear hr2
 refine zBJ t d he hcn2 N7 _ fun d1 N10 hN10 he1 own2 _ _ N11 hN11=>?_
 have hoc:=(zBc t).n
 have hSpec:=zCZ he1 (by omega)
 have hImpl:=fun (d2:D) (he2:t.Is d2)=>zCo zDe he2 (by omega:t.cnt≤4000000)
 generalize t.simplify=o at hSpec hImpl hoc
 refine hSpec N11 _ fun w0 N12 hN12 hw0 _ hBw N13 hN13=>?_
 refine zBJ t d he hcn2 N13 _ fun d2 N16 hN16 he2 own4 _ _ N17 hN17=>?_
 refine hImpl d2 he2 N17 _ fun g0 N18 hN18 hg0 own5 _ _ N19 hN19=>?_
 refine zBN o g0 w0 hg0 hw0 N19 _ fun N20 hN20 _=>Br.of (fun h=>by simp at h) fun _ N23 hN23=>?_
 refine zBJ t d he hcn2 N23 _ fun d4 N29 hN29 he4 _ _ _ N30 hN30=>?_
 refine zBN t d2 d4 he2 he4 N30 _ fun N31 hN31 _=>Br.of (fun h=>by simp at h) fun _=>?_
 have B1:∀ M,N≤M→Bel M d:=fun M h=>hB1.mono h
 have d54:=zMM own4 own5 (by omega)
 refine ⟨own4.tree,own4.low (by omega),rfl,⟨fun x hx=>?_⟩,fun N35 hN35=>?_⟩
 ·simp only [List.mem_cons,List.not_mem_nil,or_false] at hx
  rcases hx with rfl | rfl | rfl
  ·exact zBK own4 (B1 _ (by omega))
  ·exact zBK own4 (hBw.mono (by omega))
  ·exact d54
 refine zJ8 he2 own4.tree 1 (by omega) (by omega) N35 _ fun d6 k6 N36 hN36 hf6 hk6 hk6' _=>Br.dec (fun h=>by omega) fun _ N38 hN38=>?_
 refine zBN o g0 w0 hg0 hw0 N38 _ fun N39 hN39 _=>Br.of (fun h=>by simp at h) fun _=>?_
 refine ⟨own5.tree,own5.low (by omega),rfl,⟨fun x hx=>?_⟩,fun N42 hN42=>?_⟩
 ·simp only [List.mem_cons,List.not_mem_nil,or_false] at hx
  rcases hx with rfl | rfl | rfl
  ·exact zBK own5 (B1 _ (by omega))
  ·exact zBK own5 (hBw.mono (by omega))
  ·rw [hf6];exact fun b hb hc=>d54 b hc hb
 refine zCW hg0 own5.tree 1 (by omega) (by omega) N42 _ fun g1 N43 hN43 hg1 hfg _ N44 hN44=>?_
 have hkk:=o.mkk_k 1
 have hheld:=zHw o 1 g1 hg1 (by omega) (by omega)
 refine hheld N44 _ fun N45 hN45 _=>Br.dec (fun h=>by omega) fun _=>Br.bne (fun h=>absurd rfl h) fun _ N48 hN48=>?_
 refine zBJ t d he hcn2 N48 _ fun d7 N51 hN51 he7 _ _ _ N52 hN52=>?_
 refine hImpl d7 he7 N52 _ fun g2 N53 hN53 hg2 _ _ _ N54 hN54=>?_
 refine zBN o g2 w0 hg2 hw0 N54 _ fun N55 hN55 _=>Br.of (fun h=>by simp at h) fun _ N58 hN58=>?_
 exact hheld N58 _ fun N59 hN59 _=>Br.dec (fun h=>by omega) fun _=>Br.bne (fun h=>absurd rfl h) fun _ N62 hN62=>rfl
end Go.Proofs.YtnpjpplbkoammaaGreatDoor
