/- The law FnExactTypeOf: for all data it answers true. -/
import Derived.Test.YtnpjpplbkoammaaGreatVv
import Derived.Test.YtnpjpplbkoammaaGreatWn
import Derived.Test.YtnpjpplbkoammaaGreatKa
import Derived.Test.YtnpjpplbkoammaaGreatWh
import Derived.Test.YtnpjpplbkoammaaGreatKu
set_option linter.unusedVariables false
set_option linter.unusedSimpArgs false
namespace Go.Proofs.YtnpjpplbkoammaaGreat
open Go Go.Proofs Go.Proofs.Tryz Go.IntWalk
mutual
theorem zO0:∀ (t:Ty) (k:Int),(zLW t k).1.cnt=t.cnt
 | .mk kk l,k=>by simp only [zLW,Ty.cnt,zDy l]
theorem zDy:∀ (l:List Ty) (k:Int),zO (za l k).1=zO l
 | [],k=>rfl
 | t::ts,k=>by simp only [za,zO,zO0 t,zDy ts]
end
theorem Own.tree {N N':Nat} {d:D} (h:Own N N' d):Tree d:=⟨h.nd,h.fl⟩
theorem Own.low {N N' M:Nat} {d:D} (h:Own N N' d) (hM:M≤N):Low M d:=⟨fun b hb=>Nat.le_trans hM (h.lo b hb)⟩
/-- blocks below a bound and blocks from it on -/
theorem uC {N N':Nat} {d x:D} (h:Own N N' d) (hx:Bel N x):∀ b∈d.foot,b∉x.foot:=fun b hb hc=>by
 have:=h.lo b hb;have:=hx b hc;omega
theorem zG7 {N N' M M':Nat} {d x:D} (h:Own N N' d) (hx:Own M M' x) (hM:N'≤M):∀ b∈d.foot,b∉x.foot:=fun b hb hc=>by
 have:=h.hi b hb;have:=hx.lo b hc;omega
theorem Bel.mono {N M:Nat} {x:D} (h:Bel N x) (hM:N≤M):Bel M x:=fun b hb=>Nat.lt_of_lt_of_le (h b hb) hM
theorem zKh (l:List Ty) (k:Int) (es:List D) (a:Option Addr) (c:Nat) (hes:All2 Ty.Is (za l k).1 es) (hlen:es.length≤4611686018427387904) (h0:0≤k) (h1:k+zO l≤4611686018427387904):pe 44 [.sv a 2 es c,.int .i64 k] (za l k).2:=by
 have h:=zKR (.mk 0 (za l k).1) es a c hes hlen k h0 (by simp only [Ty.as,zDy];exact h1)
 simp only [Ty.as,zLC l k h0] at h
 exact h
theorem zIc:∀ (t:Tm) (k:Int) (es:List D) (a:Option Addr) (c:Nat),All2 Tm.Is (yw t.as k).1 es→es.length≤4611686018427387904→0≤k→k+4*yM t.as≤4611686018427387904→pe 16 [.sv a 9 es c,.int .i64 k] (yw t.as k).2:=by
 refine Tm.ind fun kk nm ot n ty re l ih k es a c hes hlen h0 h1 N Q hQ=>?_
 simp only [Tm.as] at hes hQ h1
 have hl:=hes.len
 rw [zI4] at hl
 refine zC6 N a es c k Q fun _=>?_
 have key:∀ (xs:List Tm) (i:Nat) (m:Int) (N':Nat),N≤N'→(∀ x∈xs,x∈l)→i+xs.length=es.length→(yw l k).1.drop i=(yw xs m).1→(yw xs m).2=(yw l k).2→0≤m→m+4*yM xs≤4611686018427387904→xc Q N a es c m i N':=by
  intro xs
  induction xs with
  | nil=>
    intro i m N' hN' _ hi hd hk hm _
    refine tI _ _ _ _ _ _ _ _ (Br.dec (fun h=>?_) fun _ N1 hN1=>?_)
    ·simp at hi;omega
    ·simp only [yw] at hk;exact Qi (hQ _ (by omega)) hk.symm
  | cons x ts ihx=>
    intro i m N' hN' hmem hi hd hk hm hb
    cases x with
    | mk kx nx ox n_x tyx rex lx=>
    obtain ⟨tk,tl⟩:=tyx
    obtain ⟨rk,rl⟩:=rex
    have hx:=ih (.mk kx nx ox n_x (.mk tk tl) (.mk rk rl) lx) (hmem _ (by simp))
    simp only [Tm.as] at hx
    simp only [yw,Ty.as] at hd hk
    simp only [yM,Tm.cnt,Ty.cnt] at hb
    simp only [List.length_cons] at hi
    have hkT:=wz tl (m+1+1+1+1+1)
    generalize hT:za tl (m+1+1+1+1+1)=mT at hd hk hkT
    have hkR:=wz rl (mT.2+1)
    generalize hR:za rl (mT.2+1)=mR at hd hk hkR
    have hkA:=zB8 lx mR.2
    generalize hA:yw lx mR.2=mA at hd hk hkA
    have hg:(yw l k).1[i]?=some (Tm.mk m (sS (m+1)) (sS (m+1+1)) (m+1+1+1) (.mk (m+1+1+1+1) mT.1) (.mk mT.2 mR.1) mA.1):=by
     have:=congrArg (fun u=>u[0]?) hd
     simpa using this
    have hr:=hes.get hg
    obtain ⟨t0,t1,r0,r1,a2,es2,c2,hd2,hh,hlen2,hes2⟩:=Tm.is_mk.1 hr
    obtain ⟨kT,lT,aT,esT,cT,eT,rfl,rfl,hlenT,hesT⟩:=Ty.is_two hh.ty
    obtain ⟨kR,lR,aR,esR,cR,eR,rfl,rfl,hlenR,hesR⟩:=Ty.is_two hh.re
    injection eT with eT1 eT2
    injection eR with eR1 eR2
    subst eT1;subst eT2;subst eR1;subst eR2
    have hlt:(i:Int)<(es.length:Int):=by omega
    have B:(0:Int)≤(i:Int)∧(i:Int)<(es.length:Int):=⟨by omega,hlt⟩
    refine tI _ _ _ _ _ _ _ _ ?_
    rw [i64_in (m+1) (by omega),i64_in (m+1+1) (by omega),i64_in (m+1+1+1) (by omega),i64_in (m+1+1+1+1) (by omega),i64_in (m+1+1+1+1+1) (by omega),i64_in ((i:Int)+1) (by omega)]
    rw [Int.toNat_natCast,hd2]
    refine Br.dec (fun _=>?_) fun h=>absurd hlt h
    refine ⟨B,_,rfl,Br.bne (fun h=>absurd rfl h) fun _=>⟨B,_,rfl,fun N2 hN2=>?_⟩⟩
    refine sd (m+1) (by omega) (by omega) N2 _ fun N3 hN3 _=>Br.nstr (fun h=>absurd rfl h) fun _=>⟨B,_,rfl,fun N5 hN5=>?_⟩
    refine sd (m+1+1) (by omega) (by omega) N5 _ fun N6 hN6 _=>Br.nstr (fun h=>absurd rfl h) fun _=>⟨B,_,rfl,Br.bne (fun h=>absurd rfl h) fun _=>⟨B,_,rfl,Br.bne (fun h=>absurd rfl h) fun _=>⟨B,_,_,_,rfl,fun N10 hN10=>?_⟩⟩⟩
    have hcT:=zKh tl (m+1+1+1+1+1) esT aT cT (by rw [hT];exact tO hesT) hlenT (by omega) (by omega)
    rw [hT] at hcT
    refine hcT N10 _ fun N11 hN11 _=>Br.dec (fun h=>by omega) fun _=>⟨B,_,rfl,Br.bne (fun h=>absurd rfl h) fun _=>⟨B,_,_,_,rfl,fun N14 hN14=>?_⟩⟩
    rw [i64_in (mT.2+1) (by omega)]
    have hcR:=zKh rl (mT.2+1) esR aR cR (by rw [hR];exact tO hesR) hlenR (by omega) (by omega)
    rw [hR] at hcR
    refine hcR N14 _ fun N15 hN15 _=>Br.dec (fun h=>by omega) fun _=>⟨B,_,_,_,rfl,fun N17 hN17=>?_⟩
    have hcA:=hx mR.2 es2 a2 c2 (by rw [hA];exact hes2) hlen2 (by omega) (by omega)
    rw [hA] at hcA
    refine hcA N17 _ fun N18 hN18 _=>Br.dec (fun h=>by omega) fun _=>?_
    refine ihx (i+1) mA.2 N18 (by omega) (fun x hx=>hmem x (by simp [hx])) (by omega) ?_ hk (by omega) (by omega)
    have:=congrArg (List.drop 1) hd
    simpa [List.drop_drop,Nat.add_comm] using this
 exact key l 0 k N (Nat.le_refl _) (fun x h=>h) (by omega) (by simp) rfl h0 h1
theorem zIX {N N1 N2:Nat} {es fs:List D} (h1:OwnL N1 N2 es) (h2:OwnL N N1 fs) (hN:N≤N1) (hN2:N1≤N2):OwnL N N2 (es++fs):=by
 refine ⟨?_,xv h1.fl h2.fl,fun b hb=>?_,fun b hb=>?_⟩
 ·rw [zF,List.nodup_append]
  refine ⟨h1.nd,h2.nd,fun a ha b hb hab=>?_⟩
  have:=h1.lo a ha;have:=h2.hi b hb;omega
 ·rw [zF] at hb
  rcases List.mem_append.1 hb with hb | hb
  ·have:=h1.lo b hb;omega
  ·exact h2.lo b hb
 ·rw [zF] at hb
  rcases List.mem_append.1 hb with hb | hb
  ·exact h1.hi b hb
  ·have:=h2.hi b hb;omega
theorem zOz {a:Option Addr} {z c:Nat} {es:List D} (h:(zB es).Nodup) (ha:∀ ad,a=some ad→ad.block∉zB es):(D.sl a z es c).foot.Nodup:=by
 cases a with
 | none=>simpa only [D.foot] using h
 | some ad=>
   simp only [D.foot]
   split
   ·exact List.nodup_nil
   ·exact List.nodup_cons.2 ⟨ha ad rfl,h⟩
/-- a copied part goes behind the others -/
theorem zM3 {N0 N1 N2 N3:Nat} {hd r xs es:List D} {l0 l1 l2 l3:Value} {a:Option Addr} {c:Nat} {ds:List D} (h1:OwnL N0 N1 (hd++r)) (h2:OwnL N1 N2 (xs++es)) (hf:Fresh N0 N3 a ds) (g1:N0≤N1) (g2:N1≤N2) (g3:N2≤N3)
  (d1:∀ ad,a=some ad→ad.block∉zB (hd++r)) (d2:∀ ad,a=some ad→ad.block∉zB (xs++es)):OwnL N0 N3 (hd++(r++[.ag (.lit l0::.lit l1::.lit l2::.lit l3::(xs++[.sl a 9 es c]))])):=by
 have hn1:=h1.nd
 have hn2:=h2.nd
 rw [zF] at hn1 hn2
 have e:zB (hd++(r++[.ag (.lit l0::.lit l1::.lit l2::.lit l3::(xs++[.sl a 9 es c]))]))=zB (hd++r)++(zB xs++(D.sl a 9 es c).foot):=by
  simp only [zF,zB,D.foot,List.nil_append,List.append_nil,List.append_assoc]
 have hfl1:=h1.fl
 have hfl2:=h2.fl
 have hbs:∀ b,b∈(D.sl a 9 es c).foot→b∈zB (xs++es)∨∃ ad,a=some ad∧b=ad.block:=fun b hb=>by
  rcases s4 b hb with h | h
  ·left;rw [zF];exact List.mem_append_right _ h
  ·exact .inr h
 refine ⟨?_,?_,fun b hb=>?_,fun b hb=>?_⟩
 ·rw [e,List.nodup_append]
  refine ⟨h1.nd,?_,fun x hx y hy hxy=>?_⟩
  ·rw [List.nodup_append] at hn2 ⊢
   refine ⟨hn2.1,zOz hn2.2.1 fun ad h hc=>d2 ad h (by rw [zF];exact List.mem_append_right _ hc),fun x hx y hy hxy=>?_⟩
   subst hxy
   rcases s4 x hy with h | ⟨ad,h9,h'⟩
   ·exact hn2.2.2 x hx x h rfl
   ·subst h';exact d2 ad h9 (by rw [zF];exact List.mem_append_left _ hx)
  ·subst hxy
   have hxi:=h1.hi x hx
   rcases List.mem_append.1 hy with h | h
   ·have:=h2.lo x (by rw [zF];exact List.mem_append_left _ h);omega
   ·rcases hbs x h with h | ⟨ad,h9,h'⟩
    ·have:=h2.lo x h;omega
    ·subst h';exact d1 ad h9 hx
 ·have hxs:xd xs∧xd es:=by
   have:∀ (u v:List D),xd (u++v)→xd u∧xd v:=by
    intro u
    induction u with
    | nil=>intro v h;exact ⟨trivial,h⟩
    | cons y u ih=>intro v h;obtain ⟨g1,g2⟩:=ih v h.2;exact ⟨⟨h.1,g1⟩,g2⟩
   exact this _ _ hfl2
  have hpr:xd hd∧xd r:=by
   have:∀ (u v:List D),xd (u++v)→xd u∧xd v:=by
    intro u
    induction u with
    | nil=>intro v h;exact ⟨trivial,h⟩
    | cons y u ih=>intro v h;obtain ⟨g1,g2⟩:=ih v h.2;exact ⟨⟨h.1,g1⟩,g2⟩
   exact this _ _ hfl1
  refine xv hpr.1 (xv hpr.2 ⟨?_,trivial⟩)
  have hsl:D.Flat0 (.sl a 9 es c):=⟨fun ad h=>hf.off ad h,hxs.2⟩
  exact ⟨trivial,trivial,trivial,trivial,xv hxs.1 ⟨hsl,trivial⟩⟩
 ·rw [e] at hb
  rcases List.mem_append.1 hb with h | h
  ·exact h1.lo b h
  ·rcases List.mem_append.1 h with h | h
   ·have:=h2.lo b (by rw [zF];exact List.mem_append_left _ h);omega
   ·rcases hbs b h with h | ⟨ad,h9,h'⟩
    ·have:=h2.lo b h;omega
    ·subst h';exact hf.lo ad h9
 ·rw [e] at hb
  rcases List.mem_append.1 hb with h | h
  ·have:=h1.hi b h;omega
  ·rcases List.mem_append.1 h with h | h
   ·have:=h2.hi b (by rw [zF];exact List.mem_append_left _ h);omega
   ·rcases hbs b h with h | ⟨ad,h9,h'⟩
    ·have:=h2.hi b h;omega
    ·subst h';exact hf.hi ad h9
end Go.Proofs.YtnpjpplbkoammaaGreat
