/- The law FnExactTypeOf: for all data it answers true. -/
import Derived.Test.YtnpjpplbkoammaaGreatDoorVv
import Derived.Test.YtnpjpplbkoammaaGreatDoorWn
import Derived.Test.YtnpjpplbkoammaaGreatDoorKa
import Derived.Test.YtnpjpplbkoammaaGreatDoorWh
import Derived.Test.YtnpjpplbkoammaaGreatDoorKu
import Derived.Test.YtnpjpplbkoammaaGreatDoorZe
set_option linter.unusedVariables false
set_option linter.unusedSimpArgs false
namespace Go.Proofs.YtnpjpplbkoammaaGreatDoor
open Go Go.Proofs Go.Proofs.Tryz Go.IntWalk
mutual
theorem zM1:∀ (t:Ty) (k:Int),(zKF t k).1.cnt=t.cnt
 | .mk kk l,k=>by simp only [zKF,Ty.cnt,si l]
theorem si:∀ (l:List Ty) (k:Int),zJ (zO l k).1=zJ l
 | [],k=>rfl
 | t::ts,k=>by simp only [zO,zJ,zM1 t,si ts]
end
theorem Own.tree {N N':Nat} {d:D} (h:Own N N' d):Tree d:=⟨h.nd,h.fl⟩
theorem Own.low {N N' M:Nat} {d:D} (h:Own N N' d) (hM:M≤N):Low M d:=⟨fun b hb=>Nat.le_trans hM (h.lo b hb)⟩
/-- blocks below a bound and blocks from it on -/
theorem zBa {N N':Nat} {d x:D} (h:Own N N' d) (hx:Bel N x):∀ b∈d.foot,b∉x.foot:=fun b hb hc=>by
 have:=h.lo b hb;have:=hx b hc;omega
theorem zM6 {N N' M M':Nat} {d x:D} (h:Own N N' d) (hx:Own M M' x) (hM:N'≤M):∀ b∈d.foot,b∉x.foot:=fun b hb hc=>by
 have:=h.hi b hb;have:=hx.lo b hc;omega
theorem Bel.mono {N M:Nat} {x:D} (h:Bel N x) (hM:N≤M):Bel M x:=fun b hb=>Nat.lt_of_lt_of_le (h b hb) hM
theorem zJW (l:List Ty) (k:Int) (es:List D) (a:Option Addr) (c:Nat) (hes:All2 Ty.Is (zO l k).1 es) (hlen:es.length≤4611686018427387904) (h0:0≤k) (h1:k+zJ l≤4611686018427387904):qN 84 [.sv a 2 es c,.int .i64 k] (zO l k).2:=by
 have h:=zCI (.mk 0 (zO l k).1) es a c hes hlen k h0 (by simp only [Ty.as,si];exact h1)
 simp only [Ty.as,zEZ l k h0] at h
 exact h
theorem zHJ:∀ (t:Tm) (k:Int) (es:List D) (a:Option Addr) (c:Nat),All2 Tm.Is (yZ t.as k).1 es→es.length≤4611686018427387904→0≤k→k+4*zg t.as≤4611686018427387904→qN 47 [.sv a 9 es c,.int .i64 k] (yZ t.as k).2:=by
 refine Tm.ind fun kk nm ot n ty re l ih k es a c hes hlen h0 h1 N Q hQ=>?_
 simp only [Tm.as] at hes hQ h1
 have hl:=hes.len
 rw [zHM] at hl
 refine zA8 N a es c k Q fun _=>?_
 have key:∀ (xs:List Tm) (i:Nat) (m:Int) (N':Nat),N≤N'→(∀ x∈xs,x∈l)→i+xs.length=es.length→(yZ l k).1.drop i=(yZ xs m).1→(yZ xs m).2=(yZ l k).2→0≤m→m+4*zg xs≤4611686018427387904→y9 Q N a es c m i N':=by
  intro xs
  induction xs with
  | nil=>
    intro i m N' hN' _ hi hd hk hm _
    refine uO _ _ _ _ _ _ _ _ (Br.dec (fun h=>?_) fun _ N1 hN1=>?_)
    ·simp at hi;omega
    ·simp only [yZ] at hk;exact Qi (hQ _ (by omega)) hk.symm
  | cons x ts ihx=>
    intro i m N' hN' hmem hi hd hk hm hb
    cases x with
    | mk kx nx ox n_x tyx rex lx=>
    obtain ⟨tk,tl⟩:=tyx
    obtain ⟨rk,rl⟩:=rex
    have hx:=ih (.mk kx nx ox n_x (.mk tk tl) (.mk rk rl) lx) (hmem _ (by simp))
    simp only [Tm.as] at hx
    simp only [yZ,Ty.as] at hd hk
    simp only [zg,Tm.cnt,Ty.cnt] at hb
    simp only [List.length_cons] at hi
    have hkT:=xq tl (m+1+1+1+1+1)
    generalize hT:zO tl (m+1+1+1+1+1)=mT at hd hk hkT
    have hkR:=xq rl (mT.2+1)
    generalize hR:zO rl (mT.2+1)=mR at hd hk hkR
    have hkA:=p7 lx mR.2
    generalize hA:yZ lx mR.2=mA at hd hk hkA
    have hg:(yZ l k).1[i]?=some (Tm.mk m (tL (m+1)) (tL (m+1+1)) (m+1+1+1) (.mk (m+1+1+1+1) mT.1) (.mk mT.2 mR.1) mA.1):=by
     have:=congrArg (fun u=>u[0]?) hd
     simpa using this
    have hr:=hes.get hg
    obtain ⟨t0,t1,r0,r1,a2,es2,c2,hd2,hh,hlen2,hes2⟩:=Tm.is_mk.1 hr
    obtain ⟨kT,lT,aT,esT,cT,eT,rfl,rfl,hlenT,hesT⟩:=Ty.is_two hh.ty
    obtain ⟨kR,lR,aR,esR,cR,eR,rfl,rfl,hlenR,hesR⟩:=Ty.is_two hh.re
    injection eT with eT1 eT2
    injection eR with eR1 eR2
    subst eT1;subst eT2;subst eR1;subst eR2
    have hlt:(i:Int)<(es.length:Int):=by omega
    have B:(0:Int)≤(i:Int)∧(i:Int)<(es.length:Int):=⟨by omega,hlt⟩
    refine uO _ _ _ _ _ _ _ _ ?_
    rw [i64_in (m+1) (by omega),i64_in (m+1+1) (by omega),i64_in (m+1+1+1) (by omega),i64_in (m+1+1+1+1) (by omega),i64_in (m+1+1+1+1+1) (by omega),i64_in ((i:Int)+1) (by omega)]
    rw [Int.toNat_natCast,hd2]
    refine Br.dec (fun _=>?_) fun h=>absurd hlt h
    refine ⟨B,_,rfl,Br.bne (fun h=>absurd rfl h) fun _=>⟨B,_,rfl,fun N2 hN2=>?_⟩⟩
    refine tJ (m+1) (by omega) (by omega) N2 _ fun N3 hN3 _=>Br.nstr (fun h=>absurd rfl h) fun _=>⟨B,_,rfl,fun N5 hN5=>?_⟩
    refine tJ (m+1+1) (by omega) (by omega) N5 _ fun N6 hN6 _=>Br.nstr (fun h=>absurd rfl h) fun _=>⟨B,_,rfl,Br.bne (fun h=>absurd rfl h) fun _=>⟨B,_,rfl,Br.bne (fun h=>absurd rfl h) fun _=>⟨B,_,_,_,rfl,fun N10 hN10=>?_⟩⟩⟩
    have hcT:=zJW tl (m+1+1+1+1+1) esT aT cT (by rw [hT];exact vP hesT) hlenT (by omega) (by omega)
    rw [hT] at hcT
    refine hcT N10 _ fun N11 hN11 _=>Br.dec (fun h=>by omega) fun _=>⟨B,_,rfl,Br.bne (fun h=>absurd rfl h) fun _=>⟨B,_,_,_,rfl,fun N14 hN14=>?_⟩⟩
    rw [i64_in (mT.2+1) (by omega)]
    have hcR:=zJW rl (mT.2+1) esR aR cR (by rw [hR];exact vP hesR) hlenR (by omega) (by omega)
    rw [hR] at hcR
    refine hcR N14 _ fun N15 hN15 _=>Br.dec (fun h=>by omega) fun _=>⟨B,_,_,_,rfl,fun N17 hN17=>?_⟩
    have hcA:=hx mR.2 es2 a2 c2 (by rw [hA];exact hes2) hlen2 (by omega) (by omega)
    rw [hA] at hcA
    refine hcA N17 _ fun N18 hN18 _=>Br.dec (fun h=>by omega) fun _=>?_
    refine ihx (i+1) mA.2 N18 (by omega) (fun x hx=>hmem x (by simp [hx])) (by omega) ?_ hk (by omega) (by omega)
    have:=congrArg (List.drop 1) hd
    simpa [List.drop_drop,Nat.add_comm] using this
 exact key l 0 k N (Nat.le_refl _) (fun x h=>h) (by omega) (by simp) rfl h0 h1
theorem zH5 (t:Tm) (k:Int) (d:D) (hd:(t.mkd k).Is d) (h0:0≤k) (h1:k+4*t.cnt≤4611686018427387904):qN 15 [.dg 9 d,.int .i64 k] (t.mkk k):=fun N Q hQ=>by
 obtain ⟨kk,nm,ot,n,⟨tk,tl⟩,⟨rk,rl⟩,l⟩:=t
 simp only [Tm.mkd,Tm.mkk,Ty.as,Ty.k] at hd hQ
 simp only [Tm.cnt,Ty.cnt] at h1
 have hkT:=xq tl k
 generalize hT:zO tl k=mT at hd hQ hkT
 have hkR:=xq rl mT.2
 generalize hR:zO rl mT.2=mR at hd hQ hkR
 have hkA:=p7 l mR.2
 obtain ⟨t0,t1,r0,r1,a2,es2,c2,rfl,hh,hlen2,hes2⟩:=Tm.is_mk.1 hd
 obtain ⟨kT,lT,aT,esT,cT,eT,rfl,rfl,hlenT,hesT⟩:=Ty.is_two hh.ty
 obtain ⟨kR,lR,aR,esR,cR,eR,rfl,rfl,hlenR,hesR⟩:=Ty.is_two hh.re
 injection eT with eT1 eT2
 injection eR with eR1 eR2
 subst eT1;subst eT2;subst eR1;subst eR2
 have hcT:zJ mT.1=zJ tl:=by rw [←hT];exact si tl k
 have hcR:zJ mR.1=zJ rl:=by rw [←hR];exact si rl _
 have hmT:ua mT.1 k=mT.2:=by rw [←hT];exact zEZ tl k h0
 have hmR:ua mR.1 mT.2=mR.2:=by rw [←hR];exact zEZ rl _ (by omega)
 refine zCx N _ k Q fun _ N1 hN1=>?_
 have h2:=zEj (kk:=tk) (a:=aT) (c:=cT) hesT hlenT k h0 (by omega)
 rw [hmT] at h2
 refine h2 N1 _ fun N2 hN2 _=>Br.dec (fun h=>by omega) fun _ N4 hN4=>?_
 have h3:=zEj (kk:=rk) (a:=aR) (c:=cR) hesR hlenR mT.2 (by omega) (by omega)
 rw [hmR] at h3
 refine h3 N4 _ fun N5 hN5 _=>Br.dec (fun h=>by omega) fun _=>⟨_,_,_,rfl,fun N7 hN7=>?_⟩
 refine zHJ (.mk 0 (bytes []) (bytes []) 0 (.mk 0 []) (.mk 0 []) l) mR.2 es2 a2 c2 hes2 hlen2 (by omega) (by simp only [Tm.as];omega) N7 _ fun N8 hN8 _=>Br.dec (fun h=>by simp only [Tm.as] at h;omega) fun _ N10 hN10=>?_
 exact hQ _ (by omega)
theorem zMS:∀ (t:Tm) (d:D),t.Is d→∀ n:Int,0≤n→n≤1048576→zQ6 9 [.dg 9 d,.int .i64 n] fun r=>r = -1∨(0≤r∧r≤n∧(t.cnt:Int)≤3+3*(n - r)∧(t.sz:Int)≤1+(n - r)):=by
 refine Tm.ind fun k nm ot m ty re l ih d hd n h0 h1 N Q hQ=>?_
 obtain ⟨t0,t1,r0,r1,a,es,c,rfl,hh,hlen,hes⟩:=Tm.is_mk.1 hd
 have hl:=hes.len
 have hnm:=hh.nm
 have hot:=hh.ot
 have hS:∀ n:Int,0≤n→n≤1048576→zQ6 33 [.sv a 9 es c,.int .i64 n] fun r=>r = -1∨(0≤r∧r≤n∧(zg l:Int)≤3*(n - r)∧(zH l:Int)≤n - r):=fun n h0 h1 N Q hQ=>by
  refine zEA N a es c n Q fun _=>?_
  rw [i64_in _ (by omega)]
  have key:0≤n - (es.length:Int)→∀ (m:Int) (N':Nat),N≤N'→0≤m→m≤1048576→(∀ r N'',N'≤N''→(r = -1∨(0≤r∧r≤m∧(zg l:Int)≤3*l.length+3*(m - r)∧(zH l:Int)≤l.length+(m - r)))→Q r N'')→yw Q N a es c m (0:Nat) N':=fun _=>by
   refine up hes hlen (fun i xs=>∀ (m:Int) (N':Nat),N≤N'→0≤m→m≤1048576→(∀ r N'',N'≤N''→(r = -1∨(0≤r∧r≤m∧(zg xs:Int)≤3*xs.length+3*(m - r)∧(zH xs:Int)≤xs.length+(m - r)))→Q r N'')→yw Q N a es c m i N') ?_ ?_
   ·intro i hlt _ m N' hN' hm0 hm1 hQ'
    refine tY _ _ _ _ _ _ _ _ ?_
    repeat' first|with_reducible intro _|simp only[hlt,Y1,Y2,Y3,Y4]|(with_reducible first|refine X1 ?_ ?_|refine X2 ?_ ?_|refine X3 ?_ ?_|refine X4 ?_ ?_|refine X5 ?_ ?_|refine X6 ?_ ?_|refine X7 ?_ ?_|refine X8 ?_ ?_|refine X9 ?_ ?_)|refine⟨_,_,_,rfl,?_⟩|refine⟨_,rfl,?_⟩|((with_reducible refine And.intro ?_ ?_);·first|omega|trivial|(show _=_;rfl)|((with_reducible refine And.intro ?_ ?_)<;>first|omega|trivial|(show _=_;rfl)))|fail
    exact hQ' _ _ (by omega) (.inr ⟨hm0,by omega,by simp [zg],by simp [zH]⟩)
   ·intro i x xs hat _ ih2 m N' hN' hm0 hm1 hQ'
    have hb:=hat.b
    refine tY _ _ _ _ _ _ _ _ ?_
    simp only [zg,zH,List.length_cons] at hQ'
    repeat' first|with_reducible intro _|simp only[hat.lt,hat.w,Int.toNat_natCast,Y1,Y2,Y3,Y4]|(with_reducible first|refine X1 ?_ ?_|refine X2 ?_ ?_|refine X3 ?_ ?_|refine X4 ?_ ?_|refine X5 ?_ ?_|refine X6 ?_ ?_|refine X7 ?_ ?_|refine X8 ?_ ?_|refine X9 ?_ ?_)|refine⟨_,_,_,rfl,?_⟩|refine⟨_,rfl,?_⟩|((with_reducible refine And.intro ?_ ?_);·first|omega|trivial|(show _=_;rfl)|((with_reducible refine And.intro ?_ ?_)<;>first|omega|trivial|(show _=_;rfl)))|refine (ih x hat.m _ hat.r m hm0 hm1) _ _ ?_|fail
    ·exact hQ' _ _ (by omega) (.inl rfl)
    ·rename_i r N2 hN2 hr hle hneg
     exact ih2 _ _ (by omega) (by omega) (by omega) fun r2 N'' h2 hr2=>hQ' _ _ (by omega) (by omega)
  repeat' first|with_reducible intro _|simp only[Y1,Y2,Y3,Y4]|(with_reducible first|refine X1 ?_ ?_|refine X2 ?_ ?_|refine X3 ?_ ?_|refine X4 ?_ ?_|refine X5 ?_ ?_|refine X6 ?_ ?_|refine X7 ?_ ?_|refine X8 ?_ ?_|refine X9 ?_ ?_)|refine⟨_,_,_,rfl,?_⟩|refine⟨_,rfl,?_⟩|((with_reducible refine And.intro ?_ ?_);·first|omega|trivial|(show _=_;rfl)|((with_reducible refine And.intro ?_ ?_)<;>first|omega|trivial|(show _=_;rfl)))|fail
  ·exact hQ _ _ (by omega) (.inl rfl)
  ·exact key (by omega) _ _ (Nat.le_refl _) (by omega) (by omega) fun r N'' h2 hr=>hQ _ _ (by omega) (by omega)
 have c1:=ty.cnt_pos
 have c2:=re.cnt_pos
 refine zFY N _ n Q fun _=>⟨_,rfl,?_⟩
 rw [i64_in (n - (nm.size:Int)) (by omega)]
 simp only [Tm.cnt,Tm.sz] at hQ
 refine Br.dec (fun hneg N' hN'=>hQ _ _ hN' (.inl rfl)) fun hpos=>⟨_,rfl,?_⟩
 rw [i64_in (n - (nm.size:Int) - (ot.size:Int)) (by omega)]
 refine Br.dec (fun hneg N' hN'=>hQ _ _ hN' (.inl rfl)) fun hpos2=>?_
 intro N1 hN1
 refine zPn _ _ hh.ty _ (by omega) (by omega) _ _ fun r1 N2 hN2 hr1=>?_
 refine fun _=>Br.dec (fun hneg N' hN'=>hQ _ _ (by omega) (.inl rfl)) fun hpos3=>?_
 intro N3 hN3
 refine zPn _ _ hh.re _ (by omega) (by omega) _ _ fun r2 N4 hN4 hr2=>?_
 refine fun _=>Br.dec (fun hneg N' hN'=>hQ _ _ (by omega) (.inl rfl)) fun hpos4=>⟨_,_,_,rfl,?_⟩
 intro N5 hN5
 refine hS _ (by omega) (by omega) _ _ fun r3 N6 hN6 hr3=>?_
 refine fun _=>Br.dec (fun hneg N' hN'=>hQ _ _ (by omega) (.inl rfl)) fun hpos5=>?_
 intro N7 hN7
 exact hQ _ _ (by omega) (by omega)
theorem Br.same {v:Bool} {A B:Prop} (h:B):Br (!(v==v)) A B:=Br.not (fun h=>by simp at h) fun _=>h
/-- the law FnExactBigStep: for all data it answers true -/
theorem zIS {t:Tm} {d:D} (he:t.Is d) (n:Int) (N:Nat) :
  ACalls prog 7 [.bool] [.dg 9 d,.int .i64 n] N (fun r _=>r=true):=by
 refine sd N d n _ fun hB1 N4 hN4=>?_
 refine zMS t d he 1048576 (by omega) (by omega) N4 _ fun r2 N5 hN5 hr2 _=>Br.dec (fun _ N6 _=>rfl) fun hneg2 N7 hN7=>?_
 obtain ⟨hq0,hq1,hcn,hsn⟩:=hr2.resolve_left (by omega)
 have hcn:t.cnt≤3145731:=by omega
 have hsn:t.sz≤1048577:=by omega
 have hcn2:t.cnt≤1073741824:=by omega
 clear hr2
 refine zBR t d he hcn2 N7 _ fun d1 N10 hN10 he1 own2 _ _ N11 hN11=>?_
 have hoc:=zMc t n hsn
 have hSpec:=zDR he1 hsn (by omega) n
 have hImpl:=fun (d2:D) (he2:t.Is d2)=>zDL he2 hsn (by omega:t.cnt≤4000000) n
 generalize zBs t n=o at hSpec hImpl hoc
 obtain ⟨o,o1,o2⟩:=o
 simp only at hSpec hImpl hoc
 refine hSpec N11 _ fun w0 N12 hN12 hw0 _ hBw N13 hN13=>?_
 refine zBR t d he hcn2 N13 _ fun d2 N16 hN16 he2 own4 _ _ N17 hN17=>?_
 refine hImpl d2 he2 N17 _ fun g0 N18 hN18 hg0 own5 _ _ N19 hN19=>?_
 refine zBW o g0 w0 hg0 hw0 N19 _ fun N20 hN20 _=>Br.of (fun h=>by simp at h) fun _=>Br.bne (fun h=>absurd rfl h) fun _=>Br.same fun N23 hN23=>?_
 refine zBR t d he hcn2 N23 _ fun d4 N29 hN29 he4 _ _ _ N30 hN30=>?_
 refine zBW t d2 d4 he2 he4 N30 _ fun N31 hN31 _=>Br.of (fun h=>by simp at h) fun _=>?_
 have B1:∀ M,N≤M→Bel M d:=fun M h=>hB1.mono h
 have d54:=zM6 own4 own5 (by omega)
 refine ⟨own4.tree,own4.low (by omega),rfl,⟨fun x hx=>?_⟩,fun N35 hN35=>?_⟩
 ·simp only [List.mem_cons,List.not_mem_nil,or_false] at hx
  rcases hx with rfl | rfl | rfl
  ·exact zBa own4 (B1 _ (by omega))
  ·exact zBa own4 (hBw.mono (by omega))
  ·exact d54
 refine zJt he2 own4.tree 1 (by omega) (by omega) N35 _ fun d6 k6 N36 hN36 hf6 hk6 hk6' _=>Br.dec (fun h=>by omega) fun _ N38 hN38=>?_
 refine zBW o g0 w0 hg0 hw0 N38 _ fun N39 hN39 _=>Br.of (fun h=>by simp at h) fun _=>Br.bne (fun h=>absurd rfl h) fun _=>Br.same ?_
 refine ⟨own5.tree,own5.low (by omega),rfl,⟨fun x hx=>?_⟩,fun N42 hN42=>?_⟩
 ·simp only [List.mem_cons,List.not_mem_nil,or_false] at hx
  rcases hx with rfl | rfl | rfl
  ·exact zBa own5 (B1 _ (by omega))
  ·exact zBa own5 (hBw.mono (by omega))
  ·rw [hf6];exact fun b hb hc=>d54 b hc hb
 refine zCR hg0 own5.tree 1 (by omega) (by omega) N42 _ fun g1 N43 hN43 hg1 hfg _ N44 hN44=>?_
 have hkk:=o.mkk_k 1
 have hheld:=zH5 o 1 g1 hg1 (by omega) (by omega)
 refine hheld N44 _ fun N45 hN45 _=>Br.dec (fun h=>by omega) fun _=>Br.bne (fun h=>absurd rfl h) fun _ N48 hN48=>?_
 refine zBR t d he hcn2 N48 _ fun d7 N51 hN51 he7 _ _ _ N52 hN52=>?_
 refine hImpl d7 he7 N52 _ fun g2 N53 hN53 hg2 _ _ _ N54 hN54=>?_
 refine zBW o g2 w0 hg2 hw0 N54 _ fun N55 hN55 _=>Br.of (fun h=>by simp at h) fun _=>Br.bne (fun h=>absurd rfl h) fun _=>Br.same fun N58 hN58=>?_
 exact hheld N58 _ fun N59 hN59 _=>Br.dec (fun h=>by omega) fun _=>Br.bne (fun h=>absurd rfl h) fun _ N62 hN62=>rfl
end Go.Proofs.YtnpjpplbkoammaaGreatDoor
