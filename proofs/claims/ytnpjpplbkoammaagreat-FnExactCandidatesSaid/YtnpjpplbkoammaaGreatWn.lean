/- Parameters: what they are; the laws' sizes, copies, equality and marks on them. -/
import Derived.Test.YtnpjpplbkoammaaGreatVv
import Derived.Test.YtnpjpplbkoammaaGreatKa
import Derived.Test.YtnpjpplbkoammaaGreatVi
import Derived.Test.YtnpjpplbkoammaaGreatKi
set_option linter.unusedVariables false
set_option linter.unusedSimpArgs false
namespace Go.Proofs.YtnpjpplbkoammaaGreat
open Go Go.Proofs Go.Proofs.Tryz Go.IntWalk
structure Pm where
 nm:ByteArray
 ty:Ty
 dy:Bool
def Pm.Is (g:Pm) (d:D):Prop:=∃ t0 t1,d=.ag [.lit (.string g.nm),t0,t1,.lit (.bool g.dy)]∧g.nm.size≤4611686018427387904∧g.ty.Is (.ag [t0,t1])
structure Pms (g:List Pm) (es:List D):Prop where
 len:es.length≤4611686018427387904
 all:All2 Pm.Is g es
def zBy:List Pm→Nat
 | []=>0
 | g::gs=>g.ty.cnt+zBy gs
theorem zLv {g:List Pm} {es:List D} (h:Pms g es) (a:Option Addr) (c:Nat) (n:Int) (h0:0≤n) (h1:n≤1048576):zQ1 4 [.sv a 4 es c,.int .i64 n] fun r=>r = -1∨(0≤r∧r≤n∧(g.length:Int)≤n∧∀ x∈g,(x.ty.cnt:Int)≤n+1):=fun N Q hQ=>by
 have hl:=h.all.len
 have hlen:=h.len
 have hx:∀ x∈g,∀ d,x.Is d→∀ n:Int,0≤n→n≤1048576→zQ1 17 [.dg 4 d,.int .i64 n] fun r=>r = -1∨(0≤r∧r≤n∧(x.ty.cnt:Int)≤n+1):=fun x _ d hd n h0 h1 N Q hQ=>by
  obtain ⟨t0,t1,rfl,hs,ht⟩:=hd
  have:=x.ty.cnt_pos
  refine zE1 N _ n Q fun _=>⟨_,rfl,?_⟩
  rw [i64_in (n - (x.nm.size:Int)) (by omega)]
  refine Br.dec (fun hneg N' hN'=>hQ _ _ hN' (.inl rfl)) fun hpos=>?_
  intro N1 hN1
  refine zQI _ _ ht _ (by omega) (by omega) _ _ fun r1 N2 hN2 hr1=>?_
  refine fun _=>Br.dec (fun hneg N' hN'=>hQ _ _ (by omega) (.inl rfl)) fun hpos3=>?_
  intro N3 hN3
  exact hQ _ _ (by omega) (by omega)
 refine zEX N a es c n Q fun _=>?_
 rw [i64_in _ (by omega)]
 have key:0≤n - (es.length:Int)→∀ (m:Int) (N':Nat),N≤N'→0≤m→m≤n→(∀ r N'',N'≤N''→(r = -1∨(0≤r∧r≤m∧∀ x∈g,(x.ty.cnt:Int)≤n+1))→Q r N'')→xD Q N a es c m (0:Nat) N':=fun _=>by
  refine up h.all h.len (fun i xs=>∀ (m:Int) (N':Nat),N≤N'→0≤m→m≤n→(∀ r N'',N'≤N''→(r = -1∨(0≤r∧r≤m∧∀ x∈xs,(x.ty.cnt:Int)≤n+1))→Q r N'')→xD Q N a es c m i N') ?_ ?_
  ·intro i hlt _ m N' hN' hm0 hm1 hQ'
   refine tm _ _ _ _ _ _ _ _ ?_
   repeat' first|with_reducible intro _|simp only[hlt,Y1,Y2,Y3,Y4]|(with_reducible first|refine X1 ?_ ?_|refine X2 ?_ ?_|refine X3 ?_ ?_|refine X4 ?_ ?_|refine X5 ?_ ?_|refine X6 ?_ ?_|refine X7 ?_ ?_|refine X8 ?_ ?_|refine X9 ?_ ?_)|refine⟨_,_,_,rfl,?_⟩|refine⟨_,rfl,?_⟩|((with_reducible refine And.intro ?_ ?_);·first|omega|trivial|(show _=_;rfl)|((with_reducible refine And.intro ?_ ?_)<;>first|omega|trivial|(show _=_;rfl)))|fail
   exact hQ' _ _ (by omega) (.inr ⟨hm0,by omega,by simp⟩)
  ·intro i x xs hat _ ih2 m N' hN' hm0 hm1 hQ'
   have hb:=hat.b
   refine tm _ _ _ _ _ _ _ _ ?_
   repeat' first|with_reducible intro _|simp only[hat.lt,hat.w,Int.toNat_natCast,Y1,Y2,Y3,Y4]|(with_reducible first|refine X1 ?_ ?_|refine X2 ?_ ?_|refine X3 ?_ ?_|refine X4 ?_ ?_|refine X5 ?_ ?_|refine X6 ?_ ?_|refine X7 ?_ ?_|refine X8 ?_ ?_|refine X9 ?_ ?_)|refine⟨_,_,_,rfl,?_⟩|refine⟨_,rfl,?_⟩|((with_reducible refine And.intro ?_ ?_);·first|omega|trivial|(show _=_;rfl)|((with_reducible refine And.intro ?_ ?_)<;>first|omega|trivial|(show _=_;rfl)))|refine (hx x hat.m _ hat.r m hm0 (by omega)) _ _ ?_|fail
   ·exact hQ' _ _ (by omega) (.inl rfl)
   ·rename_i r N2 hN2 hr hle hneg
    refine ih2 _ _ (by omega) (by omega) (by omega) fun r2 N'' h2 hr2=>hQ' _ _ (by omega) ?_
    rcases hr2 with hr2 | ⟨h3,h4,h5⟩
    ·exact .inl hr2
    ·refine .inr ⟨h3,by omega,fun y hy=>?_⟩
     rcases List.mem_cons.1 hy with rfl | hy
     ·omega
     ·exact h5 y hy
 repeat' first|with_reducible intro _|simp only[Y1,Y2,Y3,Y4]|(with_reducible first|refine X1 ?_ ?_|refine X2 ?_ ?_|refine X3 ?_ ?_|refine X4 ?_ ?_|refine X5 ?_ ?_|refine X6 ?_ ?_|refine X7 ?_ ?_|refine X8 ?_ ?_|refine X9 ?_ ?_)|refine⟨_,_,_,rfl,?_⟩|refine⟨_,rfl,?_⟩|((with_reducible refine And.intro ?_ ?_);·first|omega|trivial|(show _=_;rfl)|((with_reducible refine And.intro ?_ ?_)<;>first|omega|trivial|(show _=_;rfl)))|fail
 ·exact hQ _ _ (by omega) (.inl rfl)
 ·refine key (by omega) _ _ (Nat.le_refl _) (by omega) (by omega) fun r N'' h2 hr=>hQ _ _ (by omega) ?_
  rcases hr with hr | ⟨h3,h4,h5⟩
  ·exact .inl hr
  ·exact .inr ⟨h3,by omega,by omega,h5⟩
theorem zNZ (x:Pm) (d:D) (hd:x.Is d) (hc:x.ty.cnt≤1073741824):Cop 27 4 [.dg 4 d] x.Is:=fun N Q hQ=>by
 obtain ⟨t0,t1,rfl,hs,ht⟩:=hd
 refine zFS N _ Q fun _=>?_
 repeat' first|with_reducible intro _|simp only[Y1,Y2,Y3,Y4]|(with_reducible first|refine X1 ?_ ?_|refine X2 ?_ ?_|refine X3 ?_ ?_|refine X4 ?_ ?_|refine X5 ?_ ?_|refine X6 ?_ ?_|refine X7 ?_ ?_|refine X8 ?_ ?_|refine X9 ?_ ?_)|refine⟨_,_,_,rfl,?_⟩|refine⟨_,rfl,?_⟩|((with_reducible refine And.intro ?_ ?_);·first|omega|trivial|(show _=_;rfl)|((with_reducible refine And.intro ?_ ?_)<;>first|omega|trivial|(show _=_;rfl)))|refine (zPr _ _ ht hc) _ _ ?_|fail
 rename_i N1 hN1 x' N2 hN2 hx ho _ _ N3 hN3
 exact hQ _ _ (by omega) ⟨_,_,rfl,hs,Ty.is_cells hx⟩ (zA1 (wA (yB ((uq hx ho).mono hN1 hN3) (wA sX) (by omega) (Nat.le_refl _))))
theorem qj {g:List Pm} {es:List D} (h:Pms g es) (hg:g.length≤1073741824) (hc:∀ x∈g,x.ty.cnt≤1073741824) (a:Option Addr) (c:Nat):zSB 7 4 [.sv a 4 es c] (Pms g):=fun N Q hQ=>by
 have hl:=h.all.len
 refine zDb N a es c Q fun _=>⟨⟨by omega,by omega,by omega,by omega⟩,?_⟩
 rw [Int.toNat_natCast]
 have key:=up h.all h.len (fun i xs=>∀ (done junk:List D) (N':Nat),N≤N'→All2 Pm.Is (g.take i) done→done.length=i→junk.length=xs.length→OwnL N N' done→xt Q N a es c es.length es.length i (done++junk) es.length N') ?_ ?_
 ·simpa using key [] (List.replicate es.length (.ag [.lit (.string (bytes [])),.lit (.int .i64 0),.sl none 2 [] 0,.lit (.bool false)])) N (Nat.le_refl _) rfl rfl (by simp [hl]) sX
 ·intro i hlt hi done junk N' hN' hd hdl hj ho
  have:junk=[]:=List.eq_nil_of_length_eq_zero (by simpa using hj)
  subst this
  rw [List.append_nil]
  refine tj _ _ _ _ _ _ _ _ _ _ _ ?_
  rw [List.take_of_length_le (by omega)] at hd
  have hdn:es.length=done.length:=by omega
  repeat' first|with_reducible intro _|simp only[hlt,Y1,Y2,Y3,Y4]|(with_reducible first|refine X1 ?_ ?_|refine X2 ?_ ?_|refine X3 ?_ ?_|refine X4 ?_ ?_|refine X5 ?_ ?_|refine X6 ?_ ?_|refine X7 ?_ ?_|refine X8 ?_ ?_|refine X9 ?_ ?_)|refine⟨_,_,_,rfl,?_⟩|refine⟨_,rfl,?_⟩|((with_reducible refine And.intro ?_ ?_);·first|omega|trivial|(show _=_;rfl)|((with_reducible refine And.intro ?_ ?_)<;>first|omega|trivial|(show _=_;rfl)))|fail
  rename_i a' N3 hN3 hf N4 hN4
  exact hQ _ _ _ _ (by omega) ⟨by omega,hd⟩ ((rP ho hf hN3).mono (Nat.le_refl _) hN4)
 ·intro i x xs hat _ ih2 done junk N' hN' hd hdl hj ho
  have hb:=hat.b
  cases junk with
  | nil=>simp at hj
  | cons y junk=>
    subst hdl
    refine tj _ _ _ _ _ _ _ _ _ _ _ ?_
    repeat' first|with_reducible intro _|simp only[hat.lt,hat.w,Int.toNat_natCast,Nat.zero_add,List.length_append,List.length_cons,Y1,Y2,Y3,Y4]|(with_reducible first|refine X1 ?_ ?_|refine X2 ?_ ?_|refine X3 ?_ ?_|refine X4 ?_ ?_|refine X5 ?_ ?_|refine X6 ?_ ?_|refine X7 ?_ ?_|refine X8 ?_ ?_|refine X9 ?_ ?_)|refine⟨_,_,_,rfl,?_⟩|refine⟨_,rfl,?_⟩|((with_reducible refine And.intro ?_ ?_);·first|omega|trivial|(show _=_;rfl)|((with_reducible refine And.intro ?_ ?_)<;>first|omega|trivial|(show _=_;rfl)))|refine (zNZ x _ hat.r (hc x hat.m)) _ _ ?_|fail
    all_goals first | (exfalso;omega) | skip
    rename_i N1 hN1 x' N2 hN2 hx hox _ _
    rw [zCQ]
    have:=ih2 (done++[x']) junk _ (by omega) (by rw [wi hat.g];exact hd.snoc hx) (by simp) (by simpa using hj) (yB (ho.mono (Nat.le_refl _) hN1) (yG hox) (by omega) hN2)
    simpa using this
theorem zMo (x:Pm) (d e:D) (hd:x.Is d) (he:x.Is e):vE 39 [.dg 4 d,.dg 4 e] true:=fun N Q hQ=>by
 obtain ⟨t0,t1,rfl,hs,ht⟩:=hd
 obtain ⟨u0,u1,rfl,hs',ht'⟩:=he
 refine zFU N _ _ Q fun _ _=>?_
 repeat' first|with_reducible intro _|simp only[beq_self_eq_true,Y1,Y2,Y3,Y4]|(with_reducible first|refine X1 ?_ ?_|refine X2 ?_ ?_|refine X3 ?_ ?_|refine X4 ?_ ?_|refine X5 ?_ ?_|refine X6 ?_ ?_|refine X7 ?_ ?_|refine X8 ?_ ?_|refine X9 ?_ ?_)|refine⟨_,_,_,rfl,?_⟩|refine⟨_,rfl,?_⟩|((with_reducible refine And.intro ?_ ?_);·first|omega|trivial|(show _=_;rfl)|((with_reducible refine And.intro ?_ ?_)<;>first|omega|trivial|(show _=_;rfl)))|refine (zBT _ _ _ ht ht') _ _ ?_|fail
 all_goals first | exact absurd rfl (by assumption) | skip
 all_goals exact hQ _ (by omega)
theorem zLq {g:List Pm} {es fs:List D} (h:Pms g es) (h':Pms g fs) (a b:Option Addr) (c c':Nat):vE 11 [.sv a 4 es c,.sv b 4 fs c'] true:=fun N Q hQ=>by
 have hl:=h.all.len
 have hl':=h'.all.len
 have key:=up h.all h.len (fun i xs=>∀ (N':Nat),N≤N'→xw Q N a es c b fs c' i N') ?_ ?_
 ·refine zEO N _ _ _ _ _ _ Q fun _ _=>?_
  repeat' first|with_reducible intro _|simp only[Y1,Y2,Y3,Y4]|(with_reducible first|refine X1 ?_ ?_|refine X2 ?_ ?_|refine X3 ?_ ?_|refine X4 ?_ ?_|refine X5 ?_ ?_|refine X6 ?_ ?_|refine X7 ?_ ?_|refine X8 ?_ ?_|refine X9 ?_ ?_)|refine⟨_,_,_,rfl,?_⟩|refine⟨_,rfl,?_⟩|((with_reducible refine And.intro ?_ ?_);·first|omega|trivial|(show _=_;rfl)|((with_reducible refine And.intro ?_ ?_)<;>first|omega|trivial|(show _=_;rfl)))|fail
  ·omega
  ·exact key N (Nat.le_refl _)
 ·intro i hlt hi N' hN'
  refine sG _ _ _ _ _ _ _ _ _ _ ?_
  repeat' first|with_reducible intro _|simp only[hlt,Y1,Y2,Y3,Y4]|(with_reducible first|refine X1 ?_ ?_|refine X2 ?_ ?_|refine X3 ?_ ?_|refine X4 ?_ ?_|refine X5 ?_ ?_|refine X6 ?_ ?_|refine X7 ?_ ?_|refine X8 ?_ ?_|refine X9 ?_ ?_)|refine⟨_,_,_,rfl,?_⟩|refine⟨_,rfl,?_⟩|((with_reducible refine And.intro ?_ ?_);·first|omega|trivial|(show _=_;rfl)|((with_reducible refine And.intro ?_ ?_)<;>first|omega|trivial|(show _=_;rfl)))|fail
  exact hQ _ (by omega)
 ·intro i x xs hat _ ih2 N' hN'
  have hb:=hat.b
  refine sG _ _ _ _ _ _ _ _ _ _ ?_
  repeat' first|with_reducible intro _|simp only[hat.lt,hat.w,Int.toNat_natCast,Y1,Y2,Y3,Y4]|(with_reducible first|refine X1 ?_ ?_|refine X2 ?_ ?_|refine X3 ?_ ?_|refine X4 ?_ ?_|refine X5 ?_ ?_|refine X6 ?_ ?_|refine X7 ?_ ?_|refine X8 ?_ ?_|refine X9 ?_ ?_)|refine⟨_,_,_,rfl,?_⟩|refine⟨_,rfl,?_⟩|((with_reducible refine And.intro ?_ ?_);·first|omega|trivial|(show _=_;rfl)|((with_reducible refine And.intro ?_ ?_)<;>first|omega|trivial|(show _=_;rfl)))|refine (zMo x _ _ hat.r (h'.all.get hat.g)) _ _ ?_|fail
  exact ih2 _ (by omega)
theorem zLA:∀ (l:List Pm) (rest:List D),All2 Pm.Is l rest→∀ (done es:List D),zB (done++rest)=zB es→(zB (done++rest)).Nodup→xd rest→(done++rest).length≤4611686018427387904 →
  ∀ (T:List Nat),(∀ b∈zB es,b∈T)→∀ (b0 N m c t:Nat) (k K:Int),0≤k→k+3*zBy l≤K→K≤288230376151711744→∀ (q N1:Nat),N≤N1→m=(done++rest).length →
  ya T b0 (fun k' x N'=>N≤N'∧∃ es',x=.ag es'∧es'.length=m∧zB es'=zB es∧0≤k'∧k'≤K) N m c k done.length t (done++rest) q N1
 | [],rest,hr,done,es,hf,hnd,hfl,hlen,T,hT,b0,N,m,c,t,k,K,hk,hK,hK2,q,N1,hN1,hm=>by
   cases hr
   rw [List.append_nil] at *
   simp only [zBy] at hK
   refine vR _ _ _ _ _ _ _ _ _ _ _ _ (Br.of (fun hc=>?_) fun _=>⟨rfl,fun N3 hN3=>⟨by omega,done,rfl,hm.symm,hf,hk,by omega⟩⟩)
   have:=of_decide_eq_true hc;omega
 | ⟨nm,ty,lv⟩::ts,rest,hr,done,es,hf,hnd,hfl,hlen,T,hT,b0,N,m,c,t,k,K,hk,hK,hK2,q,N1,hN1,hm=>by
   obtain ⟨d,ds,rfl,hdi,hds⟩:=hr
   obtain ⟨t0,t1,rfl,hs,ht⟩:=hdi
   cases ty with
   | mk kk lt=>
   obtain ⟨aT,esT,cT,hT01,hlenT,hesT⟩:=Ty.is_mk.1 ht
   injection hT01 with hT01
   injection hT01 with e1 e2
   injection e2 with e2 _
   subst e1;subst e2
   simp only [zBy,Ty.cnt] at hK
   have hlt:(done.length:Int)<(m:Int):=by rw [hm];simp;omega
   have hlt2:∀ d:D,done.length<(done++d::ds).length:=fun d=>by simp
   have hfoot:∀ (x y z:Value) (es':List D),zB es'=zB esT→es'.length=esT.length→(D.ag [.lit x,.lit y,.sl aT 2 es' cT,.lit z]).foot=(D.ag [.lit (.string nm),.lit (.int .i64 kk),.sl aT 2 esT cT,.lit (.bool lv)]).foot:=fun x y z es' h1 h2=>by
    have:=sV (a:=aT) (z:=2) (c:=cT) h2 h1
    simp only [D.foot,zB] at this ⊢
    rw [this]
   have hfT:(D.ag [.lit (.string nm),.lit (.int .i64 kk),.sl aT 2 esT cT,.lit (.bool lv)]).foot=(D.sl aT 2 esT cT).foot:=by simp only [D.foot,zB,List.nil_append,List.append_nil]
   have hnd1:(D.sl aT 2 esT cT).foot.Nodup:=by rw [←hfT];exact zIa (b:=[]) hnd
   have hfl1:(D.sl aT 2 esT cT).Flat0:=hfl.1.2.2.1
   have hsub:∀ b∈(D.sl aT 2 esT cT).foot,b∈T:=fun b hb=>hT b (hf ▸ by rw [zF];exact List.mem_append_right _ (by simp only [zB];exact List.mem_append_left _ (hfT ▸ hb)))
   refine vR _ _ _ _ _ _ _ _ _ _ _ _ (Br.of (fun _=>?_) fun hc=>absurd hlt (of_decide_eq_false hc))
   intro N2 hN2
   refine zLr k hk (by omega) N2 _ fun s N3 hN3=>?_
   intro hle
   rw [i64_in (k+1) (by omega)]
   simp only [Int.toNat_natCast,Nat.zero_add,sc,zCQ,zHM,p40,p41]
   have B:∀ x:D,(0≤(done.length:Int)∧(done.length:Int)<(m:Int)∧done.length<(done++x::ds).length):=fun x=>⟨by omega,hlt,hlt2 x⟩
   refine ⟨B _,hlt2 _,B _,hlt2 _,B _,hlt2 _,aT,esT,cT,rfl,⟨hnd1,hfl1⟩,⟨hsub⟩,hlt2 _,by simp,rfl,⟨qA hnd (hfoot _ _ _ esT rfl rfl)⟩,⟨by simp⟩,fun N4 hN4=>?_⟩
   rw [i64_in (k+1+1) (by omega)]
   refine ui lt esT (zC8 hesT) aT cT ⟨hnd1,hfl1⟩ hlenT (k+1+1) (by omega) (by omega) N4 _ fun es1' N5 hN5 h1 h2 h3=>?_
   have hk3:=wz lt (k+1+1)
   intro hle2
   rw [i64_in ((za lt (k+1+1)).2+1) (by omega),i64_in ((done.length:Int)+1) (by rw [hm] at hlt;simp at hlt hlen;omega)]
   simp only [Int.toNat_natCast,Nat.zero_add,sc,zCQ,zHM,p42,p43]
   refine ⟨by omega,B _,hlt2 _,?_⟩
   have hfx:=hfoot (.string s) (.int .i64 (k+1)) (.bool (Int.tmod (za lt (k+1+1)).2 3==0)) es1' h2 h3
   have:=zLA ts ds hds (done++[.ag [.lit (.string s),.lit (.int .i64 (k+1)),.sl aT 2 es1' cT,.lit (.bool (Int.tmod (za lt (k+1+1)).2 3==0))]]) es
    (by rw [List.append_assoc,List.singleton_append,zB5 hfx];exact hf) (by rw [List.append_assoc,List.singleton_append];exact qA hnd hfx) hfl.2 (by simpa using hlen) T hT b0 N m c t ((za lt (k+1+1)).2+1) K
    (by omega) (by omega) hK2 q N5 (by omega) (by rw [hm];simp)
   have e1:((done++[D.ag [.lit (.string s),.lit (.int .i64 (k+1)),.sl aT 2 es1' cT,.lit (.bool (Int.tmod (za lt (k+1+1)).2 3==0))]]).length:Int)=(done.length:Int)+1:=by simp
   rw [e1] at this
   simpa using this
theorem zJJ {g:List Pm} {es:List D} (h:Pms g es) (a:Option Addr) (c:Nat) (ht:Tree (.sl a 4 es c)) (k:Int) (hk:0≤k) (hk2:k+3*zBy g≤288230376151711744) (N:Nat) (R:D→Int→Nat→Prop)
  (hR:∀ es' k' N',N≤N'→zB es'=zB es→es'.length=es.length→0≤k'→k'≤k+3*zBy g→R (.sl a 4 es' c) k' N'):MC prog 13 (.sl a 4 es c) k N R:=by
 have hlen:=h.len
 by_cases hne:es=[]
 ·subst hne
  have hg:g=[]:=List.eq_nil_of_length_eq_zero (by have:=h.all.len;simpa using this.symm)
  subst hg
  refine zM9 (zBo N a [] c k _ fun _=>zAE _ _ _ _ _ _ _ _ (Br.of (fun hc=>?_) fun _ N2 hN2=>?_))
  ·simp at hc
  ·exact hR [] k N2 hN2 rfl rfl hk (by simp [zBy])
 ·cases a with
  | none=>exact zJv (by kernel_rfl) hne
  | some ad=>
    have hfoot:(D.sl (some ad) 4 es c).foot=ad.block::zB es:=by simp [D.foot,hne]
    have hnd:=ht.nd
    rw [hfoot] at hnd
    refine zB1 N ad es c k R (fun k' x N'=>N≤N'∧∃ es',x=.ag es'∧es'.length=es.length∧zB es'=zB es∧0≤k'∧k'≤k+3*zBy g) ht hne (by unfold maxLen;omega) (fun t=>?_) ?_
    ·have:=zLA g es h.all [] es rfl (List.nodup_cons.1 hnd).2 ht.fl.2 hlen (D.sl (some ad) 4 es c).foot (fun b hb=>by rw [hfoot];simp [hb]) ad.block N es.length c t k (k+3*zBy g) hk (Int.le_refl _) hk2 es.length N (Nat.le_refl _) rfl
     simpa using this
    ·rintro k' x N' ⟨hN',es',rfl,h1,h2,h3,h4⟩
     exact ⟨es',rfl,h1,h2,hR es' k' N' hN' h2 h1 h3 h4⟩
theorem yU (n a b:Int):vE 58 [.int .i64 n,.int .i64 a,.int .i64 b] (inB n a b):=fun N Q hQ=>by
 refine zG1 N n a b Q ?_
 repeat' first|with_reducible intro _|simp only[Y1,Y2,Y3,Y4]|(with_reducible first|refine X1 ?_ ?_|refine X2 ?_ ?_|refine X3 ?_ ?_|refine X4 ?_ ?_|refine X5 ?_ ?_|refine X6 ?_ ?_|refine X7 ?_ ?_|refine X8 ?_ ?_|refine X9 ?_ ?_)|refine⟨_,_,_,rfl,?_⟩|refine⟨_,rfl,?_⟩|((with_reducible refine And.intro ?_ ?_);·first|omega|trivial|(show _=_;rfl)|((with_reducible refine And.intro ?_ ?_)<;>first|omega|trivial|(show _=_;rfl)))|fail
 all_goals simpa [inB, *] using hQ _ (by omega)
def t8 {α:Type} (p:α→Bool):List α→Int→Int
 | [],_ => -1
 | x::xs,i=>if p x then i else t8 p xs (i+1)
theorem xq {α:Type} (p:α→Bool):∀ (l:List α) (i:Int),0≤i→decide (t8 p l i≥0)=l.any p
 | [],i,h=>by simp [t8]
 | x::xs,i,h=>by
   have ih:=xq p xs (i+1) (by omega)
   rw [Bool.eq_iff_iff,decide_eq_true_iff] at ih ⊢
   simp only [t8,List.any_cons,Bool.or_eq_true]
   by_cases hp:p x=true
   ·simp only [hp,if_true,true_or,iff_true];exact h
   ·simpa [hp] using ih
/-- a row of words -/
def zA (l:List ByteArray):List D:=l.map fun s=>.lit (.string s)
theorem xm:∀ l:List ByteArray,All2 (fun s d=>d=.lit (.string s)) l (zA l)
 | []=>rfl
 | s::l=>⟨_,_,rfl,rfl,xm l⟩
theorem zEI (l:List ByteArray) (hl:l.length≤4611686018427387904) (a:Option Addr) (c:Nat) (s:ByteArray):pe 113 [.sv a 0 (zA l) c,.str s] (t8 (fun x=>decide (s=x)) l 0):=fun N Q hQ=>by
 have hes:=xm l
 have hlen:(zA l).length≤4611686018427387904:=by rw [hes.len];exact hl
 refine pu N a _ c s Q fun _=>?_
 refine up hes hlen (fun i xs=>∀ (N':Nat),N≤N'→(∀ N'',N'≤N''→Q (t8 (fun x=>decide (s=x)) xs i) N'')→yg Q N a (zA l) c s ((zA l).length:Int) i N') ?_ ?_ N (Nat.le_refl _) hQ
 ·intro i hlt _ N' hN' hQ'
  refine vm _ _ _ _ _ _ _ _ _ ?_
  repeat' first|with_reducible intro _|simp only[hlt,Y1,Y2,Y3,Y4]|(with_reducible first|refine X1 ?_ ?_|refine X2 ?_ ?_|refine X3 ?_ ?_|refine X4 ?_ ?_|refine X5 ?_ ?_|refine X6 ?_ ?_|refine X7 ?_ ?_|refine X8 ?_ ?_|refine X9 ?_ ?_)|refine⟨_,_,_,rfl,?_⟩|refine⟨_,rfl,?_⟩|((with_reducible refine And.intro ?_ ?_);·first|omega|trivial|(show _=_;rfl)|((with_reducible refine And.intro ?_ ?_)<;>first|omega|trivial|(show _=_;rfl)))|fail
  exact hQ' _ (by omega)
 ·intro i x xs hat _ ih2 N' hN' hQ'
  have hb:=hat.b
  have hr:=hat.r
  simp only [t8] at hQ'
  refine vm _ _ _ _ _ _ _ _ _ ?_
  repeat' first|with_reducible intro _|simp only[hat.lt,hat.w,Int.toNat_natCast,hr,Y1,Y2,Y3,Y4]|(with_reducible first|refine X1 ?_ ?_|refine X2 ?_ ?_|refine X3 ?_ ?_|refine X4 ?_ ?_|refine X5 ?_ ?_|refine X6 ?_ ?_|refine X7 ?_ ?_|refine X8 ?_ ?_|refine X9 ?_ ?_)|refine⟨_,_,_,rfl,?_⟩|refine⟨_,rfl,?_⟩|((with_reducible refine And.intro ?_ ?_);·first|omega|trivial|(show _=_;rfl)|((with_reducible refine And.intro ?_ ?_)<;>first|omega|trivial|(show _=_;rfl)))|fail
  ·rename_i h _ _;subst h;exact Qi (hQ' _ (by omega)) (by simp)
  ·rename_i h;exact ih2 _ hN' fun N'' h2=>Qi (hQ' _ h2) (by rw [if_neg (by simpa using h)];simp)
theorem wQ (l:List ByteArray) (hl:l.length≤4611686018427387904) (a:Option Addr) (c:Nat) (s:ByteArray):vE 93 [.sv a 0 (zA l) c,.str s] (l.any fun x=>decide (s=x)):=fun N Q hQ=>by
 refine rX N a _ c s Q fun _=>?_
 repeat' first|with_reducible intro _|simp only[Y1,Y2,Y3,Y4]|(with_reducible first|refine X1 ?_ ?_|refine X2 ?_ ?_|refine X3 ?_ ?_|refine X4 ?_ ?_|refine X5 ?_ ?_|refine X6 ?_ ?_|refine X7 ?_ ?_|refine X8 ?_ ?_|refine X9 ?_ ?_)|refine⟨_,_,_,rfl,?_⟩|refine⟨_,rfl,?_⟩|((with_reducible refine And.intro ?_ ?_);·first|omega|trivial|(show _=_;rfl)|((with_reducible refine And.intro ?_ ?_)<;>first|omega|trivial|(show _=_;rfl)))|refine (zEI l hl a c s) _ _ ?_|fail
 exact Qb (hQ _ (by omega)) (xq _ l 0 (by omega)).symm
theorem uG (s:ByteArray) (hs:s.size≤4611686018427387904):vE 82 [.str s] (tx s):=fun N Q hQ=>by
 refine zGW N s Q ?_
 have key:=upN hs (fun i=>∀ N',N≤N'→(∀ N'',N'≤N''→Q (tF s i&&zGJ s) N'')→y9 Q N s (s.size:Int) i N') ?_ ?_
 ·exact key N (Nat.le_refl _) hQ
 ·intro hlt N' hN' hQ'
  have hc:=wQ [bytes [105,102],bytes [108,101,116],bytes [108,105,102,116],bytes [114,101,99],bytes [114,117,110]] (by simp)
  simp only [zA,List.map] at hc
  refine qB _ _ _ _ _ _ ?_
  repeat' first|with_reducible intro _|simp only[hlt,Y1,Y2,Y3,Y4]|(with_reducible first|refine X1 ?_ ?_|refine X2 ?_ ?_|refine X3 ?_ ?_|refine X4 ?_ ?_|refine X5 ?_ ?_|refine X6 ?_ ?_|refine X7 ?_ ?_|refine X8 ?_ ?_|refine X9 ?_ ?_)|refine⟨_,_,_,rfl,?_⟩|refine⟨_,rfl,?_⟩|((with_reducible refine And.intro ?_ ?_);·first|omega|trivial|(show _=_;rfl)|((with_reducible refine And.intro ?_ ?_)<;>first|omega|trivial|(show _=_;rfl)))|refine (yU _ _ _) _ _ ?_|refine (hc _ _ _) _ _ ?_|fail
  all_goals (refine Qb (hQ' _ (by omega)) ?_;rw [zCI])
  ·simp only [zGJ,List.any_cons,List.any_nil,Bool.or_false, *]
   cases decide (s=bytes [105,102])<;>cases decide (s=bytes [108,101,116])<;>cases decide (s=bytes [108,105,102,116])<;>cases decide (s=bytes [114,101,99])<;>cases decide (s=bytes [114,117,110])<;>rfl
  ·simp [zGJ, *]
 ·intro i hi hlt hw ih2 N' hN' hQ'
  refine qB _ _ _ _ _ _ ?_
  rw [zAp hi] at hQ'
  repeat' first|with_reducible intro _|simp only[hlt,hw,Int.toNat_natCast,Y1,Y2,Y3,Y4]|(with_reducible first|refine X1 ?_ ?_|refine X2 ?_ ?_|refine X3 ?_ ?_|refine X4 ?_ ?_|refine X5 ?_ ?_|refine X6 ?_ ?_|refine X7 ?_ ?_|refine X8 ?_ ?_|refine X9 ?_ ?_)|refine⟨_,_,_,rfl,?_⟩|refine⟨_,rfl,?_⟩|((with_reducible refine And.intro ?_ ?_);·first|omega|trivial|(show _=_;rfl)|((with_reducible refine And.intro ?_ ?_)<;>first|omega|trivial|(show _=_;rfl)))|fail
  all_goals first
   | (refine Qb (hQ' _ (by omega)) ?_;unfold zFm zCH;simp only [*];simp;done)
   | (refine ih2 _ (by omega) fun N'' h=>Qb (hQ' N'' (by omega)) ?_;unfold zFm zCH;simp only [*];simp;done)
theorem zBl:∀ (t:Ty) (d:D),t.Is d→t.cnt≤1073741824→pe 140 [.dg 2 d] t.cnt:=by
 refine Ty.ind fun k l ih d hd hc N Q hQ=>?_
 obtain ⟨a,es,c,rfl,hlen,hes⟩:=Ty.is_mk.1 hd
 simp only [Ty.cnt] at hc
 refine zCA N _ Q fun _=>⟨_,_,_,rfl,?_⟩
 refine up hes hlen (fun i xs=>∀ (m:Nat) (N':Nat),N≤N'→m+zO xs=1+zO l→xL Q N m a es c es.length i N') ?_ ?_ 1 N (Nat.le_refl _) rfl
 ·intro i hlt _ m N' hN' hm
  refine ut _ _ _ _ _ _ _ _ _ ?_
  simp only [zO] at hm
  repeat' first|with_reducible intro _|simp only[hlt,Y1,Y2,Y3,Y4]|(with_reducible first|refine X1 ?_ ?_|refine X2 ?_ ?_|refine X3 ?_ ?_|refine X4 ?_ ?_|refine X5 ?_ ?_|refine X6 ?_ ?_|refine X7 ?_ ?_|refine X8 ?_ ?_|refine X9 ?_ ?_)|refine⟨_,_,_,rfl,?_⟩|refine⟨_,rfl,?_⟩|((with_reducible refine And.intro ?_ ?_);·first|omega|trivial|(show _=_;rfl)|((with_reducible refine And.intro ?_ ?_)<;>first|omega|trivial|(show _=_;rfl)))|fail
  exact Qi (hQ _ (by omega)) (by simp only [Ty.cnt];omega)
 ·intro i x xs hat _ ih2 m N' hN' hm
  have hb:=hat.b
  have hxc:=wj hat.m
  simp only [zO] at hm
  refine ut _ _ _ _ _ _ _ _ _ ?_
  repeat' first|with_reducible intro _|simp only[hat.lt,hat.w,Int.toNat_natCast,Y1,Y2,Y3,Y4]|(with_reducible first|refine X1 ?_ ?_|refine X2 ?_ ?_|refine X3 ?_ ?_|refine X4 ?_ ?_|refine X5 ?_ ?_|refine X6 ?_ ?_|refine X7 ?_ ?_|refine X8 ?_ ?_|refine X9 ?_ ?_)|refine⟨_,_,_,rfl,?_⟩|refine⟨_,rfl,?_⟩|((with_reducible refine And.intro ?_ ?_);·first|omega|trivial|(show _=_;rfl)|((with_reducible refine And.intro ?_ ?_)<;>first|omega|trivial|(show _=_;rfl)))|refine (ih x hat.m _ hat.r (by omega)) _ _ ?_|fail
  rw [i64_in _ (by omega)]
  exact ih2 (m+x.cnt) _ (by omega) (by omega)
theorem zBF:∀ (t:Ty) (d:D),t.Is d→t.cnt≤1073741824→pe 141 [.dg 2 d] t.dep:=by
 refine Ty.ind fun k l ih d hd hc N Q hQ=>?_
 obtain ⟨a,es,c,rfl,hlen,hes⟩:=Ty.is_mk.1 hd
 simp only [Ty.cnt] at hc
 have hdl:=qq l
 refine zA2 N _ Q fun _=>⟨_,_,_,rfl,?_⟩
 refine up hes hlen (fun i xs=>∀ (m:Nat) (N':Nat),N≤N'→max m (t3 xs)=t3 l→y5 Q N m a es c es.length i N') ?_ ?_ 0 N (Nat.le_refl _) (by omega)
 ·intro i hlt _ m N' hN' hm
  refine v8 _ _ _ _ _ _ _ _ _ ?_
  simp only [t3] at hm
  repeat' first|with_reducible intro _|simp only[hlt,Y1,Y2,Y3,Y4]|(with_reducible first|refine X1 ?_ ?_|refine X2 ?_ ?_|refine X3 ?_ ?_|refine X4 ?_ ?_|refine X5 ?_ ?_|refine X6 ?_ ?_|refine X7 ?_ ?_|refine X8 ?_ ?_|refine X9 ?_ ?_)|refine⟨_,_,_,rfl,?_⟩|refine⟨_,rfl,?_⟩|((with_reducible refine And.intro ?_ ?_);·first|omega|trivial|(show _=_;rfl)|((with_reducible refine And.intro ?_ ?_)<;>first|omega|trivial|(show _=_;rfl)))|fail
  rw [i64_in _ (by omega)]
  exact Qi (hQ _ (by omega)) (by simp only [Ty.dep];omega)
 ·intro i x xs hat _ ih2 m N' hN' hm
  have hb:=hat.b
  have hxc:=wj hat.m
  simp only [t3] at hm
  refine v8 _ _ _ _ _ _ _ _ _ ?_
  repeat' first|with_reducible intro _|simp only[hat.lt,hat.w,Int.toNat_natCast,Y1,Y2,Y3,Y4]|(with_reducible first|refine X1 ?_ ?_|refine X2 ?_ ?_|refine X3 ?_ ?_|refine X4 ?_ ?_|refine X5 ?_ ?_|refine X6 ?_ ?_|refine X7 ?_ ?_|refine X8 ?_ ?_|refine X9 ?_ ?_)|refine⟨_,_,_,rfl,?_⟩|refine⟨_,rfl,?_⟩|((with_reducible refine And.intro ?_ ?_);·first|omega|trivial|(show _=_;rfl)|((with_reducible refine And.intro ?_ ?_)<;>first|omega|trivial|(show _=_;rfl)))|refine (ih x hat.m _ hat.r (by omega)) _ _ ?_|fail
  have e:(if (x.dep:Int)>(m:Int) then (x.dep:Int) else (m:Int))=((max m x.dep:Nat):Int):=by split<;>omega
  rw [e]
  exact ih2 _ _ (by omega) (by omega)
theorem zEG (t:Ty) (d:D) (hd:t.Is d):vE 143 [.dg 2 d] (pA t.k t.as.length):=fun N Q hQ=>by
 cases t with
 | mk k l=>
 obtain ⟨a,es,c,rfl,hlen,hes⟩:=Ty.is_mk.1 hd
 have hl:=hes.len
 simp only [Ty.k,Ty.as] at hQ
 refine pE N _ Q fun _=>?_
 cases hin:inB k 1 4 with
 | false=>
   repeat' first|with_reducible intro _|simp only[hin,Y1,Y2,Y3,Y4]|(with_reducible first|refine X1 ?_ ?_|refine X2 ?_ ?_|refine X3 ?_ ?_|refine X4 ?_ ?_|refine X5 ?_ ?_|refine X6 ?_ ?_|refine X7 ?_ ?_|refine X8 ?_ ?_|refine X9 ?_ ?_)|refine⟨_,_,_,rfl,?_⟩|refine⟨_,rfl,?_⟩|((with_reducible refine And.intro ?_ ?_);·first|omega|trivial|(show _=_;rfl)|((with_reducible refine And.intro ?_ ?_)<;>first|omega|trivial|(show _=_;rfl)))|refine (yU _ _ _) _ _ ?_|fail
   refine Qb (hQ _ (by omega)) ?_
   have:¬(1≤k∧k≤4):=fun h=>by rw [rv.2 h] at hin;cases hin
   unfold pA
   rw [if_neg (by omega),if_neg (by omega),if_neg (by omega)]
 | true=>
   have hb:=rv.1 hin
   have w0:IntKind.i64.wrap 0=0:=rfl
   have w1:IntKind.i64.wrap 1=1:=rfl
   have w2:IntKind.i64.wrap 2=2:=rfl
   have w3:IntKind.i64.wrap 3=3:=rfl
   have hk:k=1∨k=2∨k=3∨k=4:=by omega
   rcases hk with rfl | rfl | rfl | rfl
   all_goals
    repeat' first|with_reducible intro _|simp only[hin,w0,w1,w2,w3,Y1,Y2,Y3,Y4]|(with_reducible first|refine X1 ?_ ?_|refine X2 ?_ ?_|refine X3 ?_ ?_|refine X4 ?_ ?_|refine X5 ?_ ?_|refine X6 ?_ ?_|refine X7 ?_ ?_|refine X8 ?_ ?_|refine X9 ?_ ?_)|refine⟨_,_,_,rfl,?_⟩|refine⟨_,rfl,?_⟩|((with_reducible refine And.intro ?_ ?_);·first|omega|trivial|(show _=_;rfl)|((with_reducible refine And.intro ?_ ?_)<;>first|omega|trivial|(show _=_;rfl)))|refine (yU _ _ _) _ _ ?_|fail
    refine Qb (hQ _ (by omega)) ?_
    simp [pA,hl]
theorem zDZ:∀ l:List Ty,tU l=!(l.any fun x=>!x.form)
 | []=>rfl
 | t::ts=>by simp only [tU,List.any_cons,zDZ ts];cases t.form<;>simp
theorem zDQ {p:Ty→Bool} {l:List Ty} {es:List D} (h:All2 Ty.Is l es) (hlen:es.length≤4611686018427387904) (ad:Addr) (hp:∀ x∈l,∀ d,x.Is d→vE 159 [.dg 2 d,.pd ad 0 (.fn 143 [])] (p x)) (a:Option Addr) (c:Nat) :
  vE 158 [.sv a 2 es c,.fn 159 [.pd ad 0 (.fn 143 [])]] (l.any p):=fun N Q hQ=>by
 have hi:pe 165 [.sv a 2 es c,.fn 159 [.pd ad 0 (.fn 143 [])]] (t8 p l 0):=fun N Q hQ=>by
  refine u2 N a es c ad Q fun _=>?_
  refine up h hlen (fun i xs=>∀ (N':Nat),N≤N'→(∀ N'',N'≤N''→Q (t8 p xs i) N'')→yF Q N a es c ad es.length i N') ?_ ?_ N (Nat.le_refl _) hQ
  ·intro i hlt _ N' hN' hQ'
   refine wK _ _ _ _ _ _ _ _ _ ?_
   repeat' first|with_reducible intro _|simp only[hlt,Y1,Y2,Y3,Y4]|(with_reducible first|refine X1 ?_ ?_|refine X2 ?_ ?_|refine X3 ?_ ?_|refine X4 ?_ ?_|refine X5 ?_ ?_|refine X6 ?_ ?_|refine X7 ?_ ?_|refine X8 ?_ ?_|refine X9 ?_ ?_)|refine⟨_,_,_,rfl,?_⟩|refine⟨_,rfl,?_⟩|((with_reducible refine And.intro ?_ ?_);·first|omega|trivial|(show _=_;rfl)|((with_reducible refine And.intro ?_ ?_)<;>first|omega|trivial|(show _=_;rfl)))|fail
   exact hQ' _ (by omega)
  ·intro i x xs hat _ ih2 N' hN' hQ'
   have hb:=hat.b
   simp only [t8] at hQ'
   refine wK _ _ _ _ _ _ _ _ _ ?_
   repeat' first|with_reducible intro _|simp only[hat.lt,hat.w,Int.toNat_natCast,Y1,Y2,Y3,Y4]|(with_reducible first|refine X1 ?_ ?_|refine X2 ?_ ?_|refine X3 ?_ ?_|refine X4 ?_ ?_|refine X5 ?_ ?_|refine X6 ?_ ?_|refine X7 ?_ ?_|refine X8 ?_ ?_|refine X9 ?_ ?_)|refine⟨_,_,_,rfl,?_⟩|refine⟨_,rfl,?_⟩|((with_reducible refine And.intro ?_ ?_);·first|omega|trivial|(show _=_;rfl)|((with_reducible refine And.intro ?_ ?_)<;>first|omega|trivial|(show _=_;rfl)))|refine (hp x hat.m _ hat.r) _ _ ?_|fail
   ·exact Qi (hQ' _ (by omega)) (by rw [if_pos (by assumption)])
   ·rename_i h;exact ih2 _ (by omega) fun N'' h2=>Qi (hQ' _ (by omega)) (by rw [h];simp)
 refine vw N a es c ad Q fun _=>?_
 repeat' first|with_reducible intro _|simp only[Y1,Y2,Y3,Y4]|(with_reducible first|refine X1 ?_ ?_|refine X2 ?_ ?_|refine X3 ?_ ?_|refine X4 ?_ ?_|refine X5 ?_ ?_|refine X6 ?_ ?_|refine X7 ?_ ?_|refine X8 ?_ ?_|refine X9 ?_ ?_)|refine⟨_,_,_,rfl,?_⟩|refine⟨_,rfl,?_⟩|((with_reducible refine And.intro ?_ ?_);·first|omega|trivial|(show _=_;rfl)|((with_reducible refine And.intro ?_ ?_)<;>first|omega|trivial|(show _=_;rfl)))|refine hi _ _ ?_|fail
 exact Qb (hQ _ (by omega)) (xq _ l 0 (by omega)).symm
theorem zMC:∀ (t:Ty) (d:D),t.Is d→vE 142 [.dg 2 d,.fn 143 []] t.form:=by
 refine Ty.ind fun k l ih d hd N Q hQ=>?_
 have hd':=hd
 obtain ⟨a,es,c,rfl,hlen,hes⟩:=Ty.is_mk.1 hd
 refine zAs N _ Q fun _=>?_
 simp only [Ty.form,zDZ] at hQ
 repeat' first|with_reducible intro _|simp only[Y1,Y2,Y3,Y4]|(with_reducible first|refine X1 ?_ ?_|refine X2 ?_ ?_|refine X3 ?_ ?_|refine X4 ?_ ?_|refine X5 ?_ ?_|refine X6 ?_ ?_|refine X7 ?_ ?_|refine X8 ?_ ?_|refine X9 ?_ ?_)|refine⟨_,_,_,rfl,?_⟩|refine⟨_,rfl,?_⟩|((with_reducible refine And.intro ?_ ?_);·first|omega|trivial|(show _=_;rfl)|((with_reducible refine And.intro ?_ ?_)<;>first|omega|trivial|(show _=_;rfl)))|refine (zEG _ _ hd') _ _ ?_|refine (zDQ hes hlen _ (fun x hx d hd=>fun N Q hQ=>pK N d _ Q fun _ N1 hN1=>ih x hx d hd N1 _ fun N2 hN2 hle N3 hN3=>hQ N3 (by omega)) _ _) _ _ ?_|fail
 ·have h:pA (Ty.mk k l).k (Ty.mk k l).as.length=true:=by assumption
  exact Qb (hQ _ (by omega)) (by simp only [Ty.k,Ty.as] at h;rw [h,Bool.and_true])
 ·rename_i h _ _
  exact Qb (hQ _ (by omega)) (by simp only [Ty.k,Ty.as] at h;rw [h,Bool.and_false])
theorem xh (t:Ty) (d:D) (hd:t.Is d) (hc:t.cnt≤1073741824):vE 117 [.dg 2 d] t.valid:=fun N Q hQ=>by
 refine zAk N _ Q fun _=>?_
 repeat' first|with_reducible intro _|simp only[Y1,Y2,Y3,Y4]|(with_reducible first|refine X1 ?_ ?_|refine X2 ?_ ?_|refine X3 ?_ ?_|refine X4 ?_ ?_|refine X5 ?_ ?_|refine X6 ?_ ?_|refine X7 ?_ ?_|refine X8 ?_ ?_|refine X9 ?_ ?_)|refine⟨_,_,_,rfl,?_⟩|refine⟨_,rfl,?_⟩|((with_reducible refine And.intro ?_ ?_);·first|omega|trivial|(show _=_;rfl)|((with_reducible refine And.intro ?_ ?_)<;>first|omega|trivial|(show _=_;rfl)))|refine (zBl t d hd hc) _ _ ?_|refine (zBF t d hd hc) _ _ ?_|refine (zMC t d hd) _ _ ?_|fail
 ·refine Qb (hQ _ (by omega)) ?_
  have h1:t.cnt≤30:=by omega
  have h2:t.dep≤8:=by omega
  simp [Ty.valid, *]
 ·refine Qb (hQ _ (by omega)) ?_
  have h2:¬t.dep≤8:=by omega
  simp [Ty.valid, *]
 ·refine Qb (hQ _ (by omega)) ?_
  have h1:¬t.cnt≤30:=by omega
  simp [Ty.valid, *]
theorem zW:∀ (t u:Ty) (d e:D),t.Is d→u.Is e→vE 65 [.dg 2 d,.dg 2 e] (uu t u):=by
 refine Ty.ind fun k l ih u d e hd he N Q hQ=>?_
 cases u with
 | mk k' l'=>
 obtain ⟨a,es,c,rfl,hlen,hes⟩:=Ty.is_mk.1 hd
 obtain ⟨a',es',c',rfl,hlen',hes'⟩:=Ty.is_mk.1 he
 have hl:=hes.len
 have hl':=hes'.len
 simp only [uu] at hQ
 have hf:vE 96 [.sv a 2 es c,.sv a' 2 es' c',.fn 65 []] (vq l l'):=fun N Q hQ=>by
  have key:l.length=l'.length→∀ (N':Nat),N≤N'→(∀ N'',N'≤N''→Q (vq l (l'.drop 0)) N'')→zm Q N a' es' c' a es c es.length (0:Nat) N':=by
   intro hll
   refine up hes hlen (fun i xs=>∀ (N':Nat),N≤N'→(∀ N'',N'≤N''→Q (vq xs (l'.drop i)) N'')→zm Q N a' es' c' a es c es.length i N') ?_ ?_
   ·intro i hlt hi N' hN' hQ'
    refine wN _ _ _ _ _ _ _ _ _ _ _ ?_
    repeat' first|with_reducible intro _|simp only[hlt,Y1,Y2,Y3,Y4]|(with_reducible first|refine X1 ?_ ?_|refine X2 ?_ ?_|refine X3 ?_ ?_|refine X4 ?_ ?_|refine X5 ?_ ?_|refine X6 ?_ ?_|refine X7 ?_ ?_|refine X8 ?_ ?_|refine X9 ?_ ?_)|refine⟨_,_,_,rfl,?_⟩|refine⟨_,rfl,?_⟩|((with_reducible refine And.intro ?_ ?_);·first|omega|trivial|(show _=_;rfl)|((with_reducible refine And.intro ?_ ?_)<;>first|omega|trivial|(show _=_;rfl)))|fail
    refine Qb (hQ' _ (by assumption)) ?_
    rw [List.drop_eq_nil_of_le (by omega)]
    rfl
   ·intro i x xs hat _ ih2 N' hN' hQ'
    have hb:=hat.b
    have hi':i<l'.length:=by omega
    have hg:l'[i]?=some l'[i]:=List.getElem?_eq_getElem hi'
    have hd':l'.drop i=l'[i]::l'.drop (i+1):=List.drop_eq_getElem_cons hi'
    refine wN _ _ _ _ _ _ _ _ _ _ _ ?_
    rw [hd'] at hQ'
    repeat' first|with_reducible intro _|simp only[hat.lt,hat.w,Int.toNat_natCast,Y1,Y2,Y3,Y4]|(with_reducible first|refine X1 ?_ ?_|refine X2 ?_ ?_|refine X3 ?_ ?_|refine X4 ?_ ?_|refine X5 ?_ ?_|refine X6 ?_ ?_|refine X7 ?_ ?_|refine X8 ?_ ?_|refine X9 ?_ ?_)|refine⟨_,_,_,rfl,?_⟩|refine⟨_,rfl,?_⟩|((with_reducible refine And.intro ?_ ?_);·first|omega|trivial|(show _=_;rfl)|((with_reducible refine And.intro ?_ ?_)<;>first|omega|trivial|(show _=_;rfl)))|refine (ih x hat.m _ _ _ hat.r (hes'.get hg)) _ _ ?_|fail
    ·exact Qb (hQ' _ (by omega)) (by simp [vq, *])
    ·exact ih2 _ (by omega) fun N'' h=>Qb (hQ' N'' (by omega)) (by simp [vq, *])
  refine u5 N _ _ _ _ _ _ Q fun _ _=>?_
  repeat' first|with_reducible intro _|simp only[Y1,Y2,Y3,Y4]|(with_reducible first|refine X1 ?_ ?_|refine X2 ?_ ?_|refine X3 ?_ ?_|refine X4 ?_ ?_|refine X5 ?_ ?_|refine X6 ?_ ?_|refine X7 ?_ ?_|refine X8 ?_ ?_|refine X9 ?_ ?_)|refine⟨_,_,_,rfl,?_⟩|refine⟨_,rfl,?_⟩|((with_reducible refine And.intro ?_ ?_);·first|omega|trivial|(show _=_;rfl)|((with_reducible refine And.intro ?_ ?_)<;>first|omega|trivial|(show _=_;rfl)))|fail
  ·exact Qb (hQ _ (by assumption)) (zA5 (by omega))
  ·exact key (by omega) N (Nat.le_refl _) hQ
 refine zCb N _ _ Q fun _ _=>?_
 repeat' first|with_reducible intro _|simp only[Y1,Y2,Y3,Y4]|(with_reducible first|refine X1 ?_ ?_|refine X2 ?_ ?_|refine X3 ?_ ?_|refine X4 ?_ ?_|refine X5 ?_ ?_|refine X6 ?_ ?_|refine X7 ?_ ?_|refine X8 ?_ ?_|refine X9 ?_ ?_)|refine⟨_,_,_,rfl,?_⟩|refine⟨_,rfl,?_⟩|((with_reducible refine And.intro ?_ ?_);·first|omega|trivial|(show _=_;rfl)|((with_reducible refine And.intro ?_ ?_)<;>first|omega|trivial|(show _=_;rfl)))|refine hf _ _ ?_|fail
 ·exact Qb (hQ _ (by omega)) (by simp [*])
 ·exact Qb (hQ _ (by omega)) (by simp [*])
theorem sU (t:Ty) (d:D) (hd:t.Is d):vE 83 [.dg 2 d] t.base:=fun N Q hQ=>by
 cases t with
 | mk k l=>
 obtain ⟨a,es,c,rfl,hlen,hes⟩:=Ty.is_mk.1 hd
 have hl:=hes.len
 have hin:inB k 1 2=(k==1||k==2):=by
  rw [Bool.eq_iff_iff,rv]
  simp
  omega
 refine zGN N _ Q fun _=>?_
 repeat' first|with_reducible intro _|simp only[Y1,Y2,Y3,Y4]|(with_reducible first|refine X1 ?_ ?_|refine X2 ?_ ?_|refine X3 ?_ ?_|refine X4 ?_ ?_|refine X5 ?_ ?_|refine X6 ?_ ?_|refine X7 ?_ ?_|refine X8 ?_ ?_|refine X9 ?_ ?_)|refine⟨_,_,_,rfl,?_⟩|refine⟨_,rfl,?_⟩|((with_reducible refine And.intro ?_ ?_);·first|omega|trivial|(show _=_;rfl)|((with_reducible refine And.intro ?_ ?_)<;>first|omega|trivial|(show _=_;rfl)))|refine (yU _ _ _) _ _ ?_|fail
 all_goals (rename_i h _ _;rw [hin] at h;exact Qb (hQ _ (by omega)) (by simp only [Ty.base,Ty.k,Ty.as,h,hl];simp))
theorem pR (s:ByteArray):pe 156 [.str s] (zMg s):=fun N Q hQ=>by
 refine zFC N s Q ?_
 repeat' first|with_reducible intro _|simp only[Y1,Y2,Y3,Y4]|(with_reducible first|refine X1 ?_ ?_|refine X2 ?_ ?_|refine X3 ?_ ?_|refine X4 ?_ ?_|refine X5 ?_ ?_|refine X6 ?_ ?_|refine X7 ?_ ?_|refine X8 ?_ ?_|refine X9 ?_ ?_)|refine⟨_,_,_,rfl,?_⟩|refine⟨_,rfl,?_⟩|((with_reducible refine And.intro ?_ ?_);·first|omega|trivial|(show _=_;rfl)|((with_reducible refine And.intro ?_ ?_)<;>first|omega|trivial|(show _=_;rfl)))|fail
 all_goals (refine Qi (hQ _ (by assumption)) ?_;unfold zMg;(repeat' split)<;>first | rfl | contradiction)
def arI (k:Int) (nm:ByteArray):Int:=
 if k=4 then zMg nm else if k=5 then 3 else if k=7∨k=8 then 2 else if k=6∨k=9∨k=10∨k=11∨k=12∨k=13 then 1 else 0
theorem zJg {k n:Int} {nm ot:ByteArray} {t0 t1 r0 r1 x:D}:pe 137 [.dg 9 (.ag [.lit (.int .i64 k),.lit (.string nm),.lit (.string ot),.lit (.int .i64 n),t0,t1,r0,r1,x])] (arI k nm):=fun N Q hQ=>by
 refine zIO N _ Q fun _=>?_
 repeat' first|with_reducible intro _|simp only[Y1,Y2,Y3,Y4]|(with_reducible first|refine X1 ?_ ?_|refine X2 ?_ ?_|refine X3 ?_ ?_|refine X4 ?_ ?_|refine X5 ?_ ?_|refine X6 ?_ ?_|refine X7 ?_ ?_|refine X8 ?_ ?_|refine X9 ?_ ?_)|refine⟨_,_,_,rfl,?_⟩|refine⟨_,rfl,?_⟩|((with_reducible refine And.intro ?_ ?_);·first|omega|trivial|(show _=_;rfl)|((with_reducible refine And.intro ?_ ?_)<;>first|omega|trivial|(show _=_;rfl)))|refine (pR _) _ _ ?_|fail
 all_goals (refine Qi (hQ _ (by omega)) ?_;simp [arI, *])
theorem zDu (n:Int):vE 157 [.int .i64 n] (inB n 0 10006):=fun N Q hQ=>by
 refine zEA N n Q ?_
 repeat' first|with_reducible intro _|simp only[Y1,Y2,Y3,Y4]|(with_reducible first|refine X1 ?_ ?_|refine X2 ?_ ?_|refine X3 ?_ ?_|refine X4 ?_ ?_|refine X5 ?_ ?_|refine X6 ?_ ?_|refine X7 ?_ ?_|refine X8 ?_ ?_|refine X9 ?_ ?_)|refine⟨_,_,_,rfl,?_⟩|refine⟨_,rfl,?_⟩|((with_reducible refine And.intro ?_ ?_);·first|omega|trivial|(show _=_;rfl)|((with_reducible refine And.intro ?_ ?_)<;>first|omega|trivial|(show _=_;rfl)))|refine (yU _ _ _) _ _ ?_|fail
 exact hQ _ (by omega)
def zFr (k:Int) (nm ot:ByteArray) (n:Int) (ty re:Ty):Bool:=
 if k=1∨k=8 then tx nm else if k=2 then inB n 0 10006 else if k=3 then inB n 0 1 else if k=4 then decide (zMg nm>0)
 else if k=6 then tx nm&&ty.valid else if k=9 then tx nm&&(tx ot&&(!decide (nm=ot)&&(ty.valid&&re.valid))) else inB k 1 13
theorem zFL {k n:Int} {nm ot:ByteArray} {ty re:Ty} {t0 t1 r0 r1 x:D} (h:Tm.Hd nm ot ty re t0 t1 r0 r1) (hc:ty.cnt≤1073741824) (hc2:re.cnt≤1073741824) :
  vE 138 [.dg 9 (.ag [.lit (.int .i64 k),.lit (.string nm),.lit (.string ot),.lit (.int .i64 n),t0,t1,r0,r1,x])] (zFr k nm ot n ty re):=fun N Q hQ=>by
 refine zFV N _ Q fun _=>?_
 repeat' first|with_reducible intro _|simp only[Y1,Y2,Y3,Y4]|(with_reducible first|refine X1 ?_ ?_|refine X2 ?_ ?_|refine X3 ?_ ?_|refine X4 ?_ ?_|refine X5 ?_ ?_|refine X6 ?_ ?_|refine X7 ?_ ?_|refine X8 ?_ ?_|refine X9 ?_ ?_)|refine⟨_,_,_,rfl,?_⟩|refine⟨_,rfl,?_⟩|((with_reducible refine And.intro ?_ ?_);·first|omega|trivial|(show _=_;rfl)|((with_reducible refine And.intro ?_ ?_)<;>first|omega|trivial|(show _=_;rfl)))|refine (pR _) _ _ ?_|refine (uG _ h.nm) _ _ ?_|refine (uG _ h.ot) _ _ ?_|refine (zDu _) _ _ ?_|refine (yU _ _ _) _ _ ?_|refine (xh _ _ h.ty hc) _ _ ?_|refine (xh _ _ h.re hc2) _ _ ?_|fail
 all_goals (refine Qb (hQ _ (by omega)) ?_;simp [zFr, *])
theorem zJO (t:Ty):uu t t=true:=(sW t t).2 rfl
def zLi (k:Int) (nm ot:ByteArray) (n:Int) (ty re:Ty) (m:Int):Bool:=
 decide (m=arI k nm)&&(zFr k nm ot n ty re&&((decide (k=1∨k=8∨k=4∨k=6∨k=9)||decide (nm=bytes []))&&((decide (k=9)||decide (ot=bytes []))&&((decide (k=2∨k=3)||decide (n=0)) &&
  ((decide (k=6∨k=9)||uu ty tZero)&&(decide (k=9)||uu re tZero))))))
theorem zFd {k n:Int} {nm ot:ByteArray} {ty re:Ty} {t0 t1 r0 r1:D} {a:Option Addr} {es:List D} {c:Nat} (h:Tm.Hd nm ot ty re t0 t1 r0 r1) (hc:ty.cnt≤1073741824) (hc2:re.cnt≤1073741824) :
  vE 114 [.dg 9 (.ag [.lit (.int .i64 k),.lit (.string nm),.lit (.string ot),.lit (.int .i64 n),t0,t1,r0,r1,.sl a 9 es c])] (zLi k nm ot n ty re es.length):=fun N Q hQ=>by
 refine zHV N _ Q fun _=>?_
 repeat' first|with_reducible intro _|simp only[Y1,Y2,Y3,Y4]|(with_reducible first|refine X1 ?_ ?_|refine X2 ?_ ?_|refine X3 ?_ ?_|refine X4 ?_ ?_|refine X5 ?_ ?_|refine X6 ?_ ?_|refine X7 ?_ ?_|refine X8 ?_ ?_|refine X9 ?_ ?_)|refine⟨_,_,_,rfl,?_⟩|refine⟨_,rfl,?_⟩|((with_reducible refine And.intro ?_ ?_);·first|omega|trivial|(show _=_;rfl)|((with_reducible refine And.intro ?_ ?_)<;>first|omega|trivial|(show _=_;rfl)))|refine zJg _ _ ?_|refine (zFL h hc hc2) _ _ ?_|refine (zW ty tZero _ _ h.ty xO) _ _ ?_|refine (zW re tZero _ _ h.re xO) _ _ ?_|refine (zW ty ty _ _ h.ty h.ty) _ _ ?_|refine (zW re re _ _ h.re h.re) _ _ ?_|fail
 all_goals first | (exfalso;omega) | (refine Qb (hQ _ (by omega)) ?_;simp [zLi,zJO, *];done) | (refine Qb (hQ _ (by omega)) ?_;simp_all [zLi,zJO];done)
theorem zQb (t:Ty):uu t tZero=t.zero:=by
 cases t with
 | mk k l => cases l<;>simp [uu,tZero,vq,Ty.zero,Ty.k,Ty.as]
             try omega
theorem zLd {t:Ty} (h:t.zero=true):t.valid=false:=by
 cases t with
 | mk k l=>
   simp only [Ty.zero,Ty.k,Ty.as,Bool.and_eq_true,beq_iff_eq] at h
   simp [Ty.valid,Ty.form,pA,h.1]
theorem zSS (n:Int):inB n 0 0=decide (n=0):=by
 rw [Bool.eq_iff_iff,rv,decide_eq_true_iff];omega
theorem zp (t:Ty) (b:Bool):(!t.valid&&(t.zero&&b))=(t.zero&&b):=by
 cases h:t.zero with
 | false=>simp
 | true=>rw [zLd h];simp
theorem zPP (k:Int) (nm ot:ByteArray) (n:Int) (ty re:Ty) (m:Int) (hm:0≤m):zLi k nm ot n ty re m=(xJ k nm ot n ty re&&m==zJ3 k nm):=by
 by_cases hk:k=1∨k=2∨k=3∨k=4∨k=5∨k=6∨k=7∨k=8∨k=9∨k=10∨k=11∨k=12∨k=13
 ·rw [zR3 m]
  have b5:inB 5 1 13=true:=rfl
  have b7:inB 7 1 13=true:=rfl
  have b10:inB 10 1 13=true:=rfl
  have b11:inB 11 1 13=true:=rfl
  have b12:inB 12 1 13=true:=rfl
  have b13:inB 13 1 13=true:=rfl
  rcases hk with rfl | rfl | rfl | rfl | rfl | rfl | rfl | rfl | rfl | rfl | rfl | rfl | rfl
  all_goals
   simp [zLi,arI,zFr,xJ,zDS,zD9,zJ3,zQb,zSS,zp,b5,b7,b10,b11,b12,b13]
   try (rw [Bool.eq_iff_iff];simp [and_comm,and_left_comm,and_assoc])
 ·have h1:zJ3 k nm = -1:=by
   unfold zJ3;rw [if_neg (by omega),if_neg (by omega),if_neg (by omega),if_neg (by omega),if_neg (by omega)]
  have h2:inB k 1 13=false:=by
   cases h:inB k 1 13 with
   | false=>rfl
   | true=>have:=rv.1 h;omega
  have h3:zFr k nm ot n ty re=false:=by
   unfold zFr;rw [if_neg (by omega),if_neg (by omega),if_neg (by omega),if_neg (by omega),if_neg (by omega),if_neg (by omega),h2]
  have h4:(m==zJ3 k nm)=false:=by rw [h1,zR3];exact decide_eq_false (by omega)
  rw [h4,zLi,h3]
  simp
theorem zPI {k n:Int} {nm ot:ByteArray} {ty re:Ty} {t0 t1 r0 r1:D} {a:Option Addr} {es:List D} {c:Nat} (h:Tm.Hd nm ot ty re t0 t1 r0 r1) (hc:ty.cnt≤1073741824) (hc2:re.cnt≤1073741824) :
  vE 114 [.dg 9 (.ag [.lit (.int .i64 k),.lit (.string nm),.lit (.string ot),.lit (.int .i64 n),t0,t1,r0,r1,.sl a 9 es c])] (xJ k nm ot n ty re&&(es.length:Int)==zJ3 k nm):=by
 rw [←zPP _ _ _ _ _ _ _ (by omega)]
 exact zFd h hc hc2
theorem zH6:∀ l:List Tm,zFe l=!(l.any fun x=>!x.ok)
 | []=>rfl
 | t::ts=>by simp only [zFe,List.any_cons,zH6 ts];cases t.ok<;>simp
theorem zD0 {p:Tm→Bool} {l:List Tm} {es:List D} (h:All2 Tm.Is l es) (hlen:es.length≤4611686018427387904) (ad:Addr) (hp:∀ x∈l,∀ d,x.Is d→vE 81 [.dg 9 d,.pd ad 0 (.fn 114 [])] (p x)) (a:Option Addr) (c:Nat) :
  vE 35 [.sv a 9 es c,.fn 81 [.pd ad 0 (.fn 114 [])]] (l.any p):=fun N Q hQ=>by
 have hi:pe 67 [.sv a 9 es c,.fn 81 [.pd ad 0 (.fn 114 [])]] (t8 p l 0):=fun N Q hQ=>by
  refine uv N a es c ad Q fun _=>?_
  refine up h hlen (fun i xs=>∀ (N':Nat),N≤N'→(∀ N'',N'≤N''→Q (t8 p xs i) N'')→yJ Q N a es c ad es.length i N') ?_ ?_ N (Nat.le_refl _) hQ
  ·intro i hlt _ N' hN' hQ'
   refine wS _ _ _ _ _ _ _ _ _ ?_
   repeat' first|with_reducible intro _|simp only[hlt,Y1,Y2,Y3,Y4]|(with_reducible first|refine X1 ?_ ?_|refine X2 ?_ ?_|refine X3 ?_ ?_|refine X4 ?_ ?_|refine X5 ?_ ?_|refine X6 ?_ ?_|refine X7 ?_ ?_|refine X8 ?_ ?_|refine X9 ?_ ?_)|refine⟨_,_,_,rfl,?_⟩|refine⟨_,rfl,?_⟩|((with_reducible refine And.intro ?_ ?_);·first|omega|trivial|(show _=_;rfl)|((with_reducible refine And.intro ?_ ?_)<;>first|omega|trivial|(show _=_;rfl)))|fail
   exact hQ' _ (by omega)
  ·intro i x xs hat _ ih2 N' hN' hQ'
   have hb:=hat.b
   simp only [t8] at hQ'
   refine wS _ _ _ _ _ _ _ _ _ ?_
   repeat' first|with_reducible intro _|simp only[hat.lt,hat.w,Int.toNat_natCast,Y1,Y2,Y3,Y4]|(with_reducible first|refine X1 ?_ ?_|refine X2 ?_ ?_|refine X3 ?_ ?_|refine X4 ?_ ?_|refine X5 ?_ ?_|refine X6 ?_ ?_|refine X7 ?_ ?_|refine X8 ?_ ?_|refine X9 ?_ ?_)|refine⟨_,_,_,rfl,?_⟩|refine⟨_,rfl,?_⟩|((with_reducible refine And.intro ?_ ?_);·first|omega|trivial|(show _=_;rfl)|((with_reducible refine And.intro ?_ ?_)<;>first|omega|trivial|(show _=_;rfl)))|refine (hp x hat.m _ hat.r) _ _ ?_|fail
   ·exact Qi (hQ' _ (by omega)) (by rw [if_pos (by assumption)])
   ·rename_i h;exact ih2 _ (by omega) fun N'' h2=>Qi (hQ' _ (by omega)) (by rw [h];simp)
 refine vp N a es c ad Q fun _=>?_
 repeat' first|with_reducible intro _|simp only[Y1,Y2,Y3,Y4]|(with_reducible first|refine X1 ?_ ?_|refine X2 ?_ ?_|refine X3 ?_ ?_|refine X4 ?_ ?_|refine X5 ?_ ?_|refine X6 ?_ ?_|refine X7 ?_ ?_|refine X8 ?_ ?_|refine X9 ?_ ?_)|refine⟨_,_,_,rfl,?_⟩|refine⟨_,rfl,?_⟩|((with_reducible refine And.intro ?_ ?_);·first|omega|trivial|(show _=_;rfl)|((with_reducible refine And.intro ?_ ?_)<;>first|omega|trivial|(show _=_;rfl)))|refine hi _ _ ?_|fail
 exact Qb (hQ _ (by omega)) (xq _ l 0 (by omega)).symm
theorem zLX:∀ (t:Tm) (d:D),t.Is d→t.cnt≤1073741824→vE 56 [.dg 9 d,.fn 114 []] t.ok:=by
 refine Tm.ind fun k nm ot n ty re l ih d hd hc N Q hQ=>?_
 obtain ⟨t0,t1,r0,r1,a,es,c,rfl,hh,hlen,hes⟩:=Tm.is_mk.1 hd
 have hl:=hes.len
 simp only [Tm.cnt] at hc
 refine zAu N _ Q fun _=>?_
 simp only [Tm.ok,zH6,←hl] at hQ
 repeat' first|with_reducible intro _|simp only[Y1,Y2,Y3,Y4]|(with_reducible first|refine X1 ?_ ?_|refine X2 ?_ ?_|refine X3 ?_ ?_|refine X4 ?_ ?_|refine X5 ?_ ?_|refine X6 ?_ ?_|refine X7 ?_ ?_|refine X8 ?_ ?_|refine X9 ?_ ?_)|refine⟨_,_,_,rfl,?_⟩|refine⟨_,rfl,?_⟩|((with_reducible refine And.intro ?_ ?_);·first|omega|trivial|(show _=_;rfl)|((with_reducible refine And.intro ?_ ?_)<;>first|omega|trivial|(show _=_;rfl)))|refine (zPI hh (by omega) (by omega)) _ _ ?_|refine (zD0 hes hlen _ (fun x hx d hd=>fun N Q hQ=>pG N d _ Q fun _ N1 hN1=>ih x hx d hd (by have:=yY hx;omega) N1 _ fun N2 hN2 hle N3 hN3=>hQ N3 (by omega)) _ _) _ _ ?_|fail
 ·have h:(xJ k nm ot n ty re&&(es.length:Int)==zJ3 k nm)=true:=by assumption
  exact Qb (hQ _ (by omega)) (by rw [h,Bool.and_true])
 ·have h:(xJ k nm ot n ty re&&(es.length:Int)==zJ3 k nm)=false:=by assumption
  exact Qb (hQ _ (by omega)) (by rw [h,Bool.and_false])
theorem zBC (t:Tm) (d:D) (hd:t.Is d) (hc:t.cnt≤1073741824):vE 85 [.dg 9 d] t.ok:=fun N Q hQ=>by
 refine zHQ N _ Q fun _=>?_
 repeat' first|with_reducible intro _|simp only[Y1,Y2,Y3,Y4]|(with_reducible first|refine X1 ?_ ?_|refine X2 ?_ ?_|refine X3 ?_ ?_|refine X4 ?_ ?_|refine X5 ?_ ?_|refine X6 ?_ ?_|refine X7 ?_ ?_|refine X8 ?_ ?_|refine X9 ?_ ?_)|refine⟨_,_,_,rfl,?_⟩|refine⟨_,rfl,?_⟩|((with_reducible refine And.intro ?_ ?_);·first|omega|trivial|(show _=_;rfl)|((with_reducible refine And.intro ?_ ?_)<;>first|omega|trivial|(show _=_;rfl)))|refine (zLX t d hd hc) _ _ ?_|fail
 exact hQ _ (by omega)
theorem zKJ {k n m:Int} {c1 c2 c4 c5 c6 c7 c8:D} (h:0≤m∧m≤2):pe 144 [.dg 9 (.ag [.lit (.int .i64 k),c1,c2,.lit (.int .i64 n),c4,c5,c6,c7,c8]),.int .i64 m] (yR k m):=fun N Q hQ=>by
 refine zCq N _ m Q fun _=>?_
 rw [i64_in (m+1) (by omega),i64_in (m - 1) (by omega)]
 repeat' first|with_reducible intro _|simp only[Y1,Y2,Y3,Y4]|(with_reducible first|refine X1 ?_ ?_|refine X2 ?_ ?_|refine X3 ?_ ?_|refine X4 ?_ ?_|refine X5 ?_ ?_|refine X6 ?_ ?_|refine X7 ?_ ?_|refine X8 ?_ ?_|refine X9 ?_ ?_)|refine⟨_,_,_,rfl,?_⟩|refine⟨_,rfl,?_⟩|((with_reducible refine And.intro ?_ ?_);·first|omega|trivial|(show _=_;rfl)|((with_reducible refine And.intro ?_ ?_)<;>first|omega|trivial|(show _=_;rfl)))|fail
 all_goals (refine Qi (hQ _ (by omega)) ?_;simp [yR, *])
theorem zCG (d:D) (m:Int):vE 119 [.dg 9 d,.int .i64 m] (inB m 0 2):=fun N Q hQ=>by
 refine zBZ N _ m Q fun _=>?_
 repeat' first|with_reducible intro _|simp only[Y1,Y2,Y3,Y4]|(with_reducible first|refine X1 ?_ ?_|refine X2 ?_ ?_|refine X3 ?_ ?_|refine X4 ?_ ?_|refine X5 ?_ ?_|refine X6 ?_ ?_|refine X7 ?_ ?_|refine X8 ?_ ?_|refine X9 ?_ ?_)|refine⟨_,_,_,rfl,?_⟩|refine⟨_,rfl,?_⟩|((with_reducible refine And.intro ?_ ?_);·first|omega|trivial|(show _=_;rfl)|((with_reducible refine And.intro ?_ ?_)<;>first|omega|trivial|(show _=_;rfl)))|refine (yU _ _ _) _ _ ?_|fail
 exact hQ _ (by omega)
theorem zO9:∀ (t:Tm) (d:D),t.Is d→∀ m:Int,vE 118 [.dg 9 d,.int .i64 m,.fn 119 []] (t.lev m):=by
 refine Tm.ind fun k nm ot n ty re l ih d hd m N Q hQ=>?_
 obtain ⟨t0,t1,r0,r1,a,es,c,rfl,hh,hlen,hes⟩:=Tm.is_mk.1 hd
 have hl:=hes.len
 refine zCs N _ m Q fun _=>?_
 cases hin:inB m 0 2 with
 | false=>
   repeat' first|with_reducible intro _|simp only[hin,Y1,Y2,Y3,Y4]|(with_reducible first|refine X1 ?_ ?_|refine X2 ?_ ?_|refine X3 ?_ ?_|refine X4 ?_ ?_|refine X5 ?_ ?_|refine X6 ?_ ?_|refine X7 ?_ ?_|refine X8 ?_ ?_|refine X9 ?_ ?_)|refine⟨_,_,_,rfl,?_⟩|refine⟨_,rfl,?_⟩|((with_reducible refine And.intro ?_ ?_);·first|omega|trivial|(show _=_;rfl)|((with_reducible refine And.intro ?_ ?_)<;>first|omega|trivial|(show _=_;rfl)))|refine (zCG _ _) _ _ ?_|fail
   exact Qb (hQ _ (by omega)) (by simp [Tm.lev,hin])
 | true=>
   have hb:=rv.1 hin
   have key:=up hes hlen (fun i xs=>∀ (N':Nat),N≤N'→(∀ N'',N'≤N''→Q (pO xs (yR k m)) N'')→w8 Q N m a es c es.length i (.ag [.lit (.int .i64 k),.lit (.string nm),.lit (.string ot),.lit (.int .i64 n),t0,t1,r0,r1,.sl a 9 es c]) N') ?_ ?_
   ·repeat' first|with_reducible intro _|simp only[hin,Y1,Y2,Y3,Y4]|(with_reducible first|refine X1 ?_ ?_|refine X2 ?_ ?_|refine X3 ?_ ?_|refine X4 ?_ ?_|refine X5 ?_ ?_|refine X6 ?_ ?_|refine X7 ?_ ?_|refine X8 ?_ ?_|refine X9 ?_ ?_)|refine⟨_,_,_,rfl,?_⟩|refine⟨_,rfl,?_⟩|((with_reducible refine And.intro ?_ ?_);·first|omega|trivial|(show _=_;rfl)|((with_reducible refine And.intro ?_ ?_)<;>first|omega|trivial|(show _=_;rfl)))|refine (zCG _ _) _ _ ?_|fail
    exact key _ (by omega) fun N'' h=>Qb (hQ N'' (by omega)) (by simp [Tm.lev,hin])
   ·intro i hlt _ N' hN' hQ'
    refine rr _ _ _ _ _ _ _ _ _ _ ?_
    repeat' first|with_reducible intro _|simp only[hlt,Y1,Y2,Y3,Y4]|(with_reducible first|refine X1 ?_ ?_|refine X2 ?_ ?_|refine X3 ?_ ?_|refine X4 ?_ ?_|refine X5 ?_ ?_|refine X6 ?_ ?_|refine X7 ?_ ?_|refine X8 ?_ ?_|refine X9 ?_ ?_)|refine⟨_,_,_,rfl,?_⟩|refine⟨_,rfl,?_⟩|((with_reducible refine And.intro ?_ ?_);·first|omega|trivial|(show _=_;rfl)|((with_reducible refine And.intro ?_ ?_)<;>first|omega|trivial|(show _=_;rfl)))|fail
    exact Qb (hQ' _ (by omega)) (by simp [pO])
   ·intro i x xs hat _ ih2 N' hN' hQ'
    have hb2:=hat.b
    refine rr _ _ _ _ _ _ _ _ _ _ ?_
    repeat' first|with_reducible intro _|simp only[hat.lt,hat.w,Int.toNat_natCast,Y1,Y2,Y3,Y4]|(with_reducible first|refine X1 ?_ ?_|refine X2 ?_ ?_|refine X3 ?_ ?_|refine X4 ?_ ?_|refine X5 ?_ ?_|refine X6 ?_ ?_|refine X7 ?_ ?_|refine X8 ?_ ?_|refine X9 ?_ ?_)|refine⟨_,_,_,rfl,?_⟩|refine⟨_,rfl,?_⟩|((with_reducible refine And.intro ?_ ?_);·first|omega|trivial|(show _=_;rfl)|((with_reducible refine And.intro ?_ ?_)<;>first|omega|trivial|(show _=_;rfl)))|refine (zKJ hb) _ _ ?_|refine (ih x hat.m _ hat.r _) _ _ ?_|fail
    ·refine Qb (hQ' _ (by omega)) ?_;simp [pO, *]
    ·exact ih2 _ (by omega) fun N'' h=>Qb (hQ' N'' (by omega)) (by simp [pO, *])
theorem qE (t:Tm) (d:D) (hd:t.Is d) (hc:t.cnt≤1073741824) (m:Int):vE 88 [.dg 9 d,.int .i64 m] (zJ7 t m):=fun N Q hQ=>by
 refine zD3 N _ m Q fun _=>?_
 repeat' first|with_reducible intro _|simp only[Y1,Y2,Y3,Y4]|(with_reducible first|refine X1 ?_ ?_|refine X2 ?_ ?_|refine X3 ?_ ?_|refine X4 ?_ ?_|refine X5 ?_ ?_|refine X6 ?_ ?_|refine X7 ?_ ?_|refine X8 ?_ ?_|refine X9 ?_ ?_)|refine⟨_,_,_,rfl,?_⟩|refine⟨_,rfl,?_⟩|((with_reducible refine And.intro ?_ ?_);·first|omega|trivial|(show _=_;rfl)|((with_reducible refine And.intro ?_ ?_)<;>first|omega|trivial|(show _=_;rfl)))|refine (zBC t d hd hc) _ _ ?_|refine (zO9 t d hd m) _ _ ?_|fail
 all_goals (refine Qb (hQ _ (by omega)) ?_;simp [zJ7, *])
theorem zNz (x:Tg) (d:D) (hd:x.Is d) (hc:x.ty.cnt≤1073741824):vE 116 [.dg 4 d] (!x.ok):=fun N Q hQ=>by
 obtain ⟨t0,t1,rfl,hs,ht⟩:=hd
 refine zFY N _ Q fun _=>?_
 repeat' first|with_reducible intro _|simp only[Y1,Y2,Y3,Y4]|(with_reducible first|refine X1 ?_ ?_|refine X2 ?_ ?_|refine X3 ?_ ?_|refine X4 ?_ ?_|refine X5 ?_ ?_|refine X6 ?_ ?_|refine X7 ?_ ?_|refine X8 ?_ ?_|refine X9 ?_ ?_)|refine⟨_,_,_,rfl,?_⟩|refine⟨_,rfl,?_⟩|((with_reducible refine And.intro ?_ ?_);·first|omega|trivial|(show _=_;rfl)|((with_reducible refine And.intro ?_ ?_)<;>first|omega|trivial|(show _=_;rfl)))|refine (uG _ hs) _ _ ?_|refine (xh _ _ ht hc) _ _ ?_|refine (yU _ _ _) _ _ ?_|fail
 all_goals (refine Qb (hQ _ (by omega)) ?_;simp [Tg.ok, *])
theorem zJM:∀ l:List Tg,zIY l=!(l.any fun x=>!x.ok)
 | []=>rfl
 | t::ts=>by simp only [zIY,List.any_cons,zJM ts];cases t.ok<;>simp
theorem rz {g:List Tg} {es:List D} (h:Ctx g es) (hc:∀ x∈g,x.ty.cnt≤1073741824) (a:Option Addr) (c:Nat):vE 87 [.sv a 4 es c] (zGb g):=fun N Q hQ=>by
 have hl:=h.all.len
 have hi:pe 139 [.sv a 4 es c,.fn 116 []] (t8 (fun x=>!x.ok) g 0):=fun N Q hQ=>by
  refine uJ N a es c Q fun _=>?_
  refine up h.all h.len (fun i xs=>∀ (N':Nat),N≤N'→(∀ N'',N'≤N''→Q (t8 (fun x=>!x.ok) xs i) N'')→zx Q N a es c es.length i N') ?_ ?_ N (Nat.le_refl _) hQ
  ·intro i hlt _ N' hN' hQ'
   refine xk _ _ _ _ _ _ _ _ ?_
   repeat' first|with_reducible intro _|simp only[hlt,Y1,Y2,Y3,Y4]|(with_reducible first|refine X1 ?_ ?_|refine X2 ?_ ?_|refine X3 ?_ ?_|refine X4 ?_ ?_|refine X5 ?_ ?_|refine X6 ?_ ?_|refine X7 ?_ ?_|refine X8 ?_ ?_|refine X9 ?_ ?_)|refine⟨_,_,_,rfl,?_⟩|refine⟨_,rfl,?_⟩|((with_reducible refine And.intro ?_ ?_);·first|omega|trivial|(show _=_;rfl)|((with_reducible refine And.intro ?_ ?_)<;>first|omega|trivial|(show _=_;rfl)))|fail
   exact hQ' _ (by omega)
  ·intro i x xs hat _ ih2 N' hN' hQ'
   have hb:=hat.b
   simp only [t8] at hQ'
   refine xk _ _ _ _ _ _ _ _ ?_
   repeat' first|with_reducible intro _|simp only[hat.lt,hat.w,Int.toNat_natCast,Y1,Y2,Y3,Y4]|(with_reducible first|refine X1 ?_ ?_|refine X2 ?_ ?_|refine X3 ?_ ?_|refine X4 ?_ ?_|refine X5 ?_ ?_|refine X6 ?_ ?_|refine X7 ?_ ?_|refine X8 ?_ ?_|refine X9 ?_ ?_)|refine⟨_,_,_,rfl,?_⟩|refine⟨_,rfl,?_⟩|((with_reducible refine And.intro ?_ ?_);·first|omega|trivial|(show _=_;rfl)|((with_reducible refine And.intro ?_ ?_)<;>first|omega|trivial|(show _=_;rfl)))|refine (zNz x _ hat.r (hc x hat.m)) _ _ ?_|fail
   all_goals first
    | exact Qi (hQ' _ (by omega)) (by rw [if_pos (by simp [*])])
    | exact ih2 _ (by omega) fun N'' h2=>Qi (hQ' _ (by omega)) (by rw [if_neg (by simp [*])];simp)
 have hcf:vE 115 [.sv a 4 es c,.fn 116 []] (g.any fun x=>!x.ok):=fun N Q hQ=>by
  refine vW N a es c Q fun _=>?_
  repeat' first|with_reducible intro _|simp only[Y1,Y2,Y3,Y4]|(with_reducible first|refine X1 ?_ ?_|refine X2 ?_ ?_|refine X3 ?_ ?_|refine X4 ?_ ?_|refine X5 ?_ ?_|refine X6 ?_ ?_|refine X7 ?_ ?_|refine X8 ?_ ?_|refine X9 ?_ ?_)|refine⟨_,_,_,rfl,?_⟩|refine⟨_,rfl,?_⟩|((with_reducible refine And.intro ?_ ?_);·first|omega|trivial|(show _=_;rfl)|((with_reducible refine And.intro ?_ ?_)<;>first|omega|trivial|(show _=_;rfl)))|refine hi _ _ ?_|fail
  exact Qb (hQ _ (by omega)) (xq _ g 0 (by omega)).symm
 refine zJE N a es c Q fun _=>?_
 repeat' first|with_reducible intro _|simp only[Y1,Y2,Y3,Y4]|(with_reducible first|refine X1 ?_ ?_|refine X2 ?_ ?_|refine X3 ?_ ?_|refine X4 ?_ ?_|refine X5 ?_ ?_|refine X6 ?_ ?_|refine X7 ?_ ?_|refine X8 ?_ ?_|refine X9 ?_ ?_)|refine⟨_,_,_,rfl,?_⟩|refine⟨_,rfl,?_⟩|((with_reducible refine And.intro ?_ ?_);·first|omega|trivial|(show _=_;rfl)|((with_reducible refine And.intro ?_ ?_)<;>first|omega|trivial|(show _=_;rfl)))|refine hcf _ _ ?_|fail
 ·exact Qb (hQ _ (by omega)) (by have:(g.length:Int)≤12:=by omega
                                 simp [zGb,zJM,this])
 ·exact Qb (hQ _ (by omega)) (by have:¬(g.length:Int)≤12:=by omega
                                 simp [zGb,this])
theorem zBV {g:List Tg} {es:List D} (h:Ctx g es) (a:Option Addr) (c:Nat) (s:ByteArray):pe 146 [.sv a 4 es c,.str s] (ye g s):=fun N Q hQ=>by
 have hl:=h.all.len
 have h1:=h.len
 refine zDr N a es c s Q fun _=>?_
 have key:=zSO h.all h.len (fun m=>∀ (N':Nat),N≤N'→(∀ N'',N'≤N''→Q (pc g s (m+1).toNat) N'')→xz Q N a es c s m N') ?_ ?_
 ·rw [i64_in _ (by omega)]
  exact key N (Nat.le_refl _) fun N' hN'=>Qi (hQ N' hN') (by rw [ye,←hl];congr 1;omega)
 ·intro N' hN' hQ'
  refine t6 _ _ _ _ _ _ _ _ ?_
  repeat' first|with_reducible intro _|simp only[Y1,Y2,Y3,Y4]|(with_reducible first|refine X1 ?_ ?_|refine X2 ?_ ?_|refine X3 ?_ ?_|refine X4 ?_ ?_|refine X5 ?_ ?_|refine X6 ?_ ?_|refine X7 ?_ ?_|refine X8 ?_ ?_|refine X9 ?_ ?_)|refine⟨_,_,_,rfl,?_⟩|refine⟨_,rfl,?_⟩|((with_reducible refine And.intro ?_ ?_);·first|omega|trivial|(show _=_;rfl)|((with_reducible refine And.intro ?_ ?_)<;>first|omega|trivial|(show _=_;rfl)))|fail
  ·omega
  ·exact hQ' _ (by assumption)
 ·intro i x hat hge hw ih N' hN' hQ'
  have hb:=hat.b
  obtain ⟨t0,t1,hd,hs,ht⟩:=hat.r
  have e1:((i:Int)+1).toNat=i+1:=by omega
  have e2:((i:Int) - 1+1).toNat=i:=by omega
  rw [e1] at hQ'
  simp only [pc,zG5 hat.g] at hQ'
  rw [e2] at ih
  refine t6 _ _ _ _ _ _ _ _ ?_
  repeat' first|with_reducible intro _|simp only[hge,hw,Int.toNat_natCast,hd,Y1,Y2,Y3,Y4]|(with_reducible first|refine X1 ?_ ?_|refine X2 ?_ ?_|refine X3 ?_ ?_|refine X4 ?_ ?_|refine X5 ?_ ?_|refine X6 ?_ ?_|refine X7 ?_ ?_|refine X8 ?_ ?_|refine X9 ?_ ?_)|refine⟨_,_,_,rfl,?_⟩|refine⟨_,rfl,?_⟩|((with_reducible refine And.intro ?_ ?_);·first|omega|trivial|(show _=_;rfl)|((with_reducible refine And.intro ?_ ?_)<;>first|omega|trivial|(show _=_;rfl)))|fail
  ·rename_i hx _ _;exact Qi (hQ' _ (by omega)) (by rw [if_pos hx])
  ·rename_i hx;exact ih _ (by omega) fun N'' h=>Qi (hQ' N'' (by omega)) (by rw [if_neg hx])
theorem zH0:∀ (t:Ty) (d:D),t.Is d→t.cnt≤1073741824→zCR 147 [.dg 2 d] t:=by
 refine Ty.ind fun k l ih d hd hc N Q hQ=>?_
 obtain ⟨a,es,c,rfl,hlen,hes⟩:=Ty.is_mk.1 hd
 have hl:=hes.len
 simp only [Ty.cnt] at hc
 have hlc:=s5 l
 refine zED N _ Q fun _=>⟨_,rfl,_,_,_,rfl,?_⟩
 have key:=up hes hlen (fun i xs=>∀ (N':Nat),N≤N'→(i=0→vU Q N a es c es.length i 0 none [] 0 k none [] 0 N')∧∀ (m q:Nat) (r:List D),m=r.length→All2 Ty.Is (l.take i) r→OwnL N N' r →
  yx Q N a es c es.length i 0 none [] 0 k m q r q N') ?_ ?_
 ·exact (key N (Nat.le_refl _)).1 rfl
 ·intro i hlt hi N' hN'
  refine ⟨fun h0=>tn _ _ _ _ _ _ _ _ _ _ _ _ _ _ _ _ ?_,fun m q r hm hr ho=>v7 _ _ _ _ _ _ _ _ _ _ _ _ _ _ _ _ _ ?_⟩
  ·repeat' first|with_reducible intro _|simp only[hlt,Y1,Y2,Y3,Y4]|(with_reducible first|refine X1 ?_ ?_|refine X2 ?_ ?_|refine X3 ?_ ?_|refine X4 ?_ ?_|refine X5 ?_ ?_|refine X6 ?_ ?_|refine X7 ?_ ?_|refine X8 ?_ ?_|refine X9 ?_ ?_)|refine⟨_,_,_,rfl,?_⟩|refine⟨_,rfl,?_⟩|((with_reducible refine And.intro ?_ ?_);·first|omega|trivial|(show _=_;rfl)|((with_reducible refine And.intro ?_ ?_)<;>first|omega|trivial|(show _=_;rfl)))|fail
   have:l=[]:=List.eq_nil_of_length_eq_zero (by omega)
   subst this
   exact hQ _ _ (by omega) (sJ _) yV
  ·repeat' first|with_reducible intro _|simp only[hlt,Y1,Y2,Y3,Y4]|(with_reducible first|refine X1 ?_ ?_|refine X2 ?_ ?_|refine X3 ?_ ?_|refine X4 ?_ ?_|refine X5 ?_ ?_|refine X6 ?_ ?_|refine X7 ?_ ?_|refine X8 ?_ ?_|refine X9 ?_ ?_)|refine⟨_,_,_,rfl,?_⟩|refine⟨_,rfl,?_⟩|((with_reducible refine And.intro ?_ ?_);·first|omega|trivial|(show _=_;rfl)|((with_reducible refine And.intro ?_ ?_)<;>first|omega|trivial|(show _=_;rfl)))|fail
   rename_i a' N3 hN3 hf N4 hN4
   rw [List.take_of_length_le (by omega)] at hr
   exact hQ _ _ (by omega) (Ty.is_mk.2 ⟨_,_,_,rfl,by have:=hr.len;omega,hr⟩) (zA1 (wA (yG ((rP ho hf (by omega)).mono (Nat.le_refl _) hN4))))
 ·intro i x xs hat _ ih2 N' hN'
  have hb:=hat.b
  have hxc:=wj hat.m
  refine ⟨fun h0=>tn _ _ _ _ _ _ _ _ _ _ _ _ _ _ _ _ ?_,fun m q r hm hr ho=>v7 _ _ _ _ _ _ _ _ _ _ _ _ _ _ _ _ _ ?_⟩
  ·repeat' first|with_reducible intro _|simp only[hat.lt,hat.w,Int.toNat_natCast,Y1,Y2,Y3,Y4]|(with_reducible first|refine X1 ?_ ?_|refine X2 ?_ ?_|refine X3 ?_ ?_|refine X4 ?_ ?_|refine X5 ?_ ?_|refine X6 ?_ ?_|refine X7 ?_ ?_|refine X8 ?_ ?_|refine X9 ?_ ?_)|refine⟨_,_,_,rfl,?_⟩|refine⟨_,rfl,?_⟩|((with_reducible refine And.intro ?_ ?_);·first|omega|trivial|(show _=_;rfl)|((with_reducible refine And.intro ?_ ?_)<;>first|omega|trivial|(show _=_;rfl)))|refine (ih x hat.m _ hat.r (by omega)) _ _ ?_|fail
   rename_i N2 hN2 d' N3 hN3 hx hox hle hbel
   subst h0
   exact ⟨by unfold zC;simp,fun c2=>(ih2 _ (by omega)).2 _ _ _ rfl (by rw [wi hat.g];exact ⟨_,_,rfl,hx,rfl⟩) (yG (hox.mono (by omega) (Nat.le_refl _)))⟩
  ·repeat' first|with_reducible intro _|simp only[hat.lt,hat.w,Int.toNat_natCast,Y1,Y2,Y3,Y4]|(with_reducible first|refine X1 ?_ ?_|refine X2 ?_ ?_|refine X3 ?_ ?_|refine X4 ?_ ?_|refine X5 ?_ ?_|refine X6 ?_ ?_|refine X7 ?_ ?_|refine X8 ?_ ?_|refine X9 ?_ ?_)|refine⟨_,_,_,rfl,?_⟩|refine⟨_,rfl,?_⟩|((with_reducible refine And.intro ?_ ?_);·first|omega|trivial|(show _=_;rfl)|((with_reducible refine And.intro ?_ ?_)<;>first|omega|trivial|(show _=_;rfl)))|refine (ih x hat.m _ hat.r (by omega)) _ _ ?_|fail
   rename_i N2 hN2 d' N3 hN3 hx hox hle hbel
   have hrl:=hr.len
   have hli:(l.take i).length=i:=by rw [List.length_take];omega
   refine ⟨by unfold zC;simp only [List.length_append,List.length_singleton];omega,fun c2=>?_⟩
   exact (ih2 _ (by omega)).2 _ _ _ rfl (by rw [wi hat.g];exact hr.snoc hx) (yB (ho.mono (Nat.le_refl _) hN2) (yG hox) (by omega) hN3)
theorem zMQ:zCR 148 [] tInt:=fun N Q hQ=>zIE N Q fun N' hN'=>hQ _ _ hN' (sJ _) yV
theorem zGR:zCR 149 [] tBool:=fun N Q hQ=>zHB N Q fun N' hN'=>hQ _ _ hN' (sJ _) yV
theorem zMR (t u:Ty) (d e:D) (hd:t.Is d) (he:u.Is e) (hct:t.cnt≤1073741824) (hcu:u.cnt≤1073741824):zCR 152 [.dg 2 d,.dg 2 e] (uy t u):=fun N Q hQ=>by
 refine zII N _ _ Q fun _ _=>?_
 repeat' first|with_reducible intro _|simp only[Y1,Y2,Y3,Y4]|(with_reducible first|refine X1 ?_ ?_|refine X2 ?_ ?_|refine X3 ?_ ?_|refine X4 ?_ ?_|refine X5 ?_ ?_|refine X6 ?_ ?_|refine X7 ?_ ?_|refine X8 ?_ ?_|refine X9 ?_ ?_)|refine⟨_,_,_,rfl,?_⟩|refine⟨_,rfl,?_⟩|((with_reducible refine And.intro ?_ ?_);·first|omega|trivial|(show _=_;rfl)|((with_reducible refine And.intro ?_ ?_)<;>first|omega|trivial|(show _=_;rfl)))|refine (zH0 t d hd hct) _ _ ?_|refine (zH0 u e he hcu) _ _ ?_|fail
 rename_i N1 hN1 d1 N2 hN2 h1 o1 hl1 b1 N3 hN3 d2 N4 hN4 h2 o2 hl2 b2 a' N5 hN5 hf N6 hN6
 exact hQ _ _ (by omega) (Ty.is_mk.2 ⟨_,_,_,rfl,by simp,_,_,rfl,h1,_,_,rfl,h2,rfl⟩)
  (zA1 (wA (yG ((rP (yB ((yG o1).mono hN1 hN3) (yG o2) (by omega) hN4) hf (by omega)).mono (Nat.le_refl _) hN6))))
theorem zLL (t:Ty) (d:D) (hd:t.Is d) (hct:t.cnt≤1073741824):zCR 161 [.dg 2 d] (zCg t):=fun N Q hQ=>by
 refine zHc N _ Q fun _=>?_
 repeat' first|with_reducible intro _|simp only[Y1,Y2,Y3,Y4]|(with_reducible first|refine X1 ?_ ?_|refine X2 ?_ ?_|refine X3 ?_ ?_|refine X4 ?_ ?_|refine X5 ?_ ?_|refine X6 ?_ ?_|refine X7 ?_ ?_|refine X8 ?_ ?_|refine X9 ?_ ?_)|refine⟨_,_,_,rfl,?_⟩|refine⟨_,rfl,?_⟩|((with_reducible refine And.intro ?_ ?_);·first|omega|trivial|(show _=_;rfl)|((with_reducible refine And.intro ?_ ?_)<;>first|omega|trivial|(show _=_;rfl)))|refine (zH0 t d hd hct) _ _ ?_|fail
 rename_i N1 hN1 d1 N2 hN2 h1 o1 hl1 b1 a' N5 hN5 hf N6 hN6
 exact hQ _ _ (by omega) (Ty.is_mk.2 ⟨_,_,_,rfl,by simp,_,_,rfl,h1,rfl⟩)
  (zA1 (wA (yG ((rP ((yG o1).mono hN1 (Nat.le_refl _)) hf (by omega)).mono (Nat.le_refl _) hN6))))
/-- the part of a code type -/
def zCU (t:Ty):Ty:=if t.k=4 then t.as.getD 0 tZero else tZero
theorem zLF (t:Ty) (d:D) (hd:t.Is d) (hv:t.valid=true∨t=tZero):zCR 162 [.dg 2 d] (zCU t):=fun N Q hQ=>by
 cases t with
 | mk k l=>
 obtain ⟨a,es,c,rfl,hlen,hes⟩:=Ty.is_mk.1 hd
 refine zG4 N _ Q fun _=>?_
 by_cases hk:k=4
 ·subst hk
  rcases hv with hv | hv
  ·have hf:=Ty.form_len hv
   have hcn:=Ty.valid_cnt hv
   have hl1:(l.length:Int)=1:=by simpa [pA] using hf
   obtain ⟨u,rfl⟩:=zCM (l:=l) (by omega)
   obtain ⟨x0,_,rfl,hx0,rfl⟩:=hes
   simp only [Ty.cnt,zO] at hcn
   have e:zCU (.mk 4 [u])=u:=rfl
   rw [e] at hQ
   repeat' first|with_reducible intro _|simp only[List.length_cons,List.length_nil,Y1,Y2,Y3,Y4]|(with_reducible first|refine X1 ?_ ?_|refine X2 ?_ ?_|refine X3 ?_ ?_|refine X4 ?_ ?_|refine X5 ?_ ?_|refine X6 ?_ ?_|refine X7 ?_ ?_|refine X8 ?_ ?_|refine X9 ?_ ?_)|refine⟨_,_,_,rfl,?_⟩|refine⟨_,rfl,?_⟩|((with_reducible refine And.intro ?_ ?_);·first|omega|trivial|(show _=_;rfl)|((with_reducible refine And.intro ?_ ?_)<;>first|omega|trivial|(show _=_;rfl)))|refine (zH0 u _ hx0 (by omega)) _ _ ?_|fail
   all_goals first | (exfalso;omega) | skip
   rename_i N1 hN1 d1 N2 hN2 h1 o1 hl1 b1 N3 hN3
   exact hQ _ _ (by omega) h1 (o1.mono (by omega) (by omega))
  ·cases hv
 ·have e:zCU (.mk k l)=tZero:=by unfold zCU;exact if_neg hk
  rw [e] at hQ
  repeat' first|with_reducible intro _|simp only[Y1,Y2,Y3,Y4]|(with_reducible first|refine X1 ?_ ?_|refine X2 ?_ ?_|refine X3 ?_ ?_|refine X4 ?_ ?_|refine X5 ?_ ?_|refine X6 ?_ ?_|refine X7 ?_ ?_|refine X8 ?_ ?_|refine X9 ?_ ?_)|refine⟨_,_,_,rfl,?_⟩|refine⟨_,rfl,?_⟩|((with_reducible refine And.intro ?_ ?_);·first|omega|trivial|(show _=_;rfl)|((with_reducible refine And.intro ?_ ?_)<;>first|omega|trivial|(show _=_;rfl)))|fail
  all_goals first | (exfalso;omega) | skip
  exact hQ _ _ (by omega) xO yV
def zBk (u:Ty):List Ty→Bool
 | []=>true
 | t::ts=>uu t u&&zBk u ts
def p4 (s:ByteArray):Ty:=if s=bytes [61] then tInt else if s=bytes [60] then tInt else if s=bytes [38] then tBool else if s=bytes [124] then tBool else if s=bytes [33] then tBool else tInt
def zCO (s:ByteArray):Ty:=if s=bytes [61] then tBool else if s=bytes [60] then tBool else if s=bytes [38] then tBool else if s=bytes [124] then tBool else if s=bytes [33] then tBool else tInt
theorem zOo {ts:List Ty} {es:List D} (h:All2 Ty.Is ts es) (hlen:es.length≤4611686018427387904) (a:Option Addr) (c:Nat) (s:ByteArray) :
  zCR 150 [.str s,.sv a 2 es c] (if zBk (p4 s) ts then zCO s else tZero):=fun N Q hQ=>by
 have key:∀ (u v:Ty) (d e:D) (N0 N1:Nat),u.Is d→v.Is e→Own N N1 e→N≤N1→p4 s=u→zCO s=v→zh Q N a es c es.length (0:Nat) 0 none [] 0 d e N1:=by
  intro u v d e N0 N1 hd he ho hN1 hu hv
  subst hu hv
  refine up h hlen (fun i xs=>∀ (N':Nat),N1≤N'→zBk (p4 s) xs=zBk (p4 s) ts→zh Q N a es c es.length i 0 none [] 0 d e N') ?_ ?_ N1 (Nat.le_refl _) rfl
  ·intro i hlt _ N' hN' hk
   refine rO _ _ _ _ _ _ _ _ _ _ _ _ _ _ ?_
   rw [←hk] at hQ
   repeat' first|with_reducible intro _|simp only[hlt,Y1,Y2,Y3,Y4]|(with_reducible first|refine X1 ?_ ?_|refine X2 ?_ ?_|refine X3 ?_ ?_|refine X4 ?_ ?_|refine X5 ?_ ?_|refine X6 ?_ ?_|refine X7 ?_ ?_|refine X8 ?_ ?_|refine X9 ?_ ?_)|refine⟨_,_,_,rfl,?_⟩|refine⟨_,rfl,?_⟩|((with_reducible refine And.intro ?_ ?_);·first|omega|trivial|(show _=_;rfl)|((with_reducible refine And.intro ?_ ?_)<;>first|omega|trivial|(show _=_;rfl)))|fail
   exact hQ _ _ (by omega) he (ho.mono (Nat.le_refl _) (by omega))
  ·intro i x xs hat _ ih2 N' hN' hk
   have hb:=hat.b
   refine rO _ _ _ _ _ _ _ _ _ _ _ _ _ _ ?_
   repeat' first|with_reducible intro _|simp only[hat.lt,hat.w,Int.toNat_natCast,Y1,Y2,Y3,Y4]|(with_reducible first|refine X1 ?_ ?_|refine X2 ?_ ?_|refine X3 ?_ ?_|refine X4 ?_ ?_|refine X5 ?_ ?_|refine X6 ?_ ?_|refine X7 ?_ ?_|refine X8 ?_ ?_|refine X9 ?_ ?_)|refine⟨_,_,_,rfl,?_⟩|refine⟨_,rfl,?_⟩|((with_reducible refine And.intro ?_ ?_);·first|omega|trivial|(show _=_;rfl)|((with_reducible refine And.intro ?_ ?_)<;>first|omega|trivial|(show _=_;rfl)))|refine (zW x _ _ _ hat.r hd) _ _ ?_|fail
   ·rename_i hne _ _
    rw [←hk,zBk,hne] at hQ
    exact hQ _ _ (by omega) xO yV
   ·rename_i hne
    exact ih2 _ (by omega) (by rw [←hk,zBk,hne,Bool.true_and])
 refine zGi N s a es c Q fun _=>?_
 repeat' first|with_reducible intro _|simp only[Y1,Y2,Y3,Y4]|(with_reducible first|refine X1 ?_ ?_|refine X2 ?_ ?_|refine X3 ?_ ?_|refine X4 ?_ ?_|refine X5 ?_ ?_|refine X6 ?_ ?_|refine X7 ?_ ?_|refine X8 ?_ ?_|refine X9 ?_ ?_)|refine⟨_,_,_,rfl,?_⟩|refine⟨_,rfl,?_⟩|((with_reducible refine And.intro ?_ ?_);·first|omega|trivial|(show _=_;rfl)|((with_reducible refine And.intro ?_ ?_)<;>first|omega|trivial|(show _=_;rfl)))|refine zMQ _ _ ?_|refine zGR _ _ ?_|fail
 all_goals first
  | exact key tInt tBool _ _ 0 _ (by assumption) (by assumption) (Own.mono (by assumption) (by omega) (by omega)) (by omega) (by unfold p4;(repeat' split)<;>first | rfl | contradiction) (by unfold zCO;(repeat' split)<;>first | rfl | contradiction)
  | exact key tBool tBool _ _ 0 _ (by assumption) (by assumption) (Own.mono (by assumption) (by omega) (by omega)) (by omega) (by unfold p4;(repeat' split)<;>first | rfl | contradiction) (by unfold zCO;(repeat' split)<;>first | rfl | contradiction)
  | exact key tInt tInt _ _ 0 _ (by assumption) (by assumption) (Own.mono (by assumption) (by omega) (by omega)) (by omega) (by unfold p4;(repeat' split)<;>first | rfl | contradiction) (by unfold zCO;(repeat' split)<;>first | rfl | contradiction)
theorem zPf {f:FuncId} {rs:List Sh} {args:List PV} {N z c:Nat} {Q:QT rs} {es:List D} (hc:zt prog f=true) (hm:PV.sv none z es c∈args) (hne:es≠[]):ACalls prog f rs args N Q:=
 ⟨hc,fun av w0 _ _ hok=>by
  have h:=(hok _ hm).1.1
  cases h
  exact absurd rfl hne⟩
theorem zQZ {g:List Tg} {es:List D} (h:Ctx g es) (hg:g.length≤1073741824) (a:Option Addr) (c:Nat) (N:Nat) (Q:QT [.row 88 4]) (hQ:∀ c' N',N≤N'→Q es c' N'):ACalls prog 160 [.row 88 4] [.sv a 4 es c] N Q:=by
 have hl:=h.all.len
 have hb0:zC [] es 56:=by unfold zC;simp only [List.nil_append];omega
 have main:(a=none→es=[])→ACalls prog 160 [.row 88 4] [.sv a 4 es c] N Q:=fun hn=>by
  refine qG N a es c Q fun _=>?_
  repeat' first|with_reducible intro _|simp only[Y1,Y2,Y3,Y4]|(with_reducible first|refine X1 ?_ ?_|refine X2 ?_ ?_|refine X3 ?_ ?_|refine X4 ?_ ?_|refine X5 ?_ ?_|refine X6 ?_ ?_|refine X7 ?_ ?_|refine X8 ?_ ?_|refine X9 ?_ ?_)|refine⟨_,_,_,rfl,?_⟩|refine⟨_,rfl,?_⟩|((with_reducible refine And.intro ?_ ?_);·first|omega|trivial|(show _=_;rfl)|((with_reducible refine And.intro ?_ ?_)<;>first|omega|trivial|(show _=_;rfl)))|fail
  ·rename_i hi N1 hN1
   have:es=[]:=hn (by simpa using hi)
   subst this
   exact hQ _ _ hN1
  ·simp only [List.nil_append]
   exact hQ _ _ (by omega)
 cases a with
 | some ad=>exact main (by simp)
 | none=>
   by_cases hne:es=[]
   ·exact main fun _=>hne
   ·exact zPf (z:=4) (c:=c) (es:=es) (by kernel_rfl) (by simp) hne
theorem s4 {a:Option Addr} {z c:Nat} {es:List D}:∀ x∈(D.sl a z es c).foot,x∈zB es∨∃ ad,a=some ad∧x=ad.block:=by
 intro x hx
 cases a with
 | none=>simp only [D.foot] at hx;exact .inl hx
 | some ad=>
   simp only [D.foot] at hx
   split at hx
   ·simp at hx
   ·rcases List.mem_cons.1 hx with rfl | hx
    ·exact .inr ⟨ad,rfl,rfl⟩
    ·exact .inl hx
theorem zDF {a:Option Addr} {z c:Nat} {es:List D}:∀ x∈zB es,x∈(D.sl a z es c).foot:=by
 intro x hx
 cases a with
 | none=>simpa only [D.foot] using hx
 | some ad=>
   simp only [D.foot]
   split
   ·rename_i h
    cases es with
    | nil=>simp [zB] at hx
    | cons=>simp at h
   ·exact List.mem_cons_of_mem _ hx
theorem zNq {g h:List Tg} {es fs:List D} (hg:Ctx g es) (hh:Ctx h fs) (hgl:g.length+h.length≤1073741824) (a b:Option Addr) (c e:Nat) (N:Nat) (Q:QT [.sl 4])
  (hQ:∀ a' es' c' N',N≤N'→Ctx (g++h) es'→(∀ x∈(D.sl a' 4 es' c').foot,x∈zB es∨x∈zB fs∨N≤x)→Q a' es' c' N'):ACalls prog 151 [.sl 4] [.sv a 4 es c,.sv b 4 fs e] N Q:=by
 have hl:=hg.all.len
 have hl2:=hh.all.len
 have hb:zC es fs 56:=by unfold zC;simp only [List.length_append];omega
 refine zJr N a es c b fs e Q fun _ _=>?_
 repeat' first|with_reducible intro _|simp only[Y1,Y2,Y3,Y4]|(with_reducible first|refine X1 ?_ ?_|refine X2 ?_ ?_|refine X3 ?_ ?_|refine X4 ?_ ?_|refine X5 ?_ ?_|refine X6 ?_ ?_|refine X7 ?_ ?_|refine X8 ?_ ?_|refine X9 ?_ ?_)|refine⟨_,_,_,rfl,?_⟩|refine⟨_,rfl,?_⟩|((with_reducible refine And.intro ?_ ?_);·first|omega|trivial|(show _=_;rfl)|((with_reducible refine And.intro ?_ ?_)<;>first|omega|trivial|(show _=_;rfl)))|refine (zQZ hg (by omega) _ _) _ _ ?_|fail
 rename_i a' N3 hN3 hf N4 hN4
 refine hQ _ _ _ _ (by omega) ⟨by simp;omega,hg.all.app hh.all⟩ fun x hx=>?_
 rcases s4 x hx with h1 | ⟨ad,rfl,rfl⟩
 ·rw [zF] at h1
  rcases List.mem_append.1 h1 with h1 | h1
  ·exact .inl h1
  ·exact .inr (.inl h1)
 ·have:=hf.lo ad rfl
  exact .inr (.inr (by omega))
theorem zMX {g:List Tg} {es:List D} (h:Ctx g es) (hg:g.length≤1073741824) (hc:∀ x∈g,x.ty.cnt≤1073741824) (a:Option Addr) (c:Nat) (n:Int) :
  ∀ (N:Nat) (Q:QT [.sl 4]),(∀ a' es' c' N',N≤N'→Ctx (tV g n) es'→Q a' es' c' N')→ACalls prog 163 [.sl 4] [.sv a 4 es c,.int .i64 n] N Q:=fun N Q hQ=>by
 have hl:=h.all.len
 refine zFG N a es c n Q fun _=>?_
 have key:=up h.all h.len (fun i xs=>∀ (r:List D) (m q:Nat) (N':Nat) (done:List Tg),N≤N'→m=r.length→All2 Tg.Is done r→done.length≤i→done++tq g n xs i=tV g n→yO Q N a es c n m q a es c es.length i r q N') ?_ ?_
 ·exact key [] 0 0 N [] (Nat.le_refl _) rfl rfl (Nat.le_refl _) rfl
 ·intro i hlt hi r m q N' done hN' hm hr hdl hd
  refine rS _ _ _ _ _ _ _ _ _ _ _ _ _ _ _ _ ?_
  repeat' first|with_reducible intro _|simp only[hlt,Y1,Y2,Y3,Y4]|(with_reducible first|refine X1 ?_ ?_|refine X2 ?_ ?_|refine X3 ?_ ?_|refine X4 ?_ ?_|refine X5 ?_ ?_|refine X6 ?_ ?_|refine X7 ?_ ?_|refine X8 ?_ ?_|refine X9 ?_ ?_)|refine⟨_,_,_,rfl,?_⟩|refine⟨_,rfl,?_⟩|((with_reducible refine And.intro ?_ ?_);·first|omega|trivial|(show _=_;rfl)|((with_reducible refine And.intro ?_ ?_)<;>first|omega|trivial|(show _=_;rfl)))|fail
  refine hQ _ _ _ _ (by omega) ⟨by have:=hr.len;omega,?_⟩
  simp only [tq,List.append_nil] at hd
  rwa [←hd]
 ·intro i x xs hat _ ih2 r m q N' done hN' hm hr hdl hd
  have hb:=hat.b
  have hrl:=hr.len
  obtain ⟨t0,t1,he,hs,ht⟩:=hat.r
  simp only [tq] at hd
  refine rS _ _ _ _ _ _ _ _ _ _ _ _ _ _ _ _ ?_
  repeat' first|with_reducible intro _|simp only[hat.lt,hat.w,Int.toNat_natCast,he,Y1,Y2,Y3,Y4]|(with_reducible first|refine X1 ?_ ?_|refine X2 ?_ ?_|refine X3 ?_ ?_|refine X4 ?_ ?_|refine X5 ?_ ?_|refine X6 ?_ ?_|refine X7 ?_ ?_|refine X8 ?_ ?_|refine X9 ?_ ?_)|refine⟨_,_,_,rfl,?_⟩|refine⟨_,rfl,?_⟩|((with_reducible refine And.intro ?_ ?_);·first|omega|trivial|(show _=_;rfl)|((with_reducible refine And.intro ?_ ?_)<;>first|omega|trivial|(show _=_;rfl)))|refine (sU _ _ ht) _ _ ?_|refine (zBV h a c _) _ _ ?_|refine (zH0 _ _ ht (hc x hat.m)) _ _ ?_|fail
  ·rename_i N2 hN2 x' N3 hN3 hx ho _ _
   have hin:zDM g n x i=true:=by simp [zDM, *]
   rw [if_pos hin] at hd
   refine ⟨by unfold zC;simp only [List.length_append,List.length_singleton];omega,fun c2=>ih2 _ _ _ _ (done++[x]) (by omega) rfl (hr.snoc ⟨_,_,rfl,hs,Ty.is_cells hx⟩) (by simp;omega) (by simpa using hd)⟩
  all_goals (refine ih2 _ _ _ _ done (by omega) hm hr (by omega) ?_;rw [←hd,if_neg (by simp [zDM, *])])
theorem zBg {bs:List (Option Addr)} {N N':Nat} {d:D} (hb:tW N bs) (ho:Own N N' d):Off bs d:=fun a ha ad had hm=>by
 have:=hb a ha ad had
 have:=ho.lo _ hm
 omega
theorem zHY {a x b:Option Addr} {es fs gs:List D} {c c' N:Nat} (h1:ApA a fs) (h2:Off [a] (.sl x 4 es c)) (h3:tW N [a]) (h4:∀ y∈(D.sl b 4 gs c').foot,y∈zB es∨y∈zB fs∨N≤y):Off [a] (.sl b 4 gs c'):=fun a' ha ad had hm=>by
 have e:=List.mem_singleton.1 ha
 subst e
 rcases h4 _ hm with h | h | h
 ·exact h2 a' ha ad had (zDF _ h)
 ·obtain ⟨d,hd,hx⟩:=zH.1 h
  exact h1 ad had d hd hx
 ·have:=h3 a' ha ad had
  omega
theorem Ty.valid_k {t:Ty} (h:t.valid=true):t.k=1∧t.as=[]∨t.k=2∧t.as=[]∨(t.k=3∧∃ a b,t.as=[a,b])∨(t.k=4∧∃ a,t.as=[a]):=by
 cases t with
 | mk k l=>
   have hf:=Ty.form_len h
   simp only [Ty.k,Ty.as]
   unfold pA at hf
   split at hf
   ·rename_i hk
    have hl:l=[]:=by simpa using hf
    rcases hk with hk | hk
    ·exact .inl ⟨hk,hl⟩
    ·exact .inr (.inl ⟨hk,hl⟩)
   ·split at hf
    ·rename_i hk;exact .inr (.inr (.inl ⟨hk,zLH (by simp at hf;omega)⟩))
    ·split at hf
     ·rename_i hk;exact .inr (.inr (.inr ⟨hk,zCM (by simp at hf;omega)⟩))
     ·cases hf
theorem Ty.valid_nz {t:Ty} (h:t.valid=true):t.k≠0:=by
 rcases Ty.valid_k h with h | h | h | h<;>omega
theorem zNH {t:Ty} (h:t.valid=true):uu t tZero=false∧uu tZero t=false:=by
 have hk:=Ty.valid_nz h
 cases t with
 | mk k l=>
   have hk:k≠0:=hk
   have hk2:0≠k:=fun h=>hk h.symm
   constructor<;>simp [uu,tZero,hk,hk2]
theorem zNu {t:Ty} (h:t.valid=true):uu t tBool=decide (t.k=2):=by
 have hk:=Ty.valid_k h
 cases t with
 | mk k l=>
   simp only [Ty.k,Ty.as] at hk
   rw [Bool.eq_iff_iff,sW,decide_eq_true_iff]
   simp only [tBool,Ty.k,Ty.mk.injEq]
   rcases hk with ⟨hk,hl⟩ | ⟨hk,hl⟩ | ⟨hk,_⟩ | ⟨hk,_⟩<;>simp [hk]
   exact hl
theorem zQt {t:Ty} (h:t.valid=true):uu t tInt=decide (t.k=1):=by
 have hk:=Ty.valid_k h
 cases t with
 | mk k l=>
   simp only [Ty.k,Ty.as] at hk
   rw [Bool.eq_iff_iff,sW,decide_eq_true_iff]
   simp only [tInt,Ty.k,Ty.mk.injEq]
   rcases hk with ⟨hk,hl⟩ | ⟨hk,hl⟩ | ⟨hk,_⟩ | ⟨hk,_⟩<;>simp [hk]
   exact hl
/-- the type of a term, the zero type for none -/
def tyZ (e:Tm) (g:List Tg) (n:Int):Ty:=(e.type g n).getD tZero
theorem zJ1 (e:Tm) (g:List Tg) (n:Int):(tyZ e g n).cnt≤30:=zGs e g n
theorem t7 (e:Tm) (g:List Tg) (n:Int):(e.type g n=none∧tyZ e g n=tZero)∨(e.type g n=some (tyZ e g n)∧(tyZ e g n).valid=true):=by
 cases h:e.type g n with
 | none=>exact .inl ⟨rfl,by simp [tyZ,h]⟩
 | some t=>exact .inr ⟨by simp [tyZ,h],by simpa [tyZ,h] using Tm.type_valid h⟩
def IHi (l:List Tm):Prop:=∀ x∈l,∀ d,x.Is d→∀ g es a c n,Pre g x n→Ctx g es→zCR 89 [.sv a 4 es c,.dg 9 d,.int .i64 n] (tyZ x g n)
theorem zDv {k:Int} {nm ot:ByteArray} {m n:Int} {ty re:Ty} {l:List Tm} {t0 t1 r0 r1:D} {es1:List D} {a1 a:Option Addr} {c1 c:Nat} {g:List Tg} {es:List D} (hk:yR k n=n) (ih:IHi l) (h0:All2 Tm.Is l es1) (hl1:es1.length≤4611686018427387904)
  (pre:Pre g (.mk k nm ot m ty re l) n) (ctx:Ctx g es) (i:Nat) {x:Tm} (hx:l[i]?=some x) (b1 b2 b3:Addr) :
  zCR 145 [.int .i64 i,.pd b1 0 (.sl a 4 es c),.pd b2 9 (.ag [.lit (.int .i64 k),.lit (.string nm),.lit (.string ot),.lit (.int .i64 m),t0,t1,r0,r1,.sl a1 9 es1 c1]),.pd b3 0 (.lit (.int .i64 n))] (tyZ x g n):=fun N Q hQ=>by
 have hil:=(List.getElem?_eq_some_iff.1 hx).1
 have hln:=h0.len
 have hm:=List.mem_of_getElem? hx
 have hp:=pre.sub hm (g':=g) (by omega) pre.ty
 rw [hk] at hp
 refine pJ N i b1 _ b2 _ b3 _ Q ?_
 refine ⟨_,_,_,rfl,_,_,_,rfl,⟨by omega,by omega⟩,_,rfl,?_⟩
 repeat' first|with_reducible intro _|simp only[Int.toNat_natCast,Y1,Y2,Y3,Y4]|(with_reducible first|refine X1 ?_ ?_|refine X2 ?_ ?_|refine X3 ?_ ?_|refine X4 ?_ ?_|refine X5 ?_ ?_|refine X6 ?_ ?_|refine X7 ?_ ?_|refine X8 ?_ ?_|refine X9 ?_ ?_)|refine⟨_,_,_,rfl,?_⟩|refine⟨_,rfl,?_⟩|((with_reducible refine And.intro ?_ ?_);·first|omega|trivial|(show _=_;rfl)|((with_reducible refine And.intro ?_ ?_)<;>first|omega|trivial|(show _=_;rfl)))|refine (ih x hm _ (h0.get hx) g _ _ _ n hp ctx) _ _ ?_|fail
 exact hQ _ _ (by omega) (by assumption) (Own.mono (by assumption) (by omega) (by omega))
theorem zSV {e0 e1 e2:Tm} {g:List Tg} {n:Int} {s:ByteArray}:((match yS [e0,e1,e2] g n with | some ts=>wC 5 s ts | none=>none):Option Ty).getD tZero =
  if uu (tyZ e0 g n) tBool&&uu (tyZ e1 g n) (tyZ e2 g n) then tyZ e1 g n else tZero:=by
 rcases t7 e0 g n with ⟨h0,z0⟩ | ⟨h0,v0⟩
 ·simp only [yS,h0,z0];rfl
 ·rcases t7 e1 g n with ⟨h1,z1⟩ | ⟨h1,v1⟩
  ·simp only [yS,h0,h1,z1];split<;>rfl
  ·rcases t7 e2 g n with ⟨h2,z2⟩ | ⟨h2,v2⟩
   ·simp only [yS,h0,h1,h2,z2,(zNH v1).1,Bool.and_false];rfl
   ·simp only [yS,h0,h1,h2]
    rw [zNu v0]
    show (wC 5 s [tyZ e0 g n,tyZ e1 g n,tyZ e2 g n]).getD tZero=_
    unfold wC
    rw [if_neg (by omega),if_pos rfl]
    simp only [List.getD_cons_zero,List.getD_cons_succ]
    by_cases hc:(tyZ e0 g n).k=2∧uu (tyZ e1 g n) (tyZ e2 g n)=true
    ·rw [if_pos hc,if_pos (by simp [hc.1,hc.2])];rfl
    ·rw [if_neg hc,if_neg (by simpa using hc)];rfl
theorem zR1 {e0 e1:Tm} {g:List Tg} {n:Int} {s:ByteArray}:((match yS [e0,e1] g n with | some ts=>wC 7 s ts | none=>none):Option Ty).getD tZero =
  if (tyZ e0 g n).k=3∧uu ((tyZ e0 g n).as.getD 0 tZero) (tyZ e1 g n) then (tyZ e0 g n).as.getD 1 tZero else tZero:=by
 rcases t7 e0 g n with ⟨h0,z0⟩ | ⟨h0,v0⟩
 ·simp only [yS,h0,z0];rfl
 ·rcases t7 e1 g n with ⟨h1,z1⟩ | ⟨h1,v1⟩
  ·simp only [yS,h0,h1,z1]
   rw [if_neg]
   ·rfl
   ·rintro ⟨hk,he⟩
    rcases Ty.valid_k v0 with h | h | ⟨_,a,b,hab⟩ | h
    ·omega
    ·omega
    ·rw [hab,sW] at he
     simp only [List.getD_cons_zero] at he
     subst he
     have:(tyZ e0 g n).form=true:=by simp only [Ty.valid,Bool.and_eq_true] at v0;exact v0.2
     cases hz:tyZ e0 g n with
     | mk k l=>
       rw [hz] at hab this
       simp only [Ty.as] at hab
       subst hab
       simp [Ty.form,tU,pA,tZero] at this
    ·omega
  ·simp only [yS,h0,h1]
   show (wC 7 s [tyZ e0 g n,tyZ e1 g n]).getD tZero=_
   unfold wC
   rw [if_neg (by omega),if_neg (by omega)]
   simp only [List.getD_cons_zero,List.getD_cons_succ]
   split<;>rfl
theorem zSU {l:List Tm} {g:List Tg} {n:Int} {s:ByteArray} (hs:0<zMg s):((match yS l g n with | some ts=>wC 4 s ts | none=>none):Option Ty).getD tZero =
  if zBk (p4 s) (l.map fun e=>tyZ e g n) then zCO s else tZero:=by
 have h2:zCO s=zDs s∧(p4 s=tInt∧zI3 s=1∨p4 s=tBool∧zI3 s=2):=by
  unfold zMg at hs
  (repeat' split at hs)<;>first | omega | (subst_vars;exact ⟨rfl,.inl ⟨rfl,rfl⟩⟩) | (subst_vars;exact ⟨rfl,.inr ⟨rfl,rfl⟩⟩) | skip
 obtain ⟨h3,h4⟩:=h2
 have key:∀ l:List Tm,(∀ ts,yS l g n=some ts→zBk (p4 s) (l.map fun e=>tyZ e g n)=zOM (zI3 s) ts)∧(yS l g n=none→zBk (p4 s) (l.map fun e=>tyZ e g n)=false):=by
  intro l
  induction l with
  | nil=>exact ⟨fun ts h=>by simp [yS] at h;subst h;rfl,fun h=>by simp [yS] at h⟩
  | cons e l ih=>
    rcases t7 e g n with ⟨h0,z0⟩ | ⟨h0,v0⟩
    ·have:uu tZero (p4 s)=false:=by rcases h4 with ⟨h4,_⟩ | ⟨h4,_⟩<;>rw [h4]<;>rfl
     refine ⟨fun ts h=>by simp [yS,h0] at h,fun _=>by simp [zBk,z0,this]⟩
    ·have hk:uu (tyZ e g n) (p4 s)=decide ((tyZ e g n).k=zI3 s):=by
      rcases h4 with ⟨h4,h5⟩ | ⟨h4,h5⟩<;>rw [h4,h5]
      ·exact zQt v0
      ·exact zNu v0
     cases hl:yS l g n with
     | none=>exact ⟨fun ts h=>by simp [yS,h0,hl] at h,fun _=>by simp [zBk,ih.2 hl]⟩
     | some us=>
       refine ⟨fun ts h=>?_,fun h=>by simp [yS,h0,hl] at h⟩
       simp only [yS,h0,hl,Option.some.injEq] at h
       subst h
       simp only [List.map_cons,zBk,zOM,hk,ih.1 us hl]
 cases hl:yS l g n with
 | none=>rw [(key l).2 hl];rfl
 | some ts=>
   rw [(key l).1 ts hl,h3]
   show (wC 4 s ts).getD tZero=_
   unfold wC zQg
   rw [if_pos rfl]
   split<;>rfl
/-- a node's cells -/
abbrev zFb (k:Int) (nm ot:ByteArray) (m:Int) (t0 t1 r0 r1:D) (a:Option Addr) (es:List D) (c:Nat):D:=.ag [.lit (.int .i64 k),.lit (.string nm),.lit (.string ot),.lit (.int .i64 m),t0,t1,r0,r1,.sl a 9 es c]
theorem f5 {nm ot:ByteArray} {m n:Int} {ty re:Ty} {l:List Tm} {t0 t1 r0 r1:D} {es1:List D} {a1 a:Option Addr} {c1 c:Nat} {g:List Tg} {es:List D} (ih:IHi l) (hh:Tm.Hd nm ot ty re t0 t1 r0 r1) (h0:All2 Tm.Is l es1) (hl1:es1.length≤4611686018427387904)
  (pre:Pre g (.mk 5 nm ot m ty re l) n) (ctx:Ctx g es) :
  zCR 120 [.sv a 4 es c,.dg 9 (zFb 5 nm ot m t0 t1 r0 r1 a1 es1 c1),.int .i64 n] ((Tm.raw (.mk 5 nm ot m ty re l) g n).getD tZero):=fun N Q hQ=>by
 have hl : l.length = 3 := by have:(l.length:Int)=3:=(xY pre.ok).ar
                              omega
 obtain ⟨e0,e1,e2,rfl⟩:∃ a b c,l=[a,b,c]:=by
  match l,hl with
  | [a,b,c],_=>exact ⟨a,b,c,rfl⟩
 have hraw:(Tm.raw (.mk 5 nm ot m ty re [e0,e1,e2]) g n).getD tZero=if uu (tyZ e0 g n) tBool&&uu (tyZ e1 g n) (tyZ e2 g n) then tyZ e1 g n else tZero:=by
  rw [←zSV (s:=nm)]
  simp only [Tm.raw]
  rfl
 rw [hraw] at hQ
 have hn:yR 5 n=n:=by simp [yR]
 refine zn N a es c _ n Q fun _ _=>⟨_,rfl,?_⟩
 repeat' first|with_reducible intro _|simp only[Y1,Y2,Y3,Y4]|(with_reducible first|refine X1 ?_ ?_|refine X2 ?_ ?_|refine X3 ?_ ?_|refine X4 ?_ ?_|refine X5 ?_ ?_|refine X6 ?_ ?_|refine X7 ?_ ?_|refine X8 ?_ ?_|refine X9 ?_ ?_)|refine⟨_,_,_,rfl,?_⟩|refine⟨_,rfl,?_⟩|((with_reducible refine And.intro ?_ ?_);·first|omega|trivial|(show _=_;rfl)|((with_reducible refine And.intro ?_ ?_)<;>first|omega|trivial|(show _=_;rfl)))|refine (zDv hn ih h0 hl1 pre ctx 1 rfl _ _ _) _ _ ?_|refine (zDv hn ih h0 hl1 pre ctx 2 rfl _ _ _) _ _ ?_|refine (zDv hn ih h0 hl1 pre ctx 0 rfl _ _ _) _ _ ?_|refine zGR _ _ ?_|refine (zW (tyZ e0 g n) tBool _ _ (by assumption) (by assumption)) _ _ ?_|refine (zW (tyZ e1 g n) (tyZ e2 g n) _ _ (by assumption) (by assumption)) _ _ ?_|(((with_reducible refine And.intro ?_ ?_);· exact zBg (by assumption) (by assumption)))|fail
 all_goals first | (exfalso;omega) | skip
 all_goals first
  | exact hQ _ _ (by omega) (by rw [if_pos (by simp [*])];assumption) (Own.mono (by assumption) (by omega) (by omega))
  | exact hQ _ _ (by omega) (by rw [if_neg (by simp [*])];exact xO) yV
/-- the type of a call -/
def zNN (z0 z1:Ty):Ty:=if z0.k=3∧uu (z0.as.getD 0 tZero) z1 then z0.as.getD 1 tZero else tZero
theorem f7 {nm ot:ByteArray} {m n:Int} {ty re:Ty} {l:List Tm} {t0 t1 r0 r1:D} {es1:List D} {a1 a:Option Addr} {c1 c:Nat} {g:List Tg} {es:List D} (ih:IHi l) (hh:Tm.Hd nm ot ty re t0 t1 r0 r1) (h0:All2 Tm.Is l es1) (hl1:es1.length≤4611686018427387904)
  (pre:Pre g (.mk 7 nm ot m ty re l) n) (ctx:Ctx g es) :
  zCR 120 [.sv a 4 es c,.dg 9 (zFb 7 nm ot m t0 t1 r0 r1 a1 es1 c1),.int .i64 n] ((Tm.raw (.mk 7 nm ot m ty re l) g n).getD tZero):=fun N Q hQ=>by
 have hl : l.length = 2 := by have:(l.length:Int)=2:=(xY pre.ok).ar
                              omega
 obtain ⟨e0,e1,rfl⟩:=zLH hl
 have hraw:(Tm.raw (.mk 7 nm ot m ty re [e0,e1]) g n).getD tZero=zNN (tyZ e0 g n) (tyZ e1 g n):=by
  unfold zNN
  rw [←zR1 (s:=nm)]
  simp only [Tm.raw]
  rfl
 rw [hraw] at hQ
 have hn:yR 7 n=n:=by simp [yR]
 refine zn N a es c _ n Q fun _ _=>⟨_,rfl,?_⟩
 repeat' first|with_reducible intro _|simp only[Y1,Y2,Y3,Y4]|(with_reducible first|refine X1 ?_ ?_|refine X2 ?_ ?_|refine X3 ?_ ?_|refine X4 ?_ ?_|refine X5 ?_ ?_|refine X6 ?_ ?_|refine X7 ?_ ?_|refine X8 ?_ ?_|refine X9 ?_ ?_)|refine⟨_,_,_,rfl,?_⟩|refine⟨_,rfl,?_⟩|((with_reducible refine And.intro ?_ ?_);·first|omega|trivial|(show _=_;rfl)|((with_reducible refine And.intro ?_ ?_)<;>first|omega|trivial|(show _=_;rfl)))|refine (zDv hn ih h0 hl1 pre ctx 0 rfl _ _ _) _ _ ?_|refine (zDv hn ih h0 hl1 pre ctx 1 rfl _ _ _) _ _ ?_|(((with_reducible refine And.intro ?_ ?_);· exact zBg (by assumption) (by assumption)))|fail
 all_goals first | (exfalso;omega) | skip
 rename_i hd0 ho0 _ _ _ _ _ _ _ _ _ _ _ _ _ _ hd1 ho1 _ _
 have hv:=t7 e0 g n
 generalize tyZ e0 g n=z0 at *
 cases z0 with
 | mk k0 l0=>
 obtain ⟨a2,es2,c2,rfl,hl2,he2⟩:=Ty.is_mk.1 hd0
 by_cases hk:k0=3
 ·subst hk
  have hv:(Ty.mk 3 l0).valid=true:=by
   rcases hv with ⟨_,hv⟩ | ⟨_,hv⟩
   ·cases hv
   ·exact hv
  have hcn:=Ty.valid_cnt hv
  rcases Ty.valid_k hv with ⟨hk,_⟩ | ⟨hk,_⟩ | ⟨_,u,v,huv⟩ | ⟨hk,_⟩
  ·cases hk
  ·cases hk
  ·simp only [Ty.as] at huv
   subst huv
   obtain ⟨x0,_,rfl,hx0,x1,_,rfl,hx1,rfl⟩:=he2
   simp only [Ty.cnt,zO] at hcn
   have q1:uu u (tyZ e1 g n)=true→zNN (.mk 3 [u,v]) (tyZ e1 g n)=v:=fun h=>if_pos ⟨rfl,h⟩
   have q2:uu u (tyZ e1 g n)=false→zNN (.mk 3 [u,v]) (tyZ e1 g n)=tZero:=fun h=>if_neg fun hc=>by rw [show (Ty.mk 3 [u,v]).as.getD 0 tZero=u from rfl,h] at hc;cases hc.2
   repeat' first|with_reducible intro _|simp only[List.length_cons,List.length_nil,Y1,Y2,Y3,Y4]|(with_reducible first|refine X1 ?_ ?_|refine X2 ?_ ?_|refine X3 ?_ ?_|refine X4 ?_ ?_|refine X5 ?_ ?_|refine X6 ?_ ?_|refine X7 ?_ ?_|refine X8 ?_ ?_|refine X9 ?_ ?_)|refine⟨_,_,_,rfl,?_⟩|refine⟨_,rfl,?_⟩|((with_reducible refine And.intro ?_ ?_);·first|omega|trivial|(show _=_;rfl)|((with_reducible refine And.intro ?_ ?_)<;>first|omega|trivial|(show _=_;rfl)))|refine (zW u (tyZ e1 g n) _ _ hx0 hd1) _ _ ?_|refine (zH0 v _ hx1 (by omega)) _ _ ?_|fail
   all_goals first | (exfalso;omega) | skip
   all_goals first
    | exact hQ _ _ (by omega) (by rw [q1 (by assumption)];assumption) (Own.mono (by assumption) (by omega) (by omega))
    | exact hQ _ _ (by omega) (by rw [q2 (by assumption)];exact xO) yV
  ·cases hk
 ·repeat' first|with_reducible intro _|simp only[Y1,Y2,Y3,Y4]|(with_reducible first|refine X1 ?_ ?_|refine X2 ?_ ?_|refine X3 ?_ ?_|refine X4 ?_ ?_|refine X5 ?_ ?_|refine X6 ?_ ?_|refine X7 ?_ ?_|refine X8 ?_ ?_|refine X9 ?_ ?_)|refine⟨_,_,_,rfl,?_⟩|refine⟨_,rfl,?_⟩|((with_reducible refine And.intro ?_ ?_);·first|omega|trivial|(show _=_;rfl)|((with_reducible refine And.intro ?_ ?_)<;>first|omega|trivial|(show _=_;rfl)))|fail
  all_goals first | (exfalso;omega) | skip
  exact hQ _ _ (by omega) (by rw [show zNN (.mk k0 l0) (tyZ e1 g n)=tZero from if_neg fun h=>hk h.1];exact xO) yV
/-- the type of a function of this parameter -/
def zPE (t z:Ty):Ty:=if z.k=0 then tZero else uy t z
theorem f6 {nm ot:ByteArray} {m n:Int} {ty re:Ty} {l:List Tm} {t0 t1 r0 r1:D} {es1:List D} {a1 a:Option Addr} {c1 c:Nat} {g:List Tg} {es:List D} (ih:IHi l) (hh:Tm.Hd nm ot ty re t0 t1 r0 r1) (h0:All2 Tm.Is l es1) (hl1:es1.length≤4611686018427387904)
  (pre:Pre g (.mk 6 nm ot m ty re l) n) (ctx:Ctx g es) :
  zCR 120 [.sv a 4 es c,.dg 9 (zFb 6 nm ot m t0 t1 r0 r1 a1 es1 c1),.int .i64 n] ((Tm.raw (.mk 6 nm ot m ty re l) g n).getD tZero):=fun N Q hQ=>by
 have hl : l.length = 1 := by have:(l.length:Int)=1:=(xY pre.ok).ar
                              omega
 obtain ⟨e0,rfl⟩:=zCM hl
 obtain ⟨d0,_,rfl,h0,rfl⟩:=h0
 have hlen:=pre.len
 have hpc:1≤(Tm.mk 6 nm ot m ty re [e0]).cnt:=by simp only [Tm.cnt];omega
 have hv:=Ty.valid_cnt ((xY pre.ok).vt (.inl rfl))
 have hp:=pre.sub (x:=e0) (by simp) (g':=g++[⟨nm,ty,n⟩]) (by simp) (qR pre.ty (show ty.cnt≤64 by omega))
 rw [show yR 6 n=n by simp [yR]] at hp
 have hc:=zJ1 e0 (g++[⟨nm,ty,n⟩]) n
 have hz:=t7 e0 (g++[⟨nm,ty,n⟩]) n
 have hraw:(Tm.raw (.mk 6 nm ot m ty re [e0]) g n).getD tZero=zPE ty (tyZ e0 (g++[⟨nm,ty,n⟩]) n):=by
  have:Tm.raw (.mk 6 nm ot m ty re [e0]) g n=(match e0.type (g++[⟨nm,ty,n⟩]) n with | some b=>some (uy ty b) | none=>none):=by simp only [Tm.raw,uV];rfl
  rw [this]
  unfold zPE
  rcases hz with ⟨h1,h2⟩ | ⟨h1,h2⟩
  ·rw [h1,h2];rfl
  ·rw [h1,if_neg (Ty.valid_nz h2)];rfl
 rw [hraw] at hQ
 have hctx:Ctx [⟨nm,ty,n⟩] [.ag [.lit (.string nm),t0,t1,.lit (.int .i64 n)]]:=⟨by simp,_,_,rfl,⟨_,_,rfl,hh.nm,hh.ty⟩,rfl⟩
 refine zn N a es c _ n Q fun _ _=>⟨_,rfl,?_⟩
 repeat' first|with_reducible intro _|simp only[List.length_cons,List.length_nil,Y1,Y2,Y3,Y4]|(with_reducible first|refine X1 ?_ ?_|refine X2 ?_ ?_|refine X3 ?_ ?_|refine X4 ?_ ?_|refine X5 ?_ ?_|refine X6 ?_ ?_|refine X7 ?_ ?_|refine X8 ?_ ?_|refine X9 ?_ ?_)|refine⟨_,_,_,rfl,?_⟩|refine⟨_,rfl,?_⟩|((with_reducible refine And.intro ?_ ?_);·first|omega|trivial|(show _=_;rfl)|((with_reducible refine And.intro ?_ ?_)<;>first|omega|trivial|(show _=_;rfl)))|refine (zNq ctx hctx (by simp;omega) _ _ _ _) _ _ ?_|refine (ih e0 List.mem_cons_self d0 h0 (g++[⟨nm,ty,n⟩]) _ _ _ n hp (by assumption)) _ _ ?_|(((with_reducible refine And.intro ?_ ?_);· exact zHY (by assumption) (by assumption) (by assumption) (by assumption)))|fail
 all_goals first | (exfalso;omega) | skip
 rename_i hd0 ho0 _ _
 generalize tyZ e0 (g++[⟨nm,ty,n⟩]) n=z0 at *
 cases z0 with
 | mk k0 l0=>
 have hd1:=hd0
 obtain ⟨a2,es2,c2,rfl,hl2,he2⟩:=Ty.is_mk.1 hd0
 repeat' first|with_reducible intro _|simp only[Y1,Y2,Y3,Y4]|(with_reducible first|refine X1 ?_ ?_|refine X2 ?_ ?_|refine X3 ?_ ?_|refine X4 ?_ ?_|refine X5 ?_ ?_|refine X6 ?_ ?_|refine X7 ?_ ?_|refine X8 ?_ ?_|refine X9 ?_ ?_)|refine⟨_,_,_,rfl,?_⟩|refine⟨_,rfl,?_⟩|((with_reducible refine And.intro ?_ ?_);·first|omega|trivial|(show _=_;rfl)|((with_reducible refine And.intro ?_ ?_)<;>first|omega|trivial|(show _=_;rfl)))|refine (zMR ty (.mk k0 l0) _ _ hh.ty hd1 (by omega) (by omega)) _ _ ?_|fail
 all_goals first
  | exact hQ _ _ (by omega) (by rw [show zPE ty (.mk k0 l0)=tZero from if_pos (by assumption)];exact xO) yV
  | exact hQ _ _ (by omega) (by rw [show zPE ty (.mk k0 l0)=uy ty (.mk k0 l0) from if_neg (by assumption)];assumption) (Own.mono (by assumption) (by omega) (by omega))
/-- the type of a let whose first part has this type -/
def zOv (e1:Tm) (g:List Tg) (nm:ByteArray) (n:Int) (z:Ty):Ty:=if z.k=0 then tZero else tyZ e1 (g++[⟨nm,z,n⟩]) n
theorem f8 {nm ot:ByteArray} {m n:Int} {ty re:Ty} {l:List Tm} {t0 t1 r0 r1:D} {es1:List D} {a1 a:Option Addr} {c1 c:Nat} {g:List Tg} {es:List D} (ih:IHi l) (hh:Tm.Hd nm ot ty re t0 t1 r0 r1) (h0:All2 Tm.Is l es1) (hl1:es1.length≤4611686018427387904)
  (pre:Pre g (.mk 8 nm ot m ty re l) n) (ctx:Ctx g es) :
  zCR 120 [.sv a 4 es c,.dg 9 (zFb 8 nm ot m t0 t1 r0 r1 a1 es1 c1),.int .i64 n] ((Tm.raw (.mk 8 nm ot m ty re l) g n).getD tZero):=fun N Q hQ=>by
 have hl : l.length = 2 := by have:(l.length:Int)=2:=(xY pre.ok).ar
                              omega
 obtain ⟨e0,e1,rfl⟩:=zLH hl
 have hes1:=h0
 obtain ⟨d0,_,rfl,h0,d1,_,rfl,h1,rfl⟩:=h0
 have hlen:=pre.len
 have hpc:1≤(Tm.mk 8 nm ot m ty re [e0,e1]).cnt:=by simp only [Tm.cnt];omega
 have hz:=t7 e0 g n
 have hc:=zJ1 e0 g n
 have hraw:(Tm.raw (.mk 8 nm ot m ty re [e0,e1]) g n).getD tZero=zOv e1 g nm n (tyZ e0 g n):=by
  have:Tm.raw (.mk 8 nm ot m ty re [e0,e1]) g n=(match e0.type g n with | some b=>e1.type (g++[⟨nm,b,n⟩]) n | none=>none):=by simp only [Tm.raw,uV];rfl
  rw [this]
  unfold zOv
  rcases hz with ⟨h1,h2⟩ | ⟨h1,h2⟩
  ·rw [h1,h2];rfl
  ·rw [h1,if_neg (Ty.valid_nz h2)];rfl
 rw [hraw] at hQ
 have hn:yR 8 n=n:=by simp [yR]
 refine zn N a es c _ n Q fun _ _=>⟨_,rfl,?_⟩
 repeat' first|with_reducible intro _|simp only[List.length_cons,List.length_nil,Y1,Y2,Y3,Y4]|(with_reducible first|refine X1 ?_ ?_|refine X2 ?_ ?_|refine X3 ?_ ?_|refine X4 ?_ ?_|refine X5 ?_ ?_|refine X6 ?_ ?_|refine X7 ?_ ?_|refine X8 ?_ ?_|refine X9 ?_ ?_)|refine⟨_,_,_,rfl,?_⟩|refine⟨_,rfl,?_⟩|((with_reducible refine And.intro ?_ ?_);·first|omega|trivial|(show _=_;rfl)|((with_reducible refine And.intro ?_ ?_)<;>first|omega|trivial|(show _=_;rfl)))|refine (zDv hn ih hes1 hl1 pre ctx 0 rfl _ _ _) _ _ ?_|(((with_reducible refine And.intro ?_ ?_);· exact zBg (by assumption) (by assumption)))|fail
 all_goals first | (exfalso;omega) | skip
 rename_i hd0 ho0 _ _
 generalize tyZ e0 g n=z0 at *
 cases z0 with
 | mk k0 l0=>
 have hd1:=hd0
 obtain ⟨a2,es2,c2,rfl,hl2,he2⟩:=Ty.is_mk.1 hd0
 by_cases hk:k0=0
 ·have q:zOv e1 g nm n (.mk k0 l0)=tZero:=if_pos hk
  rw [q] at hQ
  repeat' first|with_reducible intro _|simp only[Y1,Y2,Y3,Y4]|(with_reducible first|refine X1 ?_ ?_|refine X2 ?_ ?_|refine X3 ?_ ?_|refine X4 ?_ ?_|refine X5 ?_ ?_|refine X6 ?_ ?_|refine X7 ?_ ?_|refine X8 ?_ ?_|refine X9 ?_ ?_)|refine⟨_,_,_,rfl,?_⟩|refine⟨_,rfl,?_⟩|((with_reducible refine And.intro ?_ ?_);·first|omega|trivial|(show _=_;rfl)|((with_reducible refine And.intro ?_ ?_)<;>first|omega|trivial|(show _=_;rfl)))|fail
  all_goals first | (exfalso;omega) | exact hQ _ _ (by omega) xO yV
 ·have q:zOv e1 g nm n (.mk k0 l0)=tyZ e1 (g++[⟨nm,.mk k0 l0,n⟩]) n:=if_neg hk
  rw [q] at hQ
  have hp:=pre.sub (x:=e1) (by simp) (g':=g++[⟨nm,.mk k0 l0,n⟩]) (by simp) (qR pre.ty (Nat.le_trans hc (by omega)))
  rw [hn] at hp
  have hctx:Ctx [⟨nm,.mk k0 l0,n⟩] [.ag [.lit (.string nm),.lit (.int .i64 k0),.sl a2 2 es2 c2,.lit (.int .i64 n)]]:=⟨by simp,_,_,rfl,⟨_,_,rfl,hh.nm,hd1⟩,rfl⟩
  repeat' first|with_reducible intro _|simp only[List.length_cons,List.length_nil,Y1,Y2,Y3,Y4]|(with_reducible first|refine X1 ?_ ?_|refine X2 ?_ ?_|refine X3 ?_ ?_|refine X4 ?_ ?_|refine X5 ?_ ?_|refine X6 ?_ ?_|refine X7 ?_ ?_|refine X8 ?_ ?_|refine X9 ?_ ?_)|refine⟨_,_,_,rfl,?_⟩|refine⟨_,rfl,?_⟩|((with_reducible refine And.intro ?_ ?_);·first|omega|trivial|(show _=_;rfl)|((with_reducible refine And.intro ?_ ?_)<;>first|omega|trivial|(show _=_;rfl)))|refine (zNq ctx hctx (by simp;omega) _ _ _ _) _ _ ?_|refine (ih e1 (by simp) d1 h1 (g++[⟨nm,.mk k0 l0,n⟩]) _ _ _ n hp (by assumption)) _ _ ?_|(((with_reducible refine And.intro ?_ ?_);· exact zHY (by assumption) (by assumption) (by assumption) (by assumption)))|fail
  all_goals first | (exfalso;omega) | skip
  exact hQ _ _ (by omega) (by assumption) (Own.mono (by assumption) (by omega) (by omega))
theorem zSX {nm ot:ByteArray} {ty re:Ty} {t0 t1 r0 r1 x:D} (hh:Tm.Hd nm ot ty re t0 t1 r0 r1) (hx:(uy ty re).Is x) (n:Int) :
  Ctx [⟨nm,uy ty re,n⟩,⟨ot,ty,n⟩] [.ag [.lit (.string nm),D.cell x 0,D.cell x 1,.lit (.int .i64 n)],.ag [.lit (.string ot),t0,t1,.lit (.int .i64 n)]]:=
 ⟨by simp,_,_,rfl,⟨_,_,rfl,hh.nm,Ty.is_cells hx⟩,_,_,rfl,⟨_,_,rfl,hh.ot,hh.ty⟩,rfl⟩
theorem f9 {nm ot:ByteArray} {m n:Int} {ty re:Ty} {l:List Tm} {t0 t1 r0 r1:D} {es1:List D} {a1 a:Option Addr} {c1 c:Nat} {g:List Tg} {es:List D} (ih:IHi l) (hh:Tm.Hd nm ot ty re t0 t1 r0 r1) (h0:All2 Tm.Is l es1) (hl1:es1.length≤4611686018427387904)
  (pre:Pre g (.mk 9 nm ot m ty re l) n) (ctx:Ctx g es) :
  zCR 120 [.sv a 4 es c,.dg 9 (zFb 9 nm ot m t0 t1 r0 r1 a1 es1 c1),.int .i64 n] ((Tm.raw (.mk 9 nm ot m ty re l) g n).getD tZero):=fun N Q hQ=>by
 have hl : l.length = 1 := by have:(l.length:Int)=1:=(xY pre.ok).ar
                              omega
 obtain ⟨e0,rfl⟩:=zCM hl
 obtain ⟨d0,_,rfl,h0,rfl⟩:=h0
 have hlen:=pre.len
 have hpc:1≤(Tm.mk 9 nm ot m ty re [e0]).cnt:=by simp only [Tm.cnt];omega
 have hv:=Ty.valid_cnt ((xY pre.ok).vt (.inr rfl))
 have hrv:=(xY pre.ok).vr rfl
 have hr:=Ty.valid_cnt hrv
 have hg1:=qR (x:=⟨nm,uy ty re,n⟩) pre.ty (show (uy ty re).cnt≤64 by simp only [uy,Ty.cnt,zO];omega)
 have hp:=pre.sub (x:=e0) (by simp) (g':=(g++[⟨nm,uy ty re,n⟩])++[⟨ot,ty,n⟩]) (by simp) (qR hg1 (show ty.cnt≤64 by omega))
 rw [show yR 9 n=n by simp [yR],List.append_assoc,List.singleton_append] at hp
 have hz:=t7 e0 (g++[⟨nm,uy ty re,n⟩,⟨ot,ty,n⟩]) n
 have hraw:(Tm.raw (.mk 9 nm ot m ty re [e0]) g n).getD tZero=if uu (tyZ e0 (g++[⟨nm,uy ty re,n⟩,⟨ot,ty,n⟩]) n) re then uy ty re else tZero:=by
  have:Tm.raw (.mk 9 nm ot m ty re [e0]) g n=(match e0.type ((g++[⟨nm,uy ty re,n⟩])++[⟨ot,ty,n⟩]) n with | some b=>if uu b re then some (uy ty re) else none | none=>none):=by simp only [Tm.raw,uV];rfl
  rw [this,List.append_assoc,List.singleton_append]
  rcases hz with ⟨h1,h2⟩ | ⟨h1,h2⟩
  ·rw [h1,h2,(zNH hrv).2];rfl
  ·rw [h1];dsimp only;split<;>rfl
 rw [hraw] at hQ
 refine zn N a es c _ n Q fun _ _=>⟨_,rfl,?_⟩
 repeat' first|with_reducible intro _|simp only[List.length_cons,List.length_nil,Y1,Y2,Y3,Y4]|(with_reducible first|refine X1 ?_ ?_|refine X2 ?_ ?_|refine X3 ?_ ?_|refine X4 ?_ ?_|refine X5 ?_ ?_|refine X6 ?_ ?_|refine X7 ?_ ?_|refine X8 ?_ ?_|refine X9 ?_ ?_)|refine⟨_,_,_,rfl,?_⟩|refine⟨_,rfl,?_⟩|((with_reducible refine And.intro ?_ ?_);·first|omega|trivial|(show _=_;rfl)|((with_reducible refine And.intro ?_ ?_)<;>first|omega|trivial|(show _=_;rfl)))|refine (zMR ty re _ _ hh.ty hh.re (by omega) (by omega)) _ _ ?_|refine (zNq ctx (h:=[⟨nm,uy ty re,n⟩,⟨ot,ty,n⟩]) (zSX hh (by assumption) n) (by simp;omega) _ _ _ _) _ _ ?_|refine (ih e0 List.mem_cons_self d0 h0 (g++[⟨nm,uy ty re,n⟩,⟨ot,ty,n⟩]) _ _ _ n hp (by assumption)) _ _ ?_|refine (zW (tyZ e0 (g++[⟨nm,uy ty re,n⟩,⟨ot,ty,n⟩]) n) re _ _ (by assumption) hh.re) _ _ ?_|(((with_reducible refine And.intro ?_ ?_);· exact zHY (by assumption) (by assumption) (by assumption) (by assumption)))|fail
 all_goals first | (exfalso;omega) | skip
 all_goals first
  | exact hQ _ _ (by omega) (by rw [if_pos (by assumption)];assumption) (Own.mono (by assumption) (by omega) (by omega))
  | exact hQ _ _ (by omega) (by rw [if_neg (by simp [*])];exact xO) yV
/-- the type of a stage over a part of this type -/
def stZ (k:Int) (z:Ty):Ty:=if k=10 then (if z.k=0 then tZero else zCg z) else if k=13 then (if z.base then zCg z else tZero) else zCU z
theorem zRN {k:Int} {e0:Tm} {g:List Tg} {n:Int}:((match e0.type g n with | some t=>xF k t | none=>none):Option Ty).getD tZero=stZ k (tyZ e0 g n):=by
 rcases t7 e0 g n with ⟨h1,h2⟩ | ⟨h1,h2⟩
 ·rw [h1,h2]
  have:stZ k tZero=tZero:=by
   unfold stZ
   split
   ·rfl
   ·split<;>rfl
  exact this.symm
 ·rw [h1]
  dsimp only
  have:=Ty.valid_nz h2
  unfold stZ xF zCU
  rw [if_neg this]
  (repeat' split)<;>rfl
theorem fS {k:Int} {nm ot:ByteArray} {m n:Int} {ty re:Ty} {l:List Tm} {t0 t1 r0 r1:D} {es1:List D} {a1 a:Option Addr} {c1 c:Nat} {g:List Tg} {es:List D} (hk:k=10∨k=11∨k=12∨k=13) (ih:IHi l) (hh:Tm.Hd nm ot ty re t0 t1 r0 r1) (h0:All2 Tm.Is l es1) (hl1:es1.length≤4611686018427387904)
  (pre:Pre g (.mk k nm ot m ty re l) n) (ctx:Ctx g es) :
  zCR 153 [.sv a 4 es c,.dg 9 (zFb k nm ot m t0 t1 r0 r1 a1 es1 c1),.int .i64 n] ((Tm.raw (.mk k nm ot m ty re l) g n).getD tZero):=fun N Q hQ=>by
 have hl:l.length=1:=by
  have har:=(xY pre.ok).ar
  have:(l.length:Int)=1:=by rw [har];rcases hk with rfl | rfl | rfl | rfl<;>rfl
  omega
 obtain ⟨e0,rfl⟩:=zCM hl
 obtain ⟨d0,_,rfl,h0,rfl⟩:=h0
 have hlen:=pre.len
 have hlv:=pre.lv
 have hsub:=zB0 g n g 0
 have hc2:∀ x∈g,x.ty.cnt≤1073741824:=fun x hx=>Nat.le_trans (pre.ty x hx) (by omega)
 have hraw:(Tm.raw (.mk k nm ot m ty re [e0]) g n).getD tZero=stZ k (tyZ e0 (if k=12 then tV g n else g) (yR k n)):=by
  rw [←zRN]
  simp only [Tm.raw,uV]
  rw [if_neg (by omega),if_neg (by omega),if_neg (by omega),if_neg (by omega),if_neg (by omega),if_neg (by omega),if_pos hk]
  rfl
 rw [hraw] at hQ
 have hp:=pre.sub (x:=e0) (by simp) (g':=if k=12 then tV g n else g) (by split<;>simp [tV];omega) (by split;exact fun y hy=>pre.ty y (hsub.1 y hy);exact pre.ty)
 have ih0:∀ es a c,Ctx (if k=12 then tV g n else g) es→zCR 89 [.sv a 4 es c,.dg 9 d0,.int .i64 (yR k n)] (tyZ e0 (if k=12 then tV g n else g) (yR k n)):=fun es a c hc=>ih e0 List.mem_cons_self d0 h0 _ es a c _ hp hc
 have hz:=t7 e0 (if k=12 then tV g n else g) (yR k n)
 have hcn:=zJ1 e0 (if k=12 then tV g n else g) (yR k n)
 generalize tyZ e0 (if k=12 then tV g n else g) (yR k n)=z0 at *
 have hzv:z0.valid=true∨z0=tZero:=hz.elim (fun h=>.inr h.2) fun h=>.inl h.2
 refine zCl N a es c _ n Q fun _ _=>⟨_,rfl,?_⟩
 rw [i64_in (n+1) (by omega),i64_in (n - 1) (by omega)]
 cases z0 with
 | mk k0 l0=>
 rcases hk with rfl | rfl | rfl | rfl
 ·have ih1:=ih0 es a c ctx
  rw [show yR 10 n=n+1 by simp [yR]] at ih1
  repeat' first|with_reducible intro _|simp only[List.length_cons,List.length_nil,Y1,Y2,Y3,Y4]|(with_reducible first|refine X1 ?_ ?_|refine X2 ?_ ?_|refine X3 ?_ ?_|refine X4 ?_ ?_|refine X5 ?_ ?_|refine X6 ?_ ?_|refine X7 ?_ ?_|refine X8 ?_ ?_|refine X9 ?_ ?_)|refine⟨_,_,_,rfl,?_⟩|refine⟨_,rfl,?_⟩|((with_reducible refine And.intro ?_ ?_);·first|omega|trivial|(show _=_;rfl)|((with_reducible refine And.intro ?_ ?_)<;>first|omega|trivial|(show _=_;rfl)))|refine ih1 _ _ ?_|fail
  all_goals first | (exfalso;omega) | skip
  rename_i hd0 ho0 _ _
  have hd1:=hd0
  obtain ⟨a2,es2,c2,rfl,hl2,he2⟩:=Ty.is_mk.1 hd0
  have q:stZ 10 (.mk k0 l0)=if k0=0 then tZero else zCg (.mk k0 l0):=rfl
  rw [q] at hQ
  repeat' first|with_reducible intro _|simp only[Y1,Y2,Y3,Y4]|(with_reducible first|refine X1 ?_ ?_|refine X2 ?_ ?_|refine X3 ?_ ?_|refine X4 ?_ ?_|refine X5 ?_ ?_|refine X6 ?_ ?_|refine X7 ?_ ?_|refine X8 ?_ ?_|refine X9 ?_ ?_)|refine⟨_,_,_,rfl,?_⟩|refine⟨_,rfl,?_⟩|((with_reducible refine And.intro ?_ ?_);·first|omega|trivial|(show _=_;rfl)|((with_reducible refine And.intro ?_ ?_)<;>first|omega|trivial|(show _=_;rfl)))|refine (zLL (.mk k0 l0) _ hd1 (by omega)) _ _ ?_|fail
  all_goals first
   | exact hQ _ _ (by omega) (by rw [if_neg (by assumption)];assumption) (Own.mono (by assumption) (by omega) (by omega))
   | exact hQ _ _ (by omega) (by rw [if_pos (by assumption)];exact xO) yV
 ·have ih1:=ih0 es a c ctx
  rw [show yR 11 n=n - 1 by simp [yR]] at ih1
  have q:stZ 11 (.mk k0 l0)=zCU (.mk k0 l0):=rfl
  rw [q] at hQ
  repeat' first|with_reducible intro _|simp only[List.length_cons,List.length_nil,Y1,Y2,Y3,Y4]|(with_reducible first|refine X1 ?_ ?_|refine X2 ?_ ?_|refine X3 ?_ ?_|refine X4 ?_ ?_|refine X5 ?_ ?_|refine X6 ?_ ?_|refine X7 ?_ ?_|refine X8 ?_ ?_|refine X9 ?_ ?_)|refine⟨_,_,_,rfl,?_⟩|refine⟨_,rfl,?_⟩|((with_reducible refine And.intro ?_ ?_);·first|omega|trivial|(show _=_;rfl)|((with_reducible refine And.intro ?_ ?_)<;>first|omega|trivial|(show _=_;rfl)))|refine ih1 _ _ ?_|refine (zLF (.mk k0 l0) _ (by assumption) hzv) _ _ ?_|fail
  all_goals first | (exfalso;omega) | skip
  exact hQ _ _ (by omega) (by assumption) (Own.mono (by assumption) (by omega) (by omega))
 ·rw [if_pos rfl,show yR 12 n=n by simp [yR]] at ih0
  have q:stZ 12 (.mk k0 l0)=zCU (.mk k0 l0):=rfl
  rw [q] at hQ
  repeat' first|with_reducible intro _|simp only[List.length_cons,List.length_nil,Y1,Y2,Y3,Y4]|(with_reducible first|refine X1 ?_ ?_|refine X2 ?_ ?_|refine X3 ?_ ?_|refine X4 ?_ ?_|refine X5 ?_ ?_|refine X6 ?_ ?_|refine X7 ?_ ?_|refine X8 ?_ ?_|refine X9 ?_ ?_)|refine⟨_,_,_,rfl,?_⟩|refine⟨_,rfl,?_⟩|((with_reducible refine And.intro ?_ ?_);·first|omega|trivial|(show _=_;rfl)|((with_reducible refine And.intro ?_ ?_)<;>first|omega|trivial|(show _=_;rfl)))|refine (zMX ctx (by omega) hc2 _ _ n) _ _ ?_|refine (ih0 _ _ _ (by assumption)) _ _ ?_|refine (zLF (.mk k0 l0) _ (by assumption) hzv) _ _ ?_|fail
  all_goals first | (exfalso;omega) | skip
  exact hQ _ _ (by omega) (by assumption) (Own.mono (by assumption) (by omega) (by omega))
 ·have ih1:=ih0 es a c ctx
  rw [show yR 13 n=n by simp [yR]] at ih1
  have q:stZ 13 (.mk k0 l0)=if (Ty.mk k0 l0).base then zCg (.mk k0 l0) else tZero:=rfl
  rw [q] at hQ
  repeat' first|with_reducible intro _|simp only[List.length_cons,List.length_nil,Y1,Y2,Y3,Y4]|(with_reducible first|refine X1 ?_ ?_|refine X2 ?_ ?_|refine X3 ?_ ?_|refine X4 ?_ ?_|refine X5 ?_ ?_|refine X6 ?_ ?_|refine X7 ?_ ?_|refine X8 ?_ ?_|refine X9 ?_ ?_)|refine⟨_,_,_,rfl,?_⟩|refine⟨_,rfl,?_⟩|((with_reducible refine And.intro ?_ ?_);·first|omega|trivial|(show _=_;rfl)|((with_reducible refine And.intro ?_ ?_)<;>first|omega|trivial|(show _=_;rfl)))|refine ih1 _ _ ?_|refine (sU (.mk k0 l0) _ (by assumption)) _ _ ?_|refine (zLL (.mk k0 l0) _ (by assumption) (by omega)) _ _ ?_|fail
  all_goals first | (exfalso;omega) | skip
  all_goals first
   | exact hQ _ _ (by omega) (by rw [if_pos (by assumption)];assumption) (Own.mono (by assumption) (by omega) (by omega))
   | exact hQ _ _ (by omega) (by rw [if_neg (by simp [*])];exact xO) yV
theorem f4 {nm ot:ByteArray} {m n:Int} {ty re:Ty} {l:List Tm} {t0 t1 r0 r1:D} {es1:List D} {a1 a:Option Addr} {c1 c:Nat} {g:List Tg} {es:List D} (ih:IHi l) (hh:Tm.Hd nm ot ty re t0 t1 r0 r1) (h0:All2 Tm.Is l es1) (hl1:es1.length≤4611686018427387904)
  (pre:Pre g (.mk 4 nm ot m ty re l) n) (ctx:Ctx g es) :
  zCR 120 [.sv a 4 es c,.dg 9 (zFb 4 nm ot m t0 t1 r0 r1 a1 es1 c1),.int .i64 n] ((Tm.raw (.mk 4 nm ot m ty re l) g n).getD tZero):=fun N Q hQ=>by
 have hlen:=pre.len
 have hcl:=vY l
 have hln:=h0.len
 simp only [Tm.cnt] at hlen
 have hop:0<zMg nm:=by
  have:=(xY pre.ok).f
  simp only [xJ,zD9,Bool.and_eq_true] at this
  have:=this.2.2.2.2.2
  simp at this
  exact this.1
 have hraw:(Tm.raw (.mk 4 nm ot m ty re l) g n).getD tZero=if zBk (p4 nm) (l.map fun e=>tyZ e g n) then zCO nm else tZero:=by
  rw [←zSU hop]
  simp only [Tm.raw]
  rfl
 rw [hraw] at hQ
 have hn:yR 4 n=n:=by simp [yR]
 have key:yn Q N 0 0 es1.length (0:Nat) (zFb 4 nm ot m t0 t1 r0 r1 a1 es1 c1) 0 none [] 0 a es c n [] 0 N:=by
  refine up h0 hl1 (fun i xs=>∀ (r:List D) (q p:Nat) (N':Nat) (ts:List Ty),N≤N'→p=r.length→All2 Ty.Is ts r→ts.length=i→(∀ b∈zB r,N≤b)→ts++(xs.map fun e=>tyZ e g n)=(l.map fun e=>tyZ e g n) →
   yn Q N p q es1.length i (zFb 4 nm ot m t0 t1 r0 r1 a1 es1 c1) 0 none [] 0 a es c n r q N') ?_ ?_ [] 0 0 N [] (Nat.le_refl _) rfl rfl rfl (by simp [zB]) rfl
  ·intro i hlt hi r q p N' ts hN' hp hr hti hlo hts
   have hrl:=hr.len
   simp only [List.map_nil,List.append_nil] at hts
   rw [←hts] at hQ
   refine tK _ _ _ _ _ _ _ _ _ _ _ _ _ _ _ _ _ _ ?_
   repeat' first|with_reducible intro _|simp only[hlt,Y1,Y2,Y3,Y4]|(with_reducible first|refine X1 ?_ ?_|refine X2 ?_ ?_|refine X3 ?_ ?_|refine X4 ?_ ?_|refine X5 ?_ ?_|refine X6 ?_ ?_|refine X7 ?_ ?_|refine X8 ?_ ?_|refine X9 ?_ ?_)|refine⟨_,_,_,rfl,?_⟩|refine⟨_,rfl,?_⟩|((with_reducible refine And.intro ?_ ?_);·first|omega|trivial|(show _=_;rfl)|((with_reducible refine And.intro ?_ ?_)<;>first|omega|trivial|(show _=_;rfl)))|refine (zOo hr (by omega) _ _ nm) _ _ ?_|(((with_reducible refine And.intro ?_ ?_);· exact zBg (by assumption) (by assumption)))|fail
   exact hQ _ _ (by omega) (by assumption) (Own.mono (by assumption) (by omega) (by omega))
  ·intro i x xs hat _ ih2 r q p N' ts hN' hp hr hti hlo hts
   have hb:=hat.b
   have hrl:=hr.len
   refine tK _ _ _ _ _ _ _ _ _ _ _ _ _ _ _ _ _ _ ?_
   repeat' first|with_reducible intro _|simp only[hat.lt,hat.w,Int.toNat_natCast,Y1,Y2,Y3,Y4]|(with_reducible first|refine X1 ?_ ?_|refine X2 ?_ ?_|refine X3 ?_ ?_|refine X4 ?_ ?_|refine X5 ?_ ?_|refine X6 ?_ ?_|refine X7 ?_ ?_|refine X8 ?_ ?_|refine X9 ?_ ?_)|refine⟨_,_,_,rfl,?_⟩|refine⟨_,rfl,?_⟩|((with_reducible refine And.intro ?_ ?_);·first|omega|trivial|(show _=_;rfl)|((with_reducible refine And.intro ?_ ?_)<;>first|omega|trivial|(show _=_;rfl)))|refine (zDv hn ih h0 hl1 pre ctx i hat.g _ _ _) _ _ ?_|(((with_reducible refine And.intro ?_ ?_);· exact zBg (by assumption) (by assumption)))|fail
   all_goals first | (exfalso;omega) | skip
   rename_i hd ho _ _
   refine ⟨by unfold zC;simp only [List.length_append,List.length_singleton];omega,fun c2=>ih2 _ _ _ _ (ts++[tyZ x g n]) (by omega) rfl (hr.snoc hd) (by simp [hti]) (fun b hb=>?_) (by simpa using hts)⟩
   rw [zF] at hb
   rcases List.mem_append.1 hb with hb | hb
   ·exact hlo b hb
   ·simp only [zB,List.append_nil] at hb
    have:=ho.lo b hb
    omega
 refine zn N a es c _ n Q fun _ _=>⟨_,rfl,?_⟩
 repeat' first|with_reducible intro _|simp only[Y1,Y2,Y3,Y4]|(with_reducible first|refine X1 ?_ ?_|refine X2 ?_ ?_|refine X3 ?_ ?_|refine X4 ?_ ?_|refine X5 ?_ ?_|refine X6 ?_ ?_|refine X7 ?_ ?_|refine X8 ?_ ?_|refine X9 ?_ ?_)|refine⟨_,_,_,rfl,?_⟩|refine⟨_,rfl,?_⟩|((with_reducible refine And.intro ?_ ?_);·first|omega|trivial|(show _=_;rfl)|((with_reducible refine And.intro ?_ ?_)<;>first|omega|trivial|(show _=_;rfl)))|fail
 all_goals first | (exfalso;omega) | exact key
theorem f1 {nm ot:ByteArray} {m n:Int} {ty re:Ty} {l:List Tm} {t0 t1 r0 r1:D} {es1:List D} {a1 a:Option Addr} {c1 c:Nat} {g:List Tg} {es:List D}
  (pre:Pre g (.mk 1 nm ot m ty re l) n) (ctx:Ctx g es) :
  zCR 120 [.sv a 4 es c,.dg 9 (zFb 1 nm ot m t0 t1 r0 r1 a1 es1 c1),.int .i64 n] ((Tm.raw (.mk 1 nm ot m ty re l) g n).getD tZero):=fun N Q hQ=>by
 have hl2:=ctx.all.len
 have hraw:Tm.raw (.mk 1 nm ot m ty re l) g n=zBN g nm n:=by simp [Tm.raw]
 rw [hraw] at hQ
 refine zn N a es c _ n Q fun _ _=>⟨_,rfl,?_⟩
 rcases zEJ g nm g.length with hlx | hlx
 ·have hlx:ye g nm = -1:=hlx
  have:zBN g nm n=none:=by simp [zBN,hlx]
  rw [this] at hQ
  repeat' first|with_reducible intro _|simp only[hlx,Y1,Y2,Y3,Y4]|(with_reducible first|refine X1 ?_ ?_|refine X2 ?_ ?_|refine X3 ?_ ?_|refine X4 ?_ ?_|refine X5 ?_ ?_|refine X6 ?_ ?_|refine X7 ?_ ?_|refine X8 ?_ ?_|refine X9 ?_ ?_)|refine⟨_,_,_,rfl,?_⟩|refine⟨_,rfl,?_⟩|((with_reducible refine And.intro ?_ ?_);·first|omega|trivial|(show _=_;rfl)|((with_reducible refine And.intro ?_ ?_)<;>first|omega|trivial|(show _=_;rfl)))|refine (zBV ctx a c nm) _ _ ?_|fail
  all_goals first | (exfalso;omega) | skip
  exact hQ _ _ (by omega) xO yV
 ·have hlx:0≤ye g nm∧ye g nm<g.length:=hlx
  have hg:g[(ye g nm).toNat]?=some g[(ye g nm).toNat]:=List.getElem?_eq_getElem (by omega)
  have hx:=ctx.all.get hg
  have hgd:g.getD (ye g nm).toNat tg0=g[(ye g nm).toNat]:=zG5 hg
  obtain ⟨u0,u1,hd,hs,ht⟩:=hx
  have hm:g[(ye g nm).toNat]∈g:=List.getElem_mem _
  have hcn:=pre.ty _ hm
  have:zBN g nm n=if g[(ye g nm).toNat].lv=n then some g[(ye g nm).toNat].ty else none:=by
   rw [zBN,if_neg (by omega),hgd]
  rw [this] at hQ
  generalize g[(ye g nm).toNat]=x at *
  repeat' first|with_reducible intro _|simp only[hd,Y1,Y2,Y3,Y4]|(with_reducible first|refine X1 ?_ ?_|refine X2 ?_ ?_|refine X3 ?_ ?_|refine X4 ?_ ?_|refine X5 ?_ ?_|refine X6 ?_ ?_|refine X7 ?_ ?_|refine X8 ?_ ?_|refine X9 ?_ ?_)|refine⟨_,_,_,rfl,?_⟩|refine⟨_,rfl,?_⟩|((with_reducible refine And.intro ?_ ?_);·first|omega|trivial|(show _=_;rfl)|((with_reducible refine And.intro ?_ ?_)<;>first|omega|trivial|(show _=_;rfl)))|refine (zBV ctx a c nm) _ _ ?_|refine (zH0 _ _ ht (by omega)) _ _ ?_|fail
  all_goals first | (exfalso;omega) | skip
  ·rw [if_pos (by assumption)] at hQ;exact hQ _ _ (by omega) (by assumption) (Own.mono (by assumption) (by omega) (by omega))
  ·rw [if_neg (by assumption)] at hQ;exact hQ _ _ (by omega) xO yV
theorem zLp {e:Tm} {d:D} (he:e.Is d) (ih:match e with | .mk _ _ _ _ _ _ l=>IHi l) {g:List Tg} {es:List D} (a:Option Addr) (c:Nat) {n:Int} (pre:Pre g e n) (ctx:Ctx g es) :
  zCR 120 [.sv a 4 es c,.dg 9 d,.int .i64 n] ((e.raw g n).getD tZero):=by
 cases e with
 | mk k nm ot m ty re l=>
 dsimp only at ih
 obtain ⟨t0,t1,r0,r1,a1,es1,c1,rfl,hh,hlen1,hes1⟩:=Tm.is_mk.1 he
 have nd:=xY pre.ok
 have har:=nd.ar
 have hkk:=zJK (k:=k) (nm:=nm) (by omega)
 rcases hkk with rfl | rfl | rfl | rfl | rfl | rfl | rfl | rfl | rfl | h | h | h | h
 ·exact f1 pre ctx
 ·intro N Q hQ
  have hraw:Tm.raw (.mk 2 nm ot m ty re l) g n=some tInt:=by simp [Tm.raw]
  rw [hraw] at hQ
  refine zn N a es c _ n Q fun _ _=>⟨_,rfl,?_⟩
  repeat' first|with_reducible intro _|simp only[Y1,Y2,Y3,Y4]|(with_reducible first|refine X1 ?_ ?_|refine X2 ?_ ?_|refine X3 ?_ ?_|refine X4 ?_ ?_|refine X5 ?_ ?_|refine X6 ?_ ?_|refine X7 ?_ ?_|refine X8 ?_ ?_|refine X9 ?_ ?_)|refine⟨_,_,_,rfl,?_⟩|refine⟨_,rfl,?_⟩|((with_reducible refine And.intro ?_ ?_);·first|omega|trivial|(show _=_;rfl)|((with_reducible refine And.intro ?_ ?_)<;>first|omega|trivial|(show _=_;rfl)))|refine zMQ _ _ ?_|fail
  all_goals first | (exfalso;omega) | skip
  exact hQ _ _ (by omega) (by assumption) (Own.mono (by assumption) (by omega) (by omega))
 ·intro N Q hQ
  have hraw:Tm.raw (.mk 3 nm ot m ty re l) g n=some tBool:=by simp [Tm.raw]
  rw [hraw] at hQ
  refine zn N a es c _ n Q fun _ _=>⟨_,rfl,?_⟩
  repeat' first|with_reducible intro _|simp only[Y1,Y2,Y3,Y4]|(with_reducible first|refine X1 ?_ ?_|refine X2 ?_ ?_|refine X3 ?_ ?_|refine X4 ?_ ?_|refine X5 ?_ ?_|refine X6 ?_ ?_|refine X7 ?_ ?_|refine X8 ?_ ?_|refine X9 ?_ ?_)|refine⟨_,_,_,rfl,?_⟩|refine⟨_,rfl,?_⟩|((with_reducible refine And.intro ?_ ?_);·first|omega|trivial|(show _=_;rfl)|((with_reducible refine And.intro ?_ ?_)<;>first|omega|trivial|(show _=_;rfl)))|refine zGR _ _ ?_|fail
  all_goals first | (exfalso;omega) | skip
  exact hQ _ _ (by omega) (by assumption) (Own.mono (by assumption) (by omega) (by omega))
 ·exact f4 ih hh hes1 hlen1 pre ctx
 ·exact f5 ih hh hes1 hlen1 pre ctx
 ·exact f6 ih hh hes1 hlen1 pre ctx
 ·exact f7 ih hh hes1 hlen1 pre ctx
 ·exact f8 ih hh hes1 hlen1 pre ctx
 ·exact f9 ih hh hes1 hlen1 pre ctx
 all_goals
  intro N Q hQ
  have hk:k=10∨k=11∨k=12∨k=13:=by omega
  refine zn N a es c _ n Q fun _ _=>⟨_,rfl,?_⟩
  repeat' first|with_reducible intro _|simp only[Y1,Y2,Y3,Y4]|(with_reducible first|refine X1 ?_ ?_|refine X2 ?_ ?_|refine X3 ?_ ?_|refine X4 ?_ ?_|refine X5 ?_ ?_|refine X6 ?_ ?_|refine X7 ?_ ?_|refine X8 ?_ ?_|refine X9 ?_ ?_)|refine⟨_,_,_,rfl,?_⟩|refine⟨_,rfl,?_⟩|((with_reducible refine And.intro ?_ ?_);·first|omega|trivial|(show _=_;rfl)|((with_reducible refine And.intro ?_ ?_)<;>first|omega|trivial|(show _=_;rfl)))|refine (fS hk ih hh hes1 hlen1 pre ctx) _ _ ?_|fail
  all_goals first | (exfalso;omega) | skip
  exact hQ _ _ (by omega) (by assumption) (Own.mono (by assumption) (by omega) (by omega))
theorem zQU (e:Tm) (g:List Tg) (n:Int):tyZ e g n=if ((e.raw g n).getD tZero).valid then (e.raw g n).getD tZero else tZero:=by
 rw [tyZ,Tm.type_eq]
 cases e.raw g n with
 | none=>rfl
 | some t=>
   simp only [vld,Option.getD_some]
   split<;>rfl
theorem zQa:∀ (e:Tm),∀ d,e.Is d→∀ g es a c n,Pre g e n→Ctx g es→zCR 89 [.sv a 4 es c,.dg 9 d,.int .i64 n] (tyZ e g n):=by
 refine Tm.ind fun k nm ot m ty re l ih d hd g es a c n pre ctx N Q hQ=>?_
 have hs:=zLp hd ih a c pre ctx
 rw [zQU] at hQ
 have hc:((Tm.raw (.mk k nm ot m ty re l) g n).getD tZero).cnt≤64:=by
  cases h:Tm.raw (.mk k nm ot m ty re l) g n with
  | none=>simp [tZero,Ty.cnt,zO]
  | some t=>simpa using zNS pre h
 generalize (Tm.raw (.mk k nm ot m ty re l) g n).getD tZero=z at *
 refine zIA N a es c _ n Q fun _ _=>?_
 repeat' first|with_reducible intro _|simp only[Y1,Y2,Y3,Y4]|(with_reducible first|refine X1 ?_ ?_|refine X2 ?_ ?_|refine X3 ?_ ?_|refine X4 ?_ ?_|refine X5 ?_ ?_|refine X6 ?_ ?_|refine X7 ?_ ?_|refine X8 ?_ ?_|refine X9 ?_ ?_)|refine⟨_,_,_,rfl,?_⟩|refine⟨_,rfl,?_⟩|((with_reducible refine And.intro ?_ ?_);·first|omega|trivial|(show _=_;rfl)|((with_reducible refine And.intro ?_ ?_)<;>first|omega|trivial|(show _=_;rfl)))|refine hs _ _ ?_|refine (xh z _ (by assumption) (by omega)) _ _ ?_|fail
 all_goals first
  | exact hQ _ _ (by omega) (by rw [if_pos (by assumption)];assumption) (Own.mono (by assumption) (by omega) (by omega))
  | exact hQ _ _ (by omega) (by rw [if_neg (by simp [*])];exact xO) yV
/-- returns this type and true, or the zero type and false, in memory of its own -/
def zSA (f:FuncId) (args:List PV) (o:Option Ty):Prop:=∀ (N:Nat) (Q:QT [.ag 2,.bool]),(∀ d N',N≤N'→(o.getD tZero).Is d→Own N N' d→Q d o.isSome N')→ACalls prog f [.ag 2,.bool] args N Q
theorem zHC {g:List Tg} {es:List D} (ctx:Ctx g es) (hg:∀ x∈g,x.ty.cnt≤1073741824) {e:Tm} {d:D} (he:e.Is d) (hc:e.cnt≤1048576000 / 2) (a:Option Addr) (c:Nat) (n:Int) :
  zSA 61 [.sv a 4 es c,.dg 9 d,.int .i64 n] (zFt g e n):=fun N Q hQ=>by
 refine zHt N a es c d n Q fun _ _=>?_
 cases h1:zGb g with
 | false=>
   rw [zFt,if_neg (by simp [h1])] at hQ
   repeat' first|with_reducible intro _|simp only[h1,Y1,Y2,Y3,Y4]|(with_reducible first|refine X1 ?_ ?_|refine X2 ?_ ?_|refine X3 ?_ ?_|refine X4 ?_ ?_|refine X5 ?_ ?_|refine X6 ?_ ?_|refine X7 ?_ ?_|refine X8 ?_ ?_|refine X9 ?_ ?_)|refine⟨_,_,_,rfl,?_⟩|refine⟨_,rfl,?_⟩|((with_reducible refine And.intro ?_ ?_);·first|omega|trivial|(show _=_;rfl)|((with_reducible refine And.intro ?_ ?_)<;>first|omega|trivial|(show _=_;rfl)))|refine (rz ctx hg a c) _ _ ?_|fail
   exact hQ _ _ (by omega) xO yV
 | true=>
   cases h2:zJ7 e n with
   | false=>
     rw [zFt,if_neg (by simp [h2])] at hQ
     repeat' first|with_reducible intro _|simp only[h1,h2,Y1,Y2,Y3,Y4]|(with_reducible first|refine X1 ?_ ?_|refine X2 ?_ ?_|refine X3 ?_ ?_|refine X4 ?_ ?_|refine X5 ?_ ?_|refine X6 ?_ ?_|refine X7 ?_ ?_|refine X8 ?_ ?_|refine X9 ?_ ?_)|refine⟨_,_,_,rfl,?_⟩|refine⟨_,rfl,?_⟩|((with_reducible refine And.intro ?_ ?_);·first|omega|trivial|(show _=_;rfl)|((with_reducible refine And.intro ?_ ?_)<;>first|omega|trivial|(show _=_;rfl)))|refine (rz ctx hg a c) _ _ ?_|refine (qE e d he (by omega) n) _ _ ?_|fail
     exact hQ _ _ (by omega) xO yV
   | true=>
     rw [zFt,if_pos ⟨h1,h2⟩] at hQ
     have hz:=t7 e g n
     repeat' first|with_reducible intro _|simp only[h1,h2,Y1,Y2,Y3,Y4]|(with_reducible first|refine X1 ?_ ?_|refine X2 ?_ ?_|refine X3 ?_ ?_|refine X4 ?_ ?_|refine X5 ?_ ?_|refine X6 ?_ ?_|refine X7 ?_ ?_|refine X8 ?_ ?_|refine X9 ?_ ?_)|refine⟨_,_,_,rfl,?_⟩|refine⟨_,rfl,?_⟩|((with_reducible refine And.intro ?_ ?_);·first|omega|trivial|(show _=_;rfl)|((with_reducible refine And.intro ?_ ?_)<;>first|omega|trivial|(show _=_;rfl)))|refine (rz ctx hg a c) _ _ ?_|refine (qE e d he (by omega) n) _ _ ?_|refine (zQa e d he g es a c n (zQx h1 h2 hc) ctx) _ _ ?_|fail
     rename_i hd ho _ _
     rcases hz with ⟨h3,h4⟩ | ⟨h3,h4⟩
     ·rw [h3] at hQ
      rw [h4] at hd
      obtain ⟨a2,es2,c2,rfl,hl2,he2⟩:=Ty.is_mk.1 hd
      repeat' first|with_reducible intro _|simp only[Y1,Y2,Y3,Y4]|(with_reducible first|refine X1 ?_ ?_|refine X2 ?_ ?_|refine X3 ?_ ?_|refine X4 ?_ ?_|refine X5 ?_ ?_|refine X6 ?_ ?_|refine X7 ?_ ?_|refine X8 ?_ ?_|refine X9 ?_ ?_)|refine⟨_,_,_,rfl,?_⟩|refine⟨_,rfl,?_⟩|((with_reducible refine And.intro ?_ ?_);·first|omega|trivial|(show _=_;rfl)|((with_reducible refine And.intro ?_ ?_)<;>first|omega|trivial|(show _=_;rfl)))|fail
      exact hQ _ _ (by omega) hd (Own.mono (by assumption) (by omega) (by omega))
     ·rw [h3] at hQ
      have hnz:=Ty.valid_nz h4
      generalize tyZ e g n=z at *
      cases z with
      | mk k0 l0=>
      have hd1:=hd
      obtain ⟨a2,es2,c2,rfl,hl2,he2⟩:=Ty.is_mk.1 hd
      repeat' first|with_reducible intro _|simp only[Y1,Y2,Y3,Y4]|(with_reducible first|refine X1 ?_ ?_|refine X2 ?_ ?_|refine X3 ?_ ?_|refine X4 ?_ ?_|refine X5 ?_ ?_|refine X6 ?_ ?_|refine X7 ?_ ?_|refine X8 ?_ ?_|refine X9 ?_ ?_)|refine⟨_,_,_,rfl,?_⟩|refine⟨_,rfl,?_⟩|((with_reducible refine And.intro ?_ ?_);·first|omega|trivial|(show _=_;rfl)|((with_reducible refine And.intro ?_ ?_)<;>first|omega|trivial|(show _=_;rfl)))|fail
      have hnz:(bne k0 0)=true:=by simpa [Ty.k] using hnz
      rw [hnz]
      exact hQ _ _ (by omega) hd1 (Own.mono (by assumption) (by omega) (by omega))
mutual
def Tm.sz:Tm→Nat
 | .mk _ _ _ _ _ _ l=>1+rU l
def rU:List Tm→Nat
 | []=>0
 | t::ts=>t.sz+rU ts
end
mutual
def Tm.dp:Tm→Nat
 | .mk _ _ _ _ _ _ l=>zCv l+1
def zCv:List Tm→Nat
 | []=>0
 | t::ts=>max t.dp (zCv ts)
end
mutual
theorem Tm.sz_cnt:∀ t:Tm,t.sz≤t.cnt
 | .mk _ _ _ _ ty re l=>by simp only [Tm.sz,Tm.cnt];have:=rg l;omega
theorem rg:∀ l:List Tm,rU l≤yM l
 | []=>Nat.le_refl _
 | t::ts=>by simp only [rU,yM];have:=t.sz_cnt;have:=rg ts;omega
end
mutual
theorem Tm.dp_cnt:∀ t:Tm,t.dp≤t.cnt
 | .mk _ _ _ _ ty re l=>by simp only [Tm.dp,Tm.cnt];have:=zAf l;omega
theorem zAf:∀ l:List Tm,zCv l≤yM l
 | []=>Nat.le_refl _
 | t::ts=>by simp only [zCv,yM];have:=t.dp_cnt;have:=zAf ts;omega
end
/-- one form of a body's nodes -/
def zLo (k:Int):Bool:=inB k 1 5||k==8
mutual
def Tm.isB:Tm→Bool
 | .mk k _ _ _ _ _ l=>zN8 l&&zLo k
def zN8:List Tm→Bool
 | []=>true
 | t::ts=>t.isB&&zN8 ts
end
def Tm.vd (t:Tm):Bool:=decide (t.sz≤80)&&decide (t.dp≤20)&&t.ok
theorem zAP:∀ (t:Tm) (d:D),t.Is d→∀ n:Int,0≤n→n≤1000→pe 73 [.dg 9 d,.int .i64 n] (if (t.sz:Int)≤n then n - t.sz else -1):=by
 refine Tm.ind fun k nm ot n0 ty re l ih d hd n hn0 hn1 N Q hQ=>?_
 obtain ⟨t0,t1,r0,r1,a,es,c,rfl,hh,hlen,hes⟩:=Tm.is_mk.1 hd
 refine zHx N _ n Q fun _=>?_
 have key:=up hes hlen (fun i xs=>∀ (m:Int) (N':Nat),N≤N' → -1≤m→m≤1000→(∀ N'',N'≤N''→Q (if m<0 then -1 else if (rU xs:Int)≤m then m - rU xs else -1) N'') →
  w9 Q N m i (.ag [.lit (.int .i64 k),.lit (.string nm),.lit (.string ot),.lit (.int .i64 n0),t0,t1,r0,r1,.sl a 9 es c]) N') ?_ ?_
 ·rw [i64_in _ (by omega)]
  refine key (n - 1) N (Nat.le_refl _) (by omega) (by omega) fun N' hN'=>Qi (hQ N' hN') ?_
  simp only [Tm.sz]
  (repeat' split)<;>omega
 ·intro i hlt _ m N' hN' h1 h2 hQ'
  refine qN _ _ _ _ _ _ ?_
  repeat' first|with_reducible intro _|simp only[hlt,Y1,Y2,Y3,Y4]|(with_reducible first|refine X1 ?_ ?_|refine X2 ?_ ?_|refine X3 ?_ ?_|refine X4 ?_ ?_|refine X5 ?_ ?_|refine X6 ?_ ?_|refine X7 ?_ ?_|refine X8 ?_ ?_|refine X9 ?_ ?_)|refine⟨_,_,_,rfl,?_⟩|refine⟨_,rfl,?_⟩|((with_reducible refine And.intro ?_ ?_);·first|omega|trivial|(show _=_;rfl)|((with_reducible refine And.intro ?_ ?_)<;>first|omega|trivial|(show _=_;rfl)))|fail
  refine Qi (hQ' _ (by assumption)) ?_
  simp only [rU]
  (repeat' split)<;>omega
 ·intro i x xs hat _ ih2 m N' hN' h1 h2 hQ'
  have hb:=hat.b
  refine qN _ _ _ _ _ _ ?_
  repeat' first|with_reducible intro _|simp only[hat.lt,hat.w,Int.toNat_natCast,Y1,Y2,Y3,Y4]|(with_reducible first|refine X1 ?_ ?_|refine X2 ?_ ?_|refine X3 ?_ ?_|refine X4 ?_ ?_|refine X5 ?_ ?_|refine X6 ?_ ?_|refine X7 ?_ ?_|refine X8 ?_ ?_|refine X9 ?_ ?_)|refine⟨_,_,_,rfl,?_⟩|refine⟨_,rfl,?_⟩|((with_reducible refine And.intro ?_ ?_);·first|omega|trivial|(show _=_;rfl)|((with_reducible refine And.intro ?_ ?_)<;>first|omega|trivial|(show _=_;rfl)))|refine (ih x hat.m _ hat.r m (by omega) (by omega)) _ _ ?_|fail
  ·refine ih2 _ _ (by omega) (by split<;>omega) (by split<;>omega) fun N'' hN''=>Qi (hQ' N'' (by omega)) ?_
   simp only [rU]
   (repeat' split)<;>omega
  ·refine Qi (hQ' _ (by assumption)) ?_
   rw [if_pos (by omega)]
   omega
theorem zFM:∀ (t:Tm) (d:D),t.Is d→t.cnt≤1073741824→pe 74 [.dg 9 d] t.dp:=by
 refine Tm.ind fun k nm ot n0 ty re l ih d hd hc N Q hQ=>?_
 obtain ⟨t0,t1,r0,r1,a,es,c,rfl,hh,hlen,hes⟩:=Tm.is_mk.1 hd
 refine zEz N _ Q fun _=>?_
 simp only [Tm.cnt] at hc
 have hdl:=zAf l
 have key:=up hes hlen (fun i xs=>∀ (m:Nat) (N':Nat),N≤N'→max m (zCv xs)=zCv l→wZ Q N (m:Int) i (.ag [.lit (.int .i64 k),.lit (.string nm),.lit (.string ot),.lit (.int .i64 n0),t0,t1,r0,r1,.sl a 9 es c]) N') ?_ ?_
 ·exact key 0 N (Nat.le_refl _) (by omega)
 ·intro i hlt _ m N' hN' hm
  simp only [zCv] at hm
  refine rF _ _ _ _ _ _ ?_
  repeat' first|with_reducible intro _|simp only[hlt,Y1,Y2,Y3,Y4]|(with_reducible first|refine X1 ?_ ?_|refine X2 ?_ ?_|refine X3 ?_ ?_|refine X4 ?_ ?_|refine X5 ?_ ?_|refine X6 ?_ ?_|refine X7 ?_ ?_|refine X8 ?_ ?_|refine X9 ?_ ?_)|refine⟨_,_,_,rfl,?_⟩|refine⟨_,rfl,?_⟩|((with_reducible refine And.intro ?_ ?_);·first|omega|trivial|(show _=_;rfl)|((with_reducible refine And.intro ?_ ?_)<;>first|omega|trivial|(show _=_;rfl)))|fail
  rw [i64_in _ (by omega)]
  refine Qi (hQ _ (Nat.le_trans hN' (by assumption))) ?_
  simp only [Tm.dp]
  omega
 ·intro i x xs hat _ ih2 m N' hN' hm
  have hb:=hat.b
  have hxc:=yY hat.m
  simp only [zCv] at hm
  refine rF _ _ _ _ _ _ ?_
  repeat' first|with_reducible intro _|simp only[hat.lt,hat.w,Int.toNat_natCast,Y1,Y2,Y3,Y4]|(with_reducible first|refine X1 ?_ ?_|refine X2 ?_ ?_|refine X3 ?_ ?_|refine X4 ?_ ?_|refine X5 ?_ ?_|refine X6 ?_ ?_|refine X7 ?_ ?_|refine X8 ?_ ?_|refine X9 ?_ ?_)|refine⟨_,_,_,rfl,?_⟩|refine⟨_,rfl,?_⟩|((with_reducible refine And.intro ?_ ?_);·first|omega|trivial|(show _=_;rfl)|((with_reducible refine And.intro ?_ ?_)<;>first|omega|trivial|(show _=_;rfl)))|refine (ih x hat.m _ hat.r (by omega)) _ _ ?_|refine (zCC _ _) _ _ ?_|fail
  have e:max (m:Int) (x.dp:Int)=((max m x.dp:Nat):Int):=by omega
  rw [e]
  exact ih2 _ _ (by omega) (by omega)
theorem zAl (t:Tm) (d:D) (hd:t.Is d) (hc:t.cnt≤1073741824):vE 47 [.dg 9 d] t.vd:=fun N Q hQ=>by
 refine zBG N _ Q fun _=>?_
 by_cases h80:t.sz≤80
 ·have h1:((t.sz:Int)≤80):=by omega
  repeat' first|with_reducible intro _|simp only[if_pos h1,Y1,Y2,Y3,Y4]|(with_reducible first|refine X1 ?_ ?_|refine X2 ?_ ?_|refine X3 ?_ ?_|refine X4 ?_ ?_|refine X5 ?_ ?_|refine X6 ?_ ?_|refine X7 ?_ ?_|refine X8 ?_ ?_|refine X9 ?_ ?_)|refine⟨_,_,_,rfl,?_⟩|refine⟨_,rfl,?_⟩|((with_reducible refine And.intro ?_ ?_);·first|omega|trivial|(show _=_;rfl)|((with_reducible refine And.intro ?_ ?_)<;>first|omega|trivial|(show _=_;rfl)))|refine (zAP t d hd _ (by omega) (by omega)) _ _ ?_|refine (zFM t d hd hc) _ _ ?_|refine (zGm t d hd hc) _ _ ?_|fail
  all_goals first | omega | skip
  ·have h8:t.dp≤20:=by omega
   refine Qb (hQ _ (by omega)) ?_;simp [Tm.vd, *]
  ·have h8:¬t.dp≤20:=by omega
   refine Qb (hQ _ (by omega)) ?_;simp [Tm.vd, *]
 ·have h1:¬((t.sz:Int)≤80):=by omega
  repeat' first|with_reducible intro _|simp only[if_neg h1,Y1,Y2,Y3,Y4]|(with_reducible first|refine X1 ?_ ?_|refine X2 ?_ ?_|refine X3 ?_ ?_|refine X4 ?_ ?_|refine X5 ?_ ?_|refine X6 ?_ ?_|refine X7 ?_ ?_|refine X8 ?_ ?_|refine X9 ?_ ?_)|refine⟨_,_,_,rfl,?_⟩|refine⟨_,rfl,?_⟩|((with_reducible refine And.intro ?_ ?_);·first|omega|trivial|(show _=_;rfl)|((with_reducible refine And.intro ?_ ?_)<;>first|omega|trivial|(show _=_;rfl)))|refine (zAP t d hd _ (by omega) (by omega)) _ _ ?_|fail
  all_goals first | omega | skip
  refine Qb (hQ _ (by omega)) ?_;simp [Tm.vd, *]
theorem zI2:∀ (t:Tm) (d:D),t.Is d→vE 48 [.dg 9 d] t.isB:=by
 refine Tm.ind fun k nm ot n0 ty re l ih d hd N Q hQ=>?_
 obtain ⟨t0,t1,r0,r1,a,es,c,rfl,hh,hlen,hes⟩:=Tm.is_mk.1 hd
 refine zIC N _ Q fun _=>?_
 have key:=up hes hlen (fun i xs=>∀ (N':Nat),N≤N'→(∀ N'',N'≤N''→Q (zN8 xs&&zLo k) N'')→vb Q N i (.ag [.lit (.int .i64 k),.lit (.string nm),.lit (.string ot),.lit (.int .i64 n0),t0,t1,r0,r1,.sl a 9 es c]) N') ?_ ?_
 ·exact key N (Nat.le_refl _) hQ
 ·intro i hlt _ N' hN' hQ'
  refine pm _ _ _ _ _ ?_
  repeat' first|with_reducible intro _|simp only[hlt,Y1,Y2,Y3,Y4]|(with_reducible first|refine X1 ?_ ?_|refine X2 ?_ ?_|refine X3 ?_ ?_|refine X4 ?_ ?_|refine X5 ?_ ?_|refine X6 ?_ ?_|refine X7 ?_ ?_|refine X8 ?_ ?_|refine X9 ?_ ?_)|refine⟨_,_,_,rfl,?_⟩|refine⟨_,rfl,?_⟩|((with_reducible refine And.intro ?_ ?_);·first|omega|trivial|(show _=_;rfl)|((with_reducible refine And.intro ?_ ?_)<;>first|omega|trivial|(show _=_;rfl)))|refine (zAD _ _ _) _ _ ?_|fail
  all_goals (refine Qb (hQ' _ (by omega)) ?_;simp [zN8,zLo, *])
 ·intro i x xs hat _ ih2 N' hN' hQ'
  have hb:=hat.b
  refine pm _ _ _ _ _ ?_
  repeat' first|with_reducible intro _|simp only[hat.lt,hat.w,Int.toNat_natCast,Y1,Y2,Y3,Y4]|(with_reducible first|refine X1 ?_ ?_|refine X2 ?_ ?_|refine X3 ?_ ?_|refine X4 ?_ ?_|refine X5 ?_ ?_|refine X6 ?_ ?_|refine X7 ?_ ?_|refine X8 ?_ ?_|refine X9 ?_ ?_)|refine⟨_,_,_,rfl,?_⟩|refine⟨_,rfl,?_⟩|((with_reducible refine And.intro ?_ ?_);·first|omega|trivial|(show _=_;rfl)|((with_reducible refine And.intro ?_ ?_)<;>first|omega|trivial|(show _=_;rfl)))|refine (ih x hat.m _ hat.r) _ _ ?_|fail
  ·refine Qb (hQ' _ (by omega)) ?_;simp [zN8, *]
  ·exact ih2 _ (by omega) fun N'' h=>Qb (hQ' N'' (by omega)) (by simp [zN8, *])
theorem wP (l:List ByteArray) (hl:l.length≤4611686018427387904) (a:Option Addr) (c:Nat) (s:ByteArray):pe 72 [.sv a 0 (zA l) c,.str s] (t8 (fun x=>decide (x=s)) l 0):=fun N Q hQ=>by
 have hes:=xm l
 have hlen:(zA l).length≤4611686018427387904:=by rw [hes.len];exact hl
 refine zFf N a _ c s Q fun _=>?_
 refine up hes hlen (fun i xs=>∀ (N':Nat),N≤N'→(∀ N'',N'≤N''→Q (t8 (fun x=>decide (x=s)) xs i) N'')→we Q N a (zA l) c s i N') ?_ ?_ N (Nat.le_refl _) hQ
 ·intro i hlt _ N' hN' hQ'
  refine rR _ _ _ _ _ _ _ _ ?_
  repeat' first|with_reducible intro _|simp only[hlt,Y1,Y2,Y3,Y4]|(with_reducible first|refine X1 ?_ ?_|refine X2 ?_ ?_|refine X3 ?_ ?_|refine X4 ?_ ?_|refine X5 ?_ ?_|refine X6 ?_ ?_|refine X7 ?_ ?_|refine X8 ?_ ?_|refine X9 ?_ ?_)|refine⟨_,_,_,rfl,?_⟩|refine⟨_,rfl,?_⟩|((with_reducible refine And.intro ?_ ?_);·first|omega|trivial|(show _=_;rfl)|((with_reducible refine And.intro ?_ ?_)<;>first|omega|trivial|(show _=_;rfl)))|fail
  exact hQ' _ (by omega)
 ·intro i x xs hat _ ih2 N' hN' hQ'
  have hb:=hat.b
  have hr:=hat.r
  simp only [t8] at hQ'
  refine rR _ _ _ _ _ _ _ _ ?_
  repeat' first|with_reducible intro _|simp only[hat.lt,hat.w,Int.toNat_natCast,hr,Y1,Y2,Y3,Y4]|(with_reducible first|refine X1 ?_ ?_|refine X2 ?_ ?_|refine X3 ?_ ?_|refine X4 ?_ ?_|refine X5 ?_ ?_|refine X6 ?_ ?_|refine X7 ?_ ?_|refine X8 ?_ ?_|refine X9 ?_ ?_)|refine⟨_,_,_,rfl,?_⟩|refine⟨_,rfl,?_⟩|((with_reducible refine And.intro ?_ ?_);·first|omega|trivial|(show _=_;rfl)|((with_reducible refine And.intro ?_ ?_)<;>first|omega|trivial|(show _=_;rfl)))|fail
  ·rename_i h _ _;subst h;exact Qi (hQ' _ (by omega)) (by simp)
  ·rename_i h;exact ih2 _ hN' fun N'' h2=>Qi (hQ' _ h2) (by rw [if_neg (by simpa using h)];simp)
/-- the parameters are well formed, behind the names that were seen -/
def zFD:List ByteArray→List Pm→Bool
 | _,[]=>true
 | seen,p::ps=>tx p.nm&&(p.ty.base&&(!(seen.any fun x=>decide (x=p.nm))&&zFD (seen++[p.nm]) ps))
def zC3 (g:List Pm):Bool:=zFD [] g&&decide (g.length≤5)
theorem xN (l:List ByteArray) (s:ByteArray):zA l++[.lit (.string s)]=zA (l++[s]):=by simp [zA]
theorem zP (l:List ByteArray):(zA l).length=l.length:=by simp [zA]
theorem zCe {g:List Pm} {es:List D} (h:Pms g es) (hg:g.length≤1073741824) (a:Option Addr) (c:Nat):vE 46 [.sv a 4 es c] (zC3 g):=fun N Q hQ=>by
 have hl:=h.all.len
 refine zCa N a es c Q fun _=>?_
 have key:=up h.all h.len (fun i xs=>∀ (seen:List ByteArray) (q:Nat) (N':Nat),N≤N'→seen.length=i→(∀ N'',N'≤N''→Q (zFD seen xs&&decide (g.length≤5)) N'')→xi Q N a es c (zA seen).length q i (zA seen) q N') ?_ ?_
 ·exact key [] 0 N (Nat.le_refl _) rfl hQ
 ·intro i hlt hi seen q N' hN' hs hQ'
  refine tP _ _ _ _ _ _ _ _ _ _ _ ?_
  have e:(((zA seen).length:Nat):Int)=(g.length:Int):=by rw [zP];omega
  repeat' first|with_reducible intro _|simp only[hlt,e,Y1,Y2,Y3,Y4]|(with_reducible first|refine X1 ?_ ?_|refine X2 ?_ ?_|refine X3 ?_ ?_|refine X4 ?_ ?_|refine X5 ?_ ?_|refine X6 ?_ ?_|refine X7 ?_ ?_|refine X8 ?_ ?_|refine X9 ?_ ?_)|refine⟨_,_,_,rfl,?_⟩|refine⟨_,rfl,?_⟩|((with_reducible refine And.intro ?_ ?_);·first|omega|trivial|(show _=_;rfl)|((with_reducible refine And.intro ?_ ?_)<;>first|omega|trivial|(show _=_;rfl)))|fail
  refine Qb (hQ' _ (by omega)) ?_
  rw [zFD,Bool.true_and,Bool.eq_iff_iff,decide_eq_true_iff,decide_eq_true_iff]
  omega
 ·intro i x xs hat _ ih2 seen q N' hN' hs hQ'
  have hb:=hat.b
  have hm:=hat.m
  obtain ⟨t0,t1,hd,hnm,hty⟩:=hat.r
  simp only [zFD] at hQ'
  refine tP _ _ _ _ _ _ _ _ _ _ _ ?_
  repeat' first|with_reducible intro _|simp only[hat.lt,hat.w,Int.toNat_natCast,hd,Y1,Y2,Y3,Y4]|(with_reducible first|refine X1 ?_ ?_|refine X2 ?_ ?_|refine X3 ?_ ?_|refine X4 ?_ ?_|refine X5 ?_ ?_|refine X6 ?_ ?_|refine X7 ?_ ?_|refine X8 ?_ ?_|refine X9 ?_ ?_)|refine⟨_,_,_,rfl,?_⟩|refine⟨_,rfl,?_⟩|((with_reducible refine And.intro ?_ ?_);·first|omega|trivial|(show _=_;rfl)|((with_reducible refine And.intro ?_ ?_)<;>first|omega|trivial|(show _=_;rfl)))|refine (s7 x.nm hnm) _ _ ?_|refine (sZ x.ty _ hty) _ _ ?_|refine (wP seen (by omega) _ _ x.nm) _ _ ?_|fail
  ·refine Qb (hQ' _ (by omega)) ?_;simp [*]
  ·refine Qb (hQ' _ (by omega)) ?_;simp [*]
  ·rename_i hx _ _
   have:=xq (fun y=>decide (y=x.nm)) seen 0 (by omega)
   rw [decide_eq_true hx] at this
   refine Qb (hQ' _ (by omega)) ?_
   rw [←this];simp
  ·rename_i hx
   have:=xq (fun y=>decide (y=x.nm)) seen 0 (by omega)
   rw [decide_eq_false hx] at this
   refine ⟨by unfold zC;rw [List.length_append,zP];simp only [List.length_cons,List.length_nil];omega,fun c1=>?_⟩
   rw [xN]
   refine ih2 (seen++[x.nm]) _ _ (by omega) (by simp [hs]) fun N'' h=>Qb (hQ' N'' (by omega)) ?_
   rw [←this];clear this;simp [*]
def si (g:List Pm):List Tg:=g.map fun p=>⟨p.nm,p.ty,0⟩
theorem zBH (g:List Pm):(si g).length=g.length:=by simp [si]
theorem zGt {g:List Pm} {es:List D} (h:Pms g es) (hg:g.length≤1073741824) (a:Option Addr) (c:Nat) (N:Nat) (Q:QT [.sl 4])
  (hQ:∀ a' es' c' N',N≤N'→Ctx (si g) es'→Q a' es' c' N'):ACalls prog 50 [.sl 4] [.sv a 4 es c] N Q:=by
 have hl:=h.all.len
 refine zHr N a es c Q fun _=>?_
 have key:=up h.all h.len (fun i xs=>∀ (done:List D) (q:Nat) (N':Nat),N≤N'→All2 Tg.Is ((si g).take i) done→done.length=i→wv Q N a es c done.length q i done q N') ?_ ?_
 ·exact key [] 0 N (Nat.le_refl _) rfl rfl
 ·intro i hlt hi done q N' hN' hd hs
  refine rc _ _ _ _ _ _ _ _ _ _ _ ?_
  rw [List.take_of_length_le (by rw [zBH];omega)] at hd
  repeat' first|with_reducible intro _|simp only[hlt,Y1,Y2,Y3,Y4]|(with_reducible first|refine X1 ?_ ?_|refine X2 ?_ ?_|refine X3 ?_ ?_|refine X4 ?_ ?_|refine X5 ?_ ?_|refine X6 ?_ ?_|refine X7 ?_ ?_|refine X8 ?_ ?_|refine X9 ?_ ?_)|refine⟨_,_,_,rfl,?_⟩|refine⟨_,rfl,?_⟩|((with_reducible refine And.intro ?_ ?_);·first|omega|trivial|(show _=_;rfl)|((with_reducible refine And.intro ?_ ?_)<;>first|omega|trivial|(show _=_;rfl)))|fail
  exact hQ _ _ _ _ (by omega) ⟨by omega,hd⟩
 ·intro i x xs hat _ ih2 done q N' hN' hd hs
  have hb:=hat.b
  have hm:=hat.m
  obtain ⟨t0,t1,hd',hnm,hty⟩:=hat.r
  refine rc _ _ _ _ _ _ _ _ _ _ _ ?_
  have hat2:(si g)[i]?=some ⟨x.nm,x.ty,0⟩:=by rw [si,List.getElem?_map,hat.g];rfl
  repeat' first|with_reducible intro _|simp only[hat.lt,hat.w,Int.toNat_natCast,hd',Y1,Y2,Y3,Y4]|(with_reducible first|refine X1 ?_ ?_|refine X2 ?_ ?_|refine X3 ?_ ?_|refine X4 ?_ ?_|refine X5 ?_ ?_|refine X6 ?_ ?_|refine X7 ?_ ?_|refine X8 ?_ ?_|refine X9 ?_ ?_)|refine⟨_,_,_,rfl,?_⟩|refine⟨_,rfl,?_⟩|((with_reducible refine And.intro ?_ ?_);·first|omega|trivial|(show _=_;rfl)|((with_reducible refine And.intro ?_ ?_)<;>first|omega|trivial|(show _=_;rfl)))|fail
  refine ⟨by unfold zC;rw [List.length_append];simp only [List.length_cons,List.length_nil];omega,fun c1=>?_⟩
  exact ih2 _ _ _ hN' (by rw [wi hat2];exact hd.snoc ⟨_,_,rfl,hnm,hty⟩) (by simp [hs])
/-- a body's type, or none -/
def xU (g:List Pm) (e:Tm):Option Ty:=if zC3 g=true∧e.vd=true∧e.isB=true then e.type (si g) 0 else none
theorem zEK:∀ {g:List Pm} {seen:List ByteArray} {x:Pm},zFD seen g=true→x∈g→tx x.nm=true∧x.ty.base=true
 | p::ps,seen,x,h,hx=>by
   simp only [zFD,Bool.and_eq_true] at h
   rcases List.mem_cons.1 hx with rfl | hx
   ·exact ⟨h.1,h.2.1⟩
   ·exact zEK h.2.2.2 hx
theorem zGH {t:Ty} (h:t.base=true):t.valid=true∧t.cnt=1:=by
 cases t with
 | mk k l=>
   simp only [Ty.base,Ty.k,Ty.as,Bool.and_eq_true,Bool.or_eq_true,beq_iff_eq] at h
   have hl:l=[]:=List.eq_nil_of_length_eq_zero (by omega)
   subst hl
   refine ⟨?_,rfl⟩
   simp only [Ty.valid,Ty.cnt,zO,Ty.dep,t3,Ty.form,tU,pA]
   rcases h.1 with rfl | rfl<;>decide
mutual
theorem zKV:∀ t:Tm,t.isB=true→t.lev 0=true
 | .mk k _ _ _ _ _ l,h=>by
   simp only [Tm.isB,Bool.and_eq_true,zLo,Bool.or_eq_true,rv,beq_iff_eq] at h
   have e:yR k 0=0:=by unfold yR;rw [if_neg (by omega),if_neg (by omega)]
   simp only [Tm.lev,e,zLE l h.1,Bool.and_true];decide
theorem zLE:∀ l:List Tm,zN8 l=true→pO l 0=true
 | [],_=>rfl
 | t::ts,h=>by
   simp only [zN8,Bool.and_eq_true] at h
   simp only [pO,zKV t h.1,zLE ts h.2,Bool.and_true]
end
theorem zIq {g:List Pm} {x:Tg} (h:x∈si g):∃ p∈g,x=⟨p.nm,p.ty,0⟩:=by
 obtain ⟨p,hp,rfl⟩:=List.mem_map.1 h
 exact ⟨p,hp,rfl⟩
theorem zOf {g:List Pm} {e:Tm} (hp:zC3 g=true) (hv:e.vd=true) (hb:e.isB=true) (hc:e.cnt≤536870000):Pre (si g) e 0:=by
 simp only [zC3,Bool.and_eq_true,decide_eq_true_eq] at hp
 simp only [Tm.vd,Bool.and_eq_true] at hv
 refine ⟨hv.2,zKV e hb,by rw [zBH];omega,fun x hx=>?_⟩
 obtain ⟨p,hpg,rfl⟩:=zIq hx
 have:=(zGH (zEK hp.1 hpg).2).2
 show p.ty.cnt≤64
 omega
theorem zEL {g:List Pm} {es:List D} (h:Pms g es) (hg:g.length≤1073741824) {e:Tm} {d:D} (he:e.Is d) (hc:e.cnt≤536870000) (a:Option Addr) (c:Nat):zRA 20 [.sv a 4 es c,.dg 9 d] (xU g e):=fun N Q hQ=>by
 refine zDj N a es c d Q fun _ _=>?_
 repeat' first|with_reducible intro _|simp only[Y1,Y2,Y3,Y4]|(with_reducible first|refine X1 ?_ ?_|refine X2 ?_ ?_|refine X3 ?_ ?_|refine X4 ?_ ?_|refine X5 ?_ ?_|refine X6 ?_ ?_|refine X7 ?_ ?_|refine X8 ?_ ?_|refine X9 ?_ ?_)|refine⟨_,_,_,rfl,?_⟩|refine⟨_,rfl,?_⟩|((with_reducible refine And.intro ?_ ?_);·first|omega|trivial|(show _=_;rfl)|((with_reducible refine And.intro ?_ ?_)<;>first|omega|trivial|(show _=_;rfl)))|refine (zCe h hg a c) _ _ ?_|refine (zAl e d he (by omega)) _ _ ?_|refine (zI2 e d he) _ _ ?_|refine (zGt h hg a c) _ _ ?_|fail
 ·rw [show xU g e=none by unfold xU;rw [if_neg (by simp [*])]] at hQ
  exact hQ _ _ (by omega) (sJ 0)
 ·rw [show xU g e=none by unfold xU;rw [if_neg (by simp [*])]] at hQ
  exact hQ _ _ (by omega) (sJ 0)
 ·rw [show xU g e=none by unfold xU;rw [if_neg (by simp [*])]] at hQ
  exact hQ _ _ (by omega) (sJ 0)
 ·have hp:zC3 g=true:=by assumption
  have hv:e.vd=true:=by assumption
  have hb:e.isB=true:=by assumption
  rw [show xU g e=e.type (si g) 0 by unfold xU;rw [if_pos ⟨hp,hv,hb⟩]] at hQ
  exact zHw e d he _ _ _ _ _ (zOf hp hv hb hc) (by assumption) _ _ fun x N4 hN4 hx _ _ N5 hN5=>hQ _ _ (by omega) hx
theorem uB:∀ (t:Tm) (d:D),t.Is d→t.cnt≤1073741824→pe 38 [.dg 9 d] t.sz:=by
 refine Tm.ind fun k nm ot n0 ty re l ih d hd hc N Q hQ=>?_
 obtain ⟨t0,t1,r0,r1,a,es,c,rfl,hh,hlen,hes⟩:=Tm.is_mk.1 hd
 simp only [Tm.cnt] at hc
 have hsl:=rg l
 refine zH1 N _ Q fun _=>⟨_,_,_,rfl,?_⟩
 refine up hes hlen (fun i xs=>∀ (m:Nat) (N':Nat),N≤N'→m+rU xs=1+rU l→w7 Q N m a es c es.length i N') ?_ ?_ 1 N (Nat.le_refl _) rfl
 ·intro i hlt _ m N' hN' hm
  refine qa _ _ _ _ _ _ _ _ _ ?_
  simp only [rU] at hm
  repeat' first|with_reducible intro _|simp only[hlt,Y1,Y2,Y3,Y4]|(with_reducible first|refine X1 ?_ ?_|refine X2 ?_ ?_|refine X3 ?_ ?_|refine X4 ?_ ?_|refine X5 ?_ ?_|refine X6 ?_ ?_|refine X7 ?_ ?_|refine X8 ?_ ?_|refine X9 ?_ ?_)|refine⟨_,_,_,rfl,?_⟩|refine⟨_,rfl,?_⟩|((with_reducible refine And.intro ?_ ?_);·first|omega|trivial|(show _=_;rfl)|((with_reducible refine And.intro ?_ ?_)<;>first|omega|trivial|(show _=_;rfl)))|fail
  exact Qi (hQ _ (by omega)) (by simp only [Tm.sz];omega)
 ·intro i x xs hat _ ih2 m N' hN' hm
  have hb:=hat.b
  have hxc:=yY hat.m
  simp only [rU] at hm
  refine qa _ _ _ _ _ _ _ _ _ ?_
  repeat' first|with_reducible intro _|simp only[hat.lt,hat.w,Int.toNat_natCast,Y1,Y2,Y3,Y4]|(with_reducible first|refine X1 ?_ ?_|refine X2 ?_ ?_|refine X3 ?_ ?_|refine X4 ?_ ?_|refine X5 ?_ ?_|refine X6 ?_ ?_|refine X7 ?_ ?_|refine X8 ?_ ?_|refine X9 ?_ ?_)|refine⟨_,_,_,rfl,?_⟩|refine⟨_,rfl,?_⟩|((with_reducible refine And.intro ?_ ?_);·first|omega|trivial|(show _=_;rfl)|((with_reducible refine And.intro ?_ ?_)<;>first|omega|trivial|(show _=_;rfl)))|refine (ih x hat.m _ hat.r (by omega)) _ _ ?_|fail
  rw [i64_in _ (by omega)]
  exact ih2 (m+x.sz) _ (by omega) (by omega)
theorem zFT:∀ (t:Tm) (d:D),t.Is d→t.cnt≤1073741824→pe 86 [.dg 9 d] t.dp:=by
 refine Tm.ind fun k nm ot n0 ty re l ih d hd hc N Q hQ=>?_
 obtain ⟨t0,t1,r0,r1,a,es,c,rfl,hh,hlen,hes⟩:=Tm.is_mk.1 hd
 simp only [Tm.cnt] at hc
 have hdl:=zAf l
 refine zE0 N _ Q fun _=>⟨_,_,_,rfl,?_⟩
 refine up hes hlen (fun i xs=>∀ (m:Nat) (N':Nat),N≤N'→max m (zCv xs)=zCv l→wb Q N m a es c es.length i N') ?_ ?_ 0 N (Nat.le_refl _) (by omega)
 ·intro i hlt _ m N' hN' hm
  refine rQ _ _ _ _ _ _ _ _ _ ?_
  simp only [zCv] at hm
  repeat' first|with_reducible intro _|simp only[hlt,Y1,Y2,Y3,Y4]|(with_reducible first|refine X1 ?_ ?_|refine X2 ?_ ?_|refine X3 ?_ ?_|refine X4 ?_ ?_|refine X5 ?_ ?_|refine X6 ?_ ?_|refine X7 ?_ ?_|refine X8 ?_ ?_|refine X9 ?_ ?_)|refine⟨_,_,_,rfl,?_⟩|refine⟨_,rfl,?_⟩|((with_reducible refine And.intro ?_ ?_);·first|omega|trivial|(show _=_;rfl)|((with_reducible refine And.intro ?_ ?_)<;>first|omega|trivial|(show _=_;rfl)))|fail
  rw [i64_in _ (by omega)]
  exact Qi (hQ _ (by omega)) (by simp only [Tm.dp];omega)
 ·intro i x xs hat _ ih2 m N' hN' hm
  have hb:=hat.b
  have hxc:=yY hat.m
  simp only [zCv] at hm
  refine rQ _ _ _ _ _ _ _ _ _ ?_
  repeat' first|with_reducible intro _|simp only[hat.lt,hat.w,Int.toNat_natCast,Y1,Y2,Y3,Y4]|(with_reducible first|refine X1 ?_ ?_|refine X2 ?_ ?_|refine X3 ?_ ?_|refine X4 ?_ ?_|refine X5 ?_ ?_|refine X6 ?_ ?_|refine X7 ?_ ?_|refine X8 ?_ ?_|refine X9 ?_ ?_)|refine⟨_,_,_,rfl,?_⟩|refine⟨_,rfl,?_⟩|((with_reducible refine And.intro ?_ ?_);·first|omega|trivial|(show _=_;rfl)|((with_reducible refine And.intro ?_ ?_)<;>first|omega|trivial|(show _=_;rfl)))|refine (ih x hat.m _ hat.r (by omega)) _ _ ?_|fail
  have e:(if (x.dp:Int)>(m:Int) then (x.dp:Int) else (m:Int))=((max m x.dp:Nat):Int):=by split<;>omega
  rw [e]
  exact ih2 (max m x.dp) _ (by omega) (by omega)
theorem zAm (t:Tm) (d:D) (hd:t.Is d) (hc:t.cnt≤1073741824):vE 60 [.dg 9 d] t.vd:=fun N Q hQ=>by
 refine zAI N _ Q fun _=>?_
 repeat' first|with_reducible intro _|simp only[Y1,Y2,Y3,Y4]|(with_reducible first|refine X1 ?_ ?_|refine X2 ?_ ?_|refine X3 ?_ ?_|refine X4 ?_ ?_|refine X5 ?_ ?_|refine X6 ?_ ?_|refine X7 ?_ ?_|refine X8 ?_ ?_|refine X9 ?_ ?_)|refine⟨_,_,_,rfl,?_⟩|refine⟨_,rfl,?_⟩|((with_reducible refine And.intro ?_ ?_);·first|omega|trivial|(show _=_;rfl)|((with_reducible refine And.intro ?_ ?_)<;>first|omega|trivial|(show _=_;rfl)))|refine (zBC t d hd hc) _ _ ?_|refine (uB t d hd hc) _ _ ?_|refine (zFT t d hd hc) _ _ ?_|fail
 ·have h8:t.sz≤80:=by omega
  refine Qb (hQ _ (by omega)) ?_
  have:decide ((t.dp:Int)≤20)=decide (t.dp≤20):=by rw [Bool.eq_iff_iff,decide_eq_true_iff,decide_eq_true_iff];omega
  simp [Tm.vd, *]
 ·have h8:¬t.sz≤80:=by omega
  refine Qb (hQ _ (by omega)) ?_;simp [Tm.vd, *]
 ·refine Qb (hQ _ (by omega)) ?_;simp [Tm.vd, *]
theorem zJe (t:Tm) (d:D) (hd:t.Is d):vE 57 [.dg 9 d] (match t with | .mk k _ _ _ _ _ _=>zLo k):=fun N Q hQ=>by
 cases t with
 | mk k nm ot n0 ty re l=>
 obtain ⟨t0,t1,r0,r1,a,es,c,rfl,hh,hlen,hes⟩:=Tm.is_mk.1 hd
 refine zB3 N _ Q fun _=>?_
 repeat' first|with_reducible intro _|simp only[Y1,Y2,Y3,Y4]|(with_reducible first|refine X1 ?_ ?_|refine X2 ?_ ?_|refine X3 ?_ ?_|refine X4 ?_ ?_|refine X5 ?_ ?_|refine X6 ?_ ?_|refine X7 ?_ ?_|refine X8 ?_ ?_|refine X9 ?_ ?_)|refine⟨_,_,_,rfl,?_⟩|refine⟨_,rfl,?_⟩|((with_reducible refine And.intro ?_ ?_);·first|omega|trivial|(show _=_;rfl)|((with_reducible refine And.intro ?_ ?_)<;>first|omega|trivial|(show _=_;rfl)))|refine (yU _ _ _) _ _ ?_|fail
 all_goals (refine Qb (hQ _ (by omega)) ?_;simp [zLo, *])
theorem zCk {p:Tm→Bool} {l:List Tm} {es:List D} (h:All2 Tm.Is l es) (hlen:es.length≤4611686018427387904) (ad:Addr) (hp:∀ x∈l,∀ d,x.Is d→vE 81 [.dg 9 d,.pd ad 0 (.fn 57 [])] (p x)) (a:Option Addr) (c:Nat) :
  vE 35 [.sv a 9 es c,.fn 81 [.pd ad 0 (.fn 57 [])]] (l.any p):=fun N Q hQ=>by
 have hi:pe 67 [.sv a 9 es c,.fn 81 [.pd ad 0 (.fn 57 [])]] (t8 p l 0):=fun N Q hQ=>by
  refine uP N a es c ad Q fun _=>?_
  refine up h hlen (fun i xs=>∀ (N':Nat),N≤N'→(∀ N'',N'≤N''→Q (t8 p xs i) N'')→z8 Q N a es c ad es.length i N') ?_ ?_ N (Nat.le_refl _) hQ
  ·intro i hlt _ N' hN' hQ'
   refine wE _ _ _ _ _ _ _ _ _ ?_
   repeat' first|with_reducible intro _|simp only[hlt,Y1,Y2,Y3,Y4]|(with_reducible first|refine X1 ?_ ?_|refine X2 ?_ ?_|refine X3 ?_ ?_|refine X4 ?_ ?_|refine X5 ?_ ?_|refine X6 ?_ ?_|refine X7 ?_ ?_|refine X8 ?_ ?_|refine X9 ?_ ?_)|refine⟨_,_,_,rfl,?_⟩|refine⟨_,rfl,?_⟩|((with_reducible refine And.intro ?_ ?_);·first|omega|trivial|(show _=_;rfl)|((with_reducible refine And.intro ?_ ?_)<;>first|omega|trivial|(show _=_;rfl)))|fail
   exact hQ' _ (by omega)
  ·intro i x xs hat _ ih2 N' hN' hQ'
   have hb:=hat.b
   simp only [t8] at hQ'
   refine wE _ _ _ _ _ _ _ _ _ ?_
   repeat' first|with_reducible intro _|simp only[hat.lt,hat.w,Int.toNat_natCast,Y1,Y2,Y3,Y4]|(with_reducible first|refine X1 ?_ ?_|refine X2 ?_ ?_|refine X3 ?_ ?_|refine X4 ?_ ?_|refine X5 ?_ ?_|refine X6 ?_ ?_|refine X7 ?_ ?_|refine X8 ?_ ?_|refine X9 ?_ ?_)|refine⟨_,_,_,rfl,?_⟩|refine⟨_,rfl,?_⟩|((with_reducible refine And.intro ?_ ?_);·first|omega|trivial|(show _=_;rfl)|((with_reducible refine And.intro ?_ ?_)<;>first|omega|trivial|(show _=_;rfl)))|refine (hp x hat.m _ hat.r) _ _ ?_|fail
   ·exact Qi (hQ' _ (by omega)) (by rw [if_pos (by assumption)])
   ·rename_i h;exact ih2 _ (by omega) fun N'' h2=>Qi (hQ' _ (by omega)) (by rw [h];simp)
 refine vh N a es c ad Q fun _=>?_
 repeat' first|with_reducible intro _|simp only[Y1,Y2,Y3,Y4]|(with_reducible first|refine X1 ?_ ?_|refine X2 ?_ ?_|refine X3 ?_ ?_|refine X4 ?_ ?_|refine X5 ?_ ?_|refine X6 ?_ ?_|refine X7 ?_ ?_|refine X8 ?_ ?_|refine X9 ?_ ?_)|refine⟨_,_,_,rfl,?_⟩|refine⟨_,rfl,?_⟩|((with_reducible refine And.intro ?_ ?_);·first|omega|trivial|(show _=_;rfl)|((with_reducible refine And.intro ?_ ?_)<;>first|omega|trivial|(show _=_;rfl)))|refine hi _ _ ?_|fail
 exact Qb (hQ _ (by omega)) (xq _ l 0 (by omega)).symm
theorem zLB:∀ l:List Tm,zN8 l=!(l.any fun x=>!x.isB)
 | []=>rfl
 | t::ts=>by simp only [zN8,List.any_cons,zLB ts];cases t.isB<;>simp
theorem zKF:∀ (t:Tm) (d:D),t.Is d→vE 56 [.dg 9 d,.fn 57 []] t.isB:=by
 refine Tm.ind fun k nm ot n ty re l ih d hd N Q hQ=>?_
 have hb:=zJe _ d hd
 obtain ⟨t0,t1,r0,r1,a,es,c,rfl,hh,hlen,hes⟩:=Tm.is_mk.1 hd
 simp only at hb
 refine p5 N _ Q fun _=>?_
 simp only [Tm.isB,zLB] at hQ
 repeat' first|with_reducible intro _|simp only[Y1,Y2,Y3,Y4]|(with_reducible first|refine X1 ?_ ?_|refine X2 ?_ ?_|refine X3 ?_ ?_|refine X4 ?_ ?_|refine X5 ?_ ?_|refine X6 ?_ ?_|refine X7 ?_ ?_|refine X8 ?_ ?_|refine X9 ?_ ?_)|refine⟨_,_,_,rfl,?_⟩|refine⟨_,rfl,?_⟩|((with_reducible refine And.intro ?_ ?_);·first|omega|trivial|(show _=_;rfl)|((with_reducible refine And.intro ?_ ?_)<;>first|omega|trivial|(show _=_;rfl)))|refine hb _ _ ?_|refine (zCk hes hlen _ (fun x hx d hd=>fun N Q hQ=>r9 N d _ Q fun _ N1 hN1=>ih x hx d hd N1 _ fun N2 hN2 hle N3 hN3=>hQ N3 (by omega)) _ _) _ _ ?_|fail
 all_goals (refine Qb (hQ _ (by omega)) ?_;simp [*])
theorem zFP (l:List ByteArray) (hl:l.length≤4611686018427387904) (a:Option Addr) (c:Nat) (s:ByteArray):pe 84 [.sv a 0 (zA l) c,.str s] (t8 (fun x=>decide (s=x)) l 0):=fun N Q hQ=>by
 refine zFa N a _ c s Q fun _=>?_
 repeat' first|with_reducible intro _|simp only[Y1,Y2,Y3,Y4]|(with_reducible first|refine X1 ?_ ?_|refine X2 ?_ ?_|refine X3 ?_ ?_|refine X4 ?_ ?_|refine X5 ?_ ?_|refine X6 ?_ ?_|refine X7 ?_ ?_|refine X8 ?_ ?_|refine X9 ?_ ?_)|refine⟨_,_,_,rfl,?_⟩|refine⟨_,rfl,?_⟩|((with_reducible refine And.intro ?_ ?_);·first|omega|trivial|(show _=_;rfl)|((with_reducible refine And.intro ?_ ?_)<;>first|omega|trivial|(show _=_;rfl)))|refine (zEI l hl a c s) _ _ ?_|fail
 exact hQ _ (by omega)
def yp (g:List Pm):List ByteArray:=g.map (·.nm)
theorem qI (g:List Pm):(yp g).length=g.length:=by simp [yp]
theorem zCJ {g:List Pm} {es:List D} (h:Pms g es) (hg:g.length≤1073741824) (a:Option Addr) (c:Nat) (N:Nat) (Q:QT [.sl 0])
  (hQ:∀ a' c' N',N≤N'→Q a' (zA (yp g)) c' N'):ACalls prog 32 [.sl 0] [.sv a 4 es c] N Q:=by
 have hl:=h.all.len
 refine zBx N a es c Q fun _=>?_
 have key:=up h.all h.len (fun i xs=>∀ (q:Nat) (N':Nat),N≤N'→xM Q N (zA ((yp g).take i)).length q a es c es.length i (zA ((yp g).take i)) q N') ?_ ?_
 ·exact key 0 N (Nat.le_refl _)
 ·intro i hlt hi q N' hN'
  refine uo _ _ _ _ _ _ _ _ _ _ _ _ ?_
  rw [List.take_of_length_le (by rw [qI];omega)]
  repeat' first|with_reducible intro _|simp only[hlt,Y1,Y2,Y3,Y4]|(with_reducible first|refine X1 ?_ ?_|refine X2 ?_ ?_|refine X3 ?_ ?_|refine X4 ?_ ?_|refine X5 ?_ ?_|refine X6 ?_ ?_|refine X7 ?_ ?_|refine X8 ?_ ?_|refine X9 ?_ ?_)|refine⟨_,_,_,rfl,?_⟩|refine⟨_,rfl,?_⟩|((with_reducible refine And.intro ?_ ?_);·first|omega|trivial|(show _=_;rfl)|((with_reducible refine And.intro ?_ ?_)<;>first|omega|trivial|(show _=_;rfl)))|fail
  exact hQ _ _ _ (by omega)
 ·intro i x xs hat _ ih2 q N' hN'
  have hb:=hat.b
  have hm:=hat.m
  obtain ⟨t0,t1,hd',hnm,hty⟩:=hat.r
  refine uo _ _ _ _ _ _ _ _ _ _ _ _ ?_
  have hat2:(yp g)[i]?=some x.nm:=by rw [yp,List.getElem?_map,hat.g];rfl
  repeat' first|with_reducible intro _|simp only[hat.lt,hat.w,Int.toNat_natCast,hd',Y1,Y2,Y3,Y4]|(with_reducible first|refine X1 ?_ ?_|refine X2 ?_ ?_|refine X3 ?_ ?_|refine X4 ?_ ?_|refine X5 ?_ ?_|refine X6 ?_ ?_|refine X7 ?_ ?_|refine X8 ?_ ?_|refine X9 ?_ ?_)|refine⟨_,_,_,rfl,?_⟩|refine⟨_,rfl,?_⟩|((with_reducible refine And.intro ?_ ?_);·first|omega|trivial|(show _=_;rfl)|((with_reducible refine And.intro ?_ ?_)<;>first|omega|trivial|(show _=_;rfl)))|fail
  refine ⟨by unfold zC;rw [List.length_append,zP,List.length_take];simp only [List.length_cons,List.length_nil];omega,fun c1=>?_⟩
  rw [xN,←wi hat2]
  exact ih2 _ _ hN'
theorem zF6 {α:Type} (p:α→Bool) (s:α) (hs:p s=true) (rest:List α):∀ (seen:List α) (k:Int),(t8 p (seen++s::rest) k=k+seen.length↔seen.any p=false)∧t8 p (seen++s::rest) k≥k
 | [],k=>by simp [t8,hs]
 | x :: seen,k=>by
   have ih:=zF6 p s hs rest seen (k+1)
   simp only [List.cons_append,t8,List.any_cons,List.length_cons]
   cases hx:p x with
   | true=>simp;omega
   | false=>
     simp only [Bool.false_eq_true,if_false,Bool.false_or]
     refine ⟨?_,by omega⟩
     rw [←ih.1];constructor<;>intro h<;>omega
theorem zOb {s:ByteArray} (l:List ByteArray):(l.any fun x=>decide (s=x))=l.any fun x=>decide (x=s):=by
 induction l with
 | nil=>rfl
 | cons x l ih=>simp only [List.any_cons,ih,eq_comm]
theorem zCc {g:List Pm} {es:List D} (h:Pms g es) (hg:g.length≤1073741824) (a:Option Addr) (c:Nat):vE 59 [.sv a 4 es c] (zC3 g):=fun N Q hQ=>by
 have hl:=h.all.len
 refine zCn N a es c Q fun _=>?_
 have hnl:=qI g
 have key:=fun (h5:g.length≤5) a3 c3 (N2:Nat) (hN2:N≤N2)=>up h.all h.len (fun i xs=>∀ (N':Nat),N2≤N'→(∀ N'',N'≤N''→Q (zFD ((yp g).take i) xs) N'')→xe Q N a3 (zA (yp g)) c3 a es c es.length i N') ?_ ?_
 ·repeat' first|with_reducible intro _|simp only[Y1,Y2,Y3,Y4]|(with_reducible first|refine X1 ?_ ?_|refine X2 ?_ ?_|refine X3 ?_ ?_|refine X4 ?_ ?_|refine X5 ?_ ?_|refine X6 ?_ ?_|refine X7 ?_ ?_|refine X8 ?_ ?_|refine X9 ?_ ?_)|refine⟨_,_,_,rfl,?_⟩|refine⟨_,rfl,?_⟩|((with_reducible refine And.intro ?_ ?_);·first|omega|trivial|(show _=_;rfl)|((with_reducible refine And.intro ?_ ?_)<;>first|omega|trivial|(show _=_;rfl)))|refine (zCJ h hg a c) _ _ ?_|fail
  ·refine Qb (hQ _ (by omega)) ?_
   have:¬g.length≤5:=by omega
   simp [zC3,this]
  ·have h5:g.length≤5:=by omega
   refine key h5 _ _ _ ?_ _ (Nat.le_refl _) fun N'' hN''=>Qb (hQ N'' ?_) ?_
   all_goals first | omega | skip
   simp [zC3,h5]
 ·intro i hlt hi N' hN' hQ'
  refine tQ _ _ _ _ _ _ _ _ _ _ _ ?_
  repeat' first|with_reducible intro _|simp only[hlt,Y1,Y2,Y3,Y4]|(with_reducible first|refine X1 ?_ ?_|refine X2 ?_ ?_|refine X3 ?_ ?_|refine X4 ?_ ?_|refine X5 ?_ ?_|refine X6 ?_ ?_|refine X7 ?_ ?_|refine X8 ?_ ?_|refine X9 ?_ ?_)|refine⟨_,_,_,rfl,?_⟩|refine⟨_,rfl,?_⟩|((with_reducible refine And.intro ?_ ?_);·first|omega|trivial|(show _=_;rfl)|((with_reducible refine And.intro ?_ ?_)<;>first|omega|trivial|(show _=_;rfl)))|fail
  refine Qb (hQ' _ (by omega)) ?_
  simp [zFD]
 ·intro i x xs hat _ ih2 N' hN' hQ'
  have hb:=hat.b
  have hm:=hat.m
  obtain ⟨t0,t1,hd',hnm,hty⟩:=hat.r
  simp only [zFD] at hQ'
  have hat2:(yp g)[i]?=some x.nm:=by rw [yp,List.getElem?_map,hat.g];rfl
  have hsp:=(zF6 (fun y=>decide (x.nm=y)) x.nm (by simp) ((yp g).drop (i+1)) ((yp g).take i) 0).1
  have hcut:(yp g).take i++x.nm::(yp g).drop (i+1)=yp g:=by
   have hlt:i<(yp g).length:=(List.getElem?_eq_some_iff.1 hat2).1
   have:=(List.getElem?_eq_some_iff.1 hat2).2
   rw [←this,List.getElem_cons_drop,List.take_append_drop]
  rw [hcut,List.length_take,zOb] at hsp
  have hmin:min i (yp g).length=i:=by omega
  rw [hmin] at hsp
  refine tQ _ _ _ _ _ _ _ _ _ _ _ ?_
  repeat' first|with_reducible intro _|simp only[hat.lt,hat.w,Int.toNat_natCast,hd',Y1,Y2,Y3,Y4]|(with_reducible first|refine X1 ?_ ?_|refine X2 ?_ ?_|refine X3 ?_ ?_|refine X4 ?_ ?_|refine X5 ?_ ?_|refine X6 ?_ ?_|refine X7 ?_ ?_|refine X8 ?_ ?_|refine X9 ?_ ?_)|refine⟨_,_,_,rfl,?_⟩|refine⟨_,rfl,?_⟩|((with_reducible refine And.intro ?_ ?_);·first|omega|trivial|(show _=_;rfl)|((with_reducible refine And.intro ?_ ?_)<;>first|omega|trivial|(show _=_;rfl)))|refine (uG x.nm hnm) _ _ ?_|refine (sU x.ty _ hty) _ _ ?_|refine (zFP (yp g) (by omega) _ _ x.nm) _ _ ?_|fail
  ·refine Qb (hQ' _ (by omega)) ?_;simp [*]
  ·refine Qb (hQ' _ (by omega)) ?_;simp [*]
  ·rename_i hx _ _
   have hx2:¬((yp g).take i).any (fun y=>decide (y=x.nm))=false:=fun hc=>by have:=hsp.2 hc;omega
   have hx3:((yp g).take i).any (fun y=>decide (y=x.nm))=true:=by simpa using hx2
   refine Qb (hQ' _ (by omega)) ?_
   rw [hx3];simp
  ·rename_i hx
   have hx2:((yp g).take i).any (fun y=>decide (y=x.nm))=false:=hsp.1 (by omega)
   refine ih2 _ (by omega) fun N'' h2=>Qb (hQ' N'' (by omega)) ?_
   rw [hx2,wi hat2];simp [*]
theorem zPS {N N' M:Nat} {a:Option Addr} {d:D} (hb:tW M [a]) (h:Own N N' d) (hM:M≤N):Off [a] d:=fun b hbm ad had hc=>by
 have:=h.lo _ hc
 have:=hb b hbm ad had
 omega
theorem zOH {g:List Pm} (hp:zC3 g=true):zGb (si g)=true:=by
 simp only [zC3,Bool.and_eq_true,decide_eq_true_eq] at hp
 simp only [zGb,Bool.and_eq_true,decide_eq_true_eq,zBH]
 refine ⟨?_,by omega⟩
 have:∀ l:List Pm,(∀ x∈l,tx x.nm=true∧x.ty.base=true)→zIY (si l)=true:=by
  intro l
  induction l with
  | nil=>intro _;rfl
  | cons p l ih=>
    intro h
    have h1:=h p (by simp)
    have h2:=ih fun x hx=>h x (by simp [hx])
    simp only [si] at h2
    simp only [si,List.map_cons,zIY,Tg.ok,Bool.and_eq_true,h2,and_true]
    exact ⟨h1.1,(zGH h1.2).1,by decide⟩
 exact this g fun x hx=>zEK hp.1 hx
theorem zNV {g:List Pm} {e:Tm} (hp:zC3 g=true) (hv:e.vd=true) (hb:e.isB=true):xU g e=zFt (si g) e 0:=by
 have hv2:=hv
 simp only [Tm.vd,Bool.and_eq_true] at hv2
 rw [xU,if_pos ⟨hp,hv,hb⟩,zFt,if_pos ⟨zOH hp,by simp [zJ7,hv2.2,zKV e hb]⟩]
theorem zET {g:List Pm} {es:List D} (h:Pms g es) (hg:g.length≤1073741824) (hc2:∀ x∈g,x.ty.cnt≤1073741824) {e:Tm} {d:D} (he:e.Is d) (hc:e.cnt≤1048576000 / 2) (a:Option Addr) (c:Nat):zSA 30 [.sv a 4 es c,.dg 9 d] (xU g e):=fun N Q hQ=>by
 have hl:=h.all.len
 refine zES N a es c d Q fun _ _=>?_
 have key:=fun (hp:zC3 g=true) (hv:e.vd=true) (hb:e.isB=true)=>up h.all h.len (fun i xs=>∀ (done:List D) (q:Nat) (N':Nat),N≤N'→All2 Tg.Is ((si g).take i) done→done.length=i→xy Q N done.length q a es c es.length i d 0 none [] 0 done q N') ?_ ?_
 ·repeat' first|with_reducible intro _|simp only[Y1,Y2,Y3,Y4]|(with_reducible first|refine X1 ?_ ?_|refine X2 ?_ ?_|refine X3 ?_ ?_|refine X4 ?_ ?_|refine X5 ?_ ?_|refine X6 ?_ ?_|refine X7 ?_ ?_|refine X8 ?_ ?_|refine X9 ?_ ?_)|refine⟨_,_,_,rfl,?_⟩|refine⟨_,rfl,?_⟩|((with_reducible refine And.intro ?_ ?_);·first|omega|trivial|(show _=_;rfl)|((with_reducible refine And.intro ?_ ?_)<;>first|omega|trivial|(show _=_;rfl)))|refine (zKF e d he) _ _ ?_|refine (zCc h hg a c) _ _ ?_|refine (zAm e d he (by omega)) _ _ ?_|fail
  ·rw [show xU g e=none by unfold xU;rw [if_neg (by simp [*])]] at hQ
   exact hQ _ _ (by omega) (sJ 0) yV
  ·rw [show xU g e=none by unfold xU;rw [if_neg (by simp [*])]] at hQ
   exact hQ _ _ (by omega) (sJ 0) yV
  ·rw [show xU g e=none by unfold xU;rw [if_neg (by simp [*])]] at hQ
   exact hQ _ _ (by omega) (sJ 0) yV
  ·exact key (by assumption) (by assumption) (by assumption) [] 0 _ (by omega) rfl rfl
 ·intro i hlt hi done q N' hN' hd hs
  refine sE _ _ _ _ _ _ _ _ _ _ _ _ _ _ _ _ _ ?_
  rw [List.take_of_length_le (by rw [zBH];omega)] at hd
  rw [zNV hp hv hb] at hQ
  have hcg:∀ x∈si g,x.ty.cnt≤1073741824:=fun x hx=>by obtain ⟨p,hpg,rfl⟩:=zIq hx;exact hc2 p hpg
  repeat' first|with_reducible intro _|simp only[hlt,Y1,Y2,Y3,Y4]|(with_reducible first|refine X1 ?_ ?_|refine X2 ?_ ?_|refine X3 ?_ ?_|refine X4 ?_ ?_|refine X5 ?_ ?_|refine X6 ?_ ?_|refine X7 ?_ ?_|refine X8 ?_ ?_|refine X9 ?_ ?_)|refine⟨_,_,_,rfl,?_⟩|refine⟨_,rfl,?_⟩|((with_reducible refine And.intro ?_ ?_);·first|omega|trivial|(show _=_;rfl)|((with_reducible refine And.intro ?_ ?_)<;>first|omega|trivial|(show _=_;rfl)))|fail
  rename_i ad hapa hoff N1 hN1 hbel
  refine zHC ⟨by omega,hd⟩ hcg he hc ad q 0 N1 _ fun x N2 hN2 hx hox _=>?_
  exact ⟨zPS hbel hox (Nat.le_refl _),fun _ N3 hN3=>hQ _ _ (by omega) hx (hox.mono (by omega) hN3)⟩
 ·intro i x xs hat _ ih2 done q N' hN' hd hs
  have hb:=hat.b
  have hm:=hat.m
  obtain ⟨t0,t1,hd',hnm,hty⟩:=hat.r
  refine sE _ _ _ _ _ _ _ _ _ _ _ _ _ _ _ _ _ ?_
  have hat2:(si g)[i]?=some ⟨x.nm,x.ty,0⟩:=by rw [si,List.getElem?_map,hat.g];rfl
  repeat' first|with_reducible intro _|simp only[hat.lt,hat.w,Int.toNat_natCast,hd',Y1,Y2,Y3,Y4]|(with_reducible first|refine X1 ?_ ?_|refine X2 ?_ ?_|refine X3 ?_ ?_|refine X4 ?_ ?_|refine X5 ?_ ?_|refine X6 ?_ ?_|refine X7 ?_ ?_|refine X8 ?_ ?_|refine X9 ?_ ?_)|refine⟨_,_,_,rfl,?_⟩|refine⟨_,rfl,?_⟩|((with_reducible refine And.intro ?_ ?_);·first|omega|trivial|(show _=_;rfl)|((with_reducible refine And.intro ?_ ?_)<;>first|omega|trivial|(show _=_;rfl)))|fail
  refine ⟨by unfold zC;rw [List.length_append];simp only [List.length_cons,List.length_nil];omega,fun c1=>?_⟩
  exact ih2 _ _ _ hN' (by rw [wi hat2];exact hd.snoc ⟨_,_,rfl,hnm,hty⟩) (by simp [hs])
end Go.Proofs.YtnpjpplbkoammaaGreat
