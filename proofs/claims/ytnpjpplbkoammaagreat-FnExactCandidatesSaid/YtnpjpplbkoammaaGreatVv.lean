/- The laws' look at sizes, and copies, of terms and contexts. -/
import Derived.Test.YtnpjpplbkoammaaGreatVi
set_option linter.unusedVariables false
set_option linter.unusedSimpArgs false
namespace Go.Proofs.YtnpjpplbkoammaaGreat
open Go Go.Proofs Go.Proofs.Tryz Go.IntWalk
mutual
theorem zKi:∀ (t:Ty) (n:Int),0≤n→zGQ t n = -1∨(0≤zGQ t n∧zGQ t n+t.cnt=n+1)
 | .mk _ l,n,h=>by
   simp only [zGQ,Ty.cnt]
   split
   ·exact .inl rfl
   ·rcases zKv l (n - l.length) (by omega) with h | h
    ·exact .inl h
    ·exact .inr (by omega)
theorem zKv:∀ (l:List Ty) (n:Int),0≤n→zKP l n = -1∨(0≤zKP l n∧zKP l n+zO l=n+l.length)
 | [],n,h=>.inr (by simp [zKP,zO,h])
 | t :: ts,n,h=>by
   simp only [zKP,zO,List.length_cons]
   split
   ·exact .inl rfl
   ·rcases zKi t n h with h1 | h1
    ·omega
    ·rcases zKv ts (zGQ t n) (by omega) with h2 | h2
     ·exact .inl h2
     ·exact .inr (by omega)
end
/-- returns a number of which this holds -/
def zQ1 (f:FuncId) (args:List PV) (P:Int→Prop):Prop:=∀ (N:Nat) (Q:QT [.int .i64]),(∀ r N',N≤N'→P r→Q r N')→ACalls prog f [.int .i64] args N Q
theorem zQI (t:Ty) (d:D) (hd:t.Is d) (n:Int) (h0:0≤n) (h1:n≤1048576):zQ1 18 [.dg 2 d,.int .i64 n] fun r=>r = -1∨(0≤r∧r+t.cnt=n+1):=fun N Q hQ=>
 zK1 t d hd n h0 h1 N Q fun N' hN'=>hQ _ N' hN' (zKi t n h0)
theorem zOU:∀ (t:Tm) (d:D),t.Is d→∀ n:Int,0≤n→n≤1048576→zQ1 5 [.dg 9 d,.int .i64 n] fun r=>r = -1∨(0≤r∧r≤n∧(t.cnt:Int)≤3+3*(n - r)):=by
 refine Tm.ind fun k nm ot m ty re l ih d hd n h0 h1 N Q hQ=>?_
 obtain ⟨t0,t1,r0,r1,a,es,c,rfl,hh,hlen,hes⟩:=Tm.is_mk.1 hd
 have hl:=hes.len
 have hnm:=hh.nm
 have hot:=hh.ot
 have hS:∀ n:Int,0≤n→n≤1048576→zQ1 19 [.sv a 9 es c,.int .i64 n] fun r=>r = -1∨(0≤r∧r≤n∧(yM l:Int)≤3*(n - r)):=fun n h0 h1 N Q hQ=>by
  refine zFK N a es c n Q fun _=>?_
  rw [i64_in _ (by omega)]
  have key:0≤n - (es.length:Int)→∀ (m:Int) (N':Nat),N≤N'→0≤m→m≤1048576→(∀ r N'',N'≤N''→(r = -1∨(0≤r∧r≤m∧(yM l:Int)≤3*l.length+3*(m - r)))→Q r N'')→xP Q N a es c m (0:Nat) N':=fun _=>by
   refine up hes hlen (fun i xs=>∀ (m:Int) (N':Nat),N≤N'→0≤m→m≤1048576→(∀ r N'',N'≤N''→(r = -1∨(0≤r∧r≤m∧(yM xs:Int)≤3*xs.length+3*(m - r)))→Q r N'')→xP Q N a es c m i N') ?_ ?_
   ·intro i hlt _ m N' hN' hm0 hm1 hQ'
    refine rJ _ _ _ _ _ _ _ _ ?_
    repeat' first|with_reducible intro _|simp only[hlt,Y1,Y2,Y3,Y4]|(with_reducible first|refine X1 ?_ ?_|refine X2 ?_ ?_|refine X3 ?_ ?_|refine X4 ?_ ?_|refine X5 ?_ ?_|refine X6 ?_ ?_|refine X7 ?_ ?_|refine X8 ?_ ?_|refine X9 ?_ ?_)|refine⟨_,_,_,rfl,?_⟩|refine⟨_,rfl,?_⟩|((with_reducible refine And.intro ?_ ?_);·first|omega|trivial|(show _=_;rfl)|((with_reducible refine And.intro ?_ ?_)<;>first|omega|trivial|(show _=_;rfl)))|fail
    exact hQ' _ _ (by omega) (.inr ⟨hm0,by omega,by simp [yM]⟩)
   ·intro i x xs hat _ ih2 m N' hN' hm0 hm1 hQ'
    have hb:=hat.b
    refine rJ _ _ _ _ _ _ _ _ ?_
    simp only [yM,List.length_cons] at hQ'
    repeat' first|with_reducible intro _|simp only[hat.lt,hat.w,Int.toNat_natCast,Y1,Y2,Y3,Y4]|(with_reducible first|refine X1 ?_ ?_|refine X2 ?_ ?_|refine X3 ?_ ?_|refine X4 ?_ ?_|refine X5 ?_ ?_|refine X6 ?_ ?_|refine X7 ?_ ?_|refine X8 ?_ ?_|refine X9 ?_ ?_)|refine⟨_,_,_,rfl,?_⟩|refine⟨_,rfl,?_⟩|((with_reducible refine And.intro ?_ ?_);·first|omega|trivial|(show _=_;rfl)|((with_reducible refine And.intro ?_ ?_)<;>first|omega|trivial|(show _=_;rfl)))|refine (ih x hat.m _ hat.r m hm0 hm1) _ _ ?_|fail
    ·exact hQ' _ _ (by omega) (.inl rfl)
    ·rename_i r N2 hN2 hr hle hneg
     exact ih2 _ _ (by omega) (by omega) (by omega) fun r2 N'' h2 hr2=>hQ' _ _ (by omega) (by omega)
  repeat' first|with_reducible intro _|simp only[Y1,Y2,Y3,Y4]|(with_reducible first|refine X1 ?_ ?_|refine X2 ?_ ?_|refine X3 ?_ ?_|refine X4 ?_ ?_|refine X5 ?_ ?_|refine X6 ?_ ?_|refine X7 ?_ ?_|refine X8 ?_ ?_|refine X9 ?_ ?_)|refine⟨_,_,_,rfl,?_⟩|refine⟨_,rfl,?_⟩|((with_reducible refine And.intro ?_ ?_);·first|omega|trivial|(show _=_;rfl)|((with_reducible refine And.intro ?_ ?_)<;>first|omega|trivial|(show _=_;rfl)))|fail
  ·exact hQ _ _ (by omega) (.inl rfl)
  ·exact key (by omega) _ _ (Nat.le_refl _) (by omega) (by omega) fun r N'' h2 hr=>hQ _ _ (by omega) (by omega)
 have c1:=ty.cnt_pos
 have c2:=re.cnt_pos
 refine zGP N _ n Q fun _=>⟨_,rfl,?_⟩
 rw [i64_in (n - (nm.size:Int)) (by omega)]
 simp only [Tm.cnt] at hQ
 refine Br.dec (fun hneg N' hN'=>hQ _ _ hN' (.inl rfl)) fun hpos=>⟨_,rfl,?_⟩
 rw [i64_in (n - (nm.size:Int) - (ot.size:Int)) (by omega)]
 refine Br.dec (fun hneg N' hN'=>hQ _ _ hN' (.inl rfl)) fun hpos2=>?_
 intro N1 hN1
 refine zQI _ _ hh.ty _ (by omega) (by omega) _ _ fun r1 N2 hN2 hr1=>?_
 refine fun _=>Br.dec (fun hneg N' hN'=>hQ _ _ (by omega) (.inl rfl)) fun hpos3=>?_
 intro N3 hN3
 refine zQI _ _ hh.re _ (by omega) (by omega) _ _ fun r2 N4 hN4 hr2=>?_
 refine fun _=>Br.dec (fun hneg N' hN'=>hQ _ _ (by omega) (.inl rfl)) fun hpos4=>⟨_,_,_,rfl,?_⟩
 intro N5 hN5
 refine hS _ (by omega) (by omega) _ _ fun r3 N6 hN6 hr3=>?_
 refine fun _=>Br.dec (fun hneg N' hN'=>hQ _ _ (by omega) (.inl rfl)) fun hpos5=>?_
 intro N7 hN7
 exact hQ _ _ (by omega) (by omega)
mutual
theorem Ty.sm_of:∀ t:Ty,t.cnt≤1073741824→t.Sm
 | .mk _ l,h=>by
   simp only [Ty.cnt] at h
   exact ⟨by have:=s5 l;omega,Ty.sms_of l (by omega)⟩
theorem Ty.sms_of:∀ l:List Ty,zO l≤1073741824→zMe l
 | [],_=>trivial
 | t::ts,h=>by
   simp only [zO] at h
   exact ⟨Ty.sm_of t (by omega),Ty.sms_of ts (by omega)⟩
end
theorem zPr (t:Ty) (d:D) (hd:t.Is d) (hc:t.cnt≤1073741824):zCR 28 [.dg 2 d] t:=fun N Q hQ=>zKq t d hd (t.sm_of hc) N Q hQ
theorem uq {t:Ty} {d:D} {N N':Nat} (h:t.Is d) (ho:Own N N' d):OwnL N N' [D.cell d 0,D.cell d 1]:=by
 cases t with
 | mk k l=>
   obtain ⟨a,es,c,rfl,_,_⟩:=Ty.is_mk.1 h
   show OwnL N N' [.lit (.int .i64 k),.sl a 2 es c]
   exact ⟨by simpa only [D.foot] using ho.nd,ho.fl,by simpa only [D.foot] using ho.lo,by simpa only [D.foot] using ho.hi⟩
/-- hands back a copy -/
def Cop (f:FuncId) (z:Nat) (args:List PV) (P:D→Prop):Prop:=∀ (N:Nat) (Q:QT [.ag z]),(∀ d' N',N≤N'→P d'→Own N N' d'→Q d' N')→ACalls prog f [.ag z] args N Q
def zSB (f:FuncId) (z:Nat) (args:List PV) (P:List D→Prop):Prop:=∀ (N:Nat) (Q:QT [.sl z]),(∀ a' es' c' N',N≤N'→P es'→Own N N' (.sl a' z es' c')→Q a' es' c' N')→ACalls prog f [.sl z] args N Q
theorem zDB:∀ (t:Tm) (d:D),t.Is d→t.cnt≤1073741824→Cop 8 9 [.dg 9 d] t.Is:=by
 refine Tm.ind fun k nm ot m ty re l ih d hd hc N Q hQ=>?_
 obtain ⟨t0,t1,r0,r1,a,es,c,rfl,hh,hlen,hes⟩:=Tm.is_mk.1 hd
 have hl:=hes.len
 simp only [Tm.cnt] at hc
 have hlc:=vY l
 have hS:zSB 29 9 [.sv a 9 es c] (fun es'=>All2 Tm.Is l es'):=fun N Q hQ=>by
  refine zE3 N a es c Q fun _=>⟨⟨by omega,by omega,by omega,by omega⟩,?_⟩
  rw [Int.toNat_natCast]
  have key:=up hes hlen (fun i xs=>∀ (done junk:List D) (N':Nat),N≤N'→All2 Tm.Is (l.take i) done→done.length=i→junk.length=xs.length→OwnL N N' done→wX Q N a es c es.length es.length i (done++junk) es.length N') ?_ ?_
  ·simpa using key [] (List.replicate es.length (.ag [.lit (.int .i64 0),.lit (.string (bytes [])),.lit (.string (bytes [])),.lit (.int .i64 0),.lit (.int .i64 0),.sl none 2 [] 0,.lit (.int .i64 0),.sl none 2 [] 0,.sl none 9 [] 0])) N (Nat.le_refl _) rfl rfl (by simp [hl]) sX
  ·intro i hlt hi done junk N' hN' hd hdl hj ho
   have:junk=[]:=List.eq_nil_of_length_eq_zero (by simpa using hj)
   subst this
   rw [List.append_nil]
   refine s9 _ _ _ _ _ _ _ _ _ _ _ ?_
   rw [List.take_of_length_le (by omega)] at hd
   have hdn:es.length=done.length:=by omega
   repeat' first|with_reducible intro _|simp only[hlt,Y1,Y2,Y3,Y4]|(with_reducible first|refine X1 ?_ ?_|refine X2 ?_ ?_|refine X3 ?_ ?_|refine X4 ?_ ?_|refine X5 ?_ ?_|refine X6 ?_ ?_|refine X7 ?_ ?_|refine X8 ?_ ?_|refine X9 ?_ ?_)|refine⟨_,_,_,rfl,?_⟩|refine⟨_,rfl,?_⟩|((with_reducible refine And.intro ?_ ?_);·first|omega|trivial|(show _=_;rfl)|((with_reducible refine And.intro ?_ ?_)<;>first|omega|trivial|(show _=_;rfl)))|fail
   rename_i a' N3 hN3 hf N4 hN4
   exact hQ _ _ _ _ (by omega) hd ((rP ho hf hN3).mono (Nat.le_refl _) hN4)
  ·intro i x xs hat _ ih2 done junk N' hN' hd hdl hj ho
   have hb:=hat.b
   have hxc:=yY hat.m
   cases junk with
   | nil=>simp at hj
   | cons y junk=>
     subst hdl
     refine s9 _ _ _ _ _ _ _ _ _ _ _ ?_
     repeat' first|with_reducible intro _|simp only[hat.lt,hat.w,Int.toNat_natCast,Nat.zero_add,List.length_append,List.length_cons,Y1,Y2,Y3,Y4]|(with_reducible first|refine X1 ?_ ?_|refine X2 ?_ ?_|refine X3 ?_ ?_|refine X4 ?_ ?_|refine X5 ?_ ?_|refine X6 ?_ ?_|refine X7 ?_ ?_|refine X8 ?_ ?_|refine X9 ?_ ?_)|refine⟨_,_,_,rfl,?_⟩|refine⟨_,rfl,?_⟩|((with_reducible refine And.intro ?_ ?_);·first|omega|trivial|(show _=_;rfl)|((with_reducible refine And.intro ?_ ?_)<;>first|omega|trivial|(show _=_;rfl)))|refine (ih x hat.m _ hat.r (by omega)) _ _ ?_|fail
     all_goals first | (exfalso;omega) | skip
     rename_i N1 hN1 x' N2 hN2 hx hox _ _
     rw [zCQ]
     have:=ih2 (done++[x']) junk _ (by omega) (by rw [wi hat.g];exact hd.snoc hx) (by simp) (by simpa using hj) (yB (ho.mono (Nat.le_refl _) hN1) (yG hox) (by omega) hN2)
     simpa using this
 refine zHP N _ Q fun _=>?_
 repeat' first|with_reducible intro _|simp only[Y1,Y2,Y3,Y4]|(with_reducible first|refine X1 ?_ ?_|refine X2 ?_ ?_|refine X3 ?_ ?_|refine X4 ?_ ?_|refine X5 ?_ ?_|refine X6 ?_ ?_|refine X7 ?_ ?_|refine X8 ?_ ?_|refine X9 ?_ ?_)|refine⟨_,_,_,rfl,?_⟩|refine⟨_,rfl,?_⟩|((with_reducible refine And.intro ?_ ?_);·first|omega|trivial|(show _=_;rfl)|((with_reducible refine And.intro ?_ ?_)<;>first|omega|trivial|(show _=_;rfl)))|refine (zPr _ _ hh.ty (by omega)) _ _ ?_|refine (zPr _ _ hh.re (by omega)) _ _ ?_|refine hS _ _ ?_|fail
 rename_i N1 hN1 x N2 hN2 hx hox _ _ N3 hN3 y N4 hN4 hy hoy _ _ N5 hN5 a' es' c' N6 hN6 hes' hos _ _ N7 hN7
 refine hQ _ _ (by omega) (Tm.is_mk.2 ⟨_,_,_,_,_,_,_,rfl,⟨hh.nm,hh.ot,Ty.is_cells hx,Ty.is_cells hy⟩,by have:=hes'.len;omega,hes'⟩) ?_
 exact zA1 (wA (wA (wA (wA (yB ((uq hx hox).mono hN1 hN3) (yB ((uq hy hoy).mono (Nat.le_refl _) hN5) ((yG hos).mono (Nat.le_refl _) hN7) (by omega) (by omega)) (by omega) (by omega))))))
theorem zBT (t:Ty) (d e:D) (hd:t.Is d) (he:t.Is e):vE 40 [.dg 2 d,.dg 2 e] true:=fun N Q hQ=>zK8 t t d e hd he N Q fun N' h=>Qb (hQ N' h) ((sW t t).2 rfl).symm
theorem zKw:∀ (t:Tm) (d e:D),t.Is d→t.Is e→vE 12 [.dg 9 d,.dg 9 e] true:=by
 refine Tm.ind fun k nm ot m ty re l ih d e hd he N Q hQ=>?_
 obtain ⟨t0,t1,r0,r1,a,es,c,rfl,hh,hlen,hes⟩:=Tm.is_mk.1 hd
 obtain ⟨u0,u1,v0,v1,b,fs,c',rfl,hh',hlen',hfs⟩:=Tm.is_mk.1 he
 have hl:=hes.len
 have hl':=hfs.len
 have hS:vE 10 [.sv a 9 es c,.sv b 9 fs c'] true:=fun N Q hQ=>by
  have key:=up hes hlen (fun i xs=>∀ (N':Nat),N≤N'→xS Q N a es c b fs c' i N') ?_ ?_
  ·refine pW N _ _ _ _ _ _ Q fun _ _=>?_
   repeat' first|with_reducible intro _|simp only[Y1,Y2,Y3,Y4]|(with_reducible first|refine X1 ?_ ?_|refine X2 ?_ ?_|refine X3 ?_ ?_|refine X4 ?_ ?_|refine X5 ?_ ?_|refine X6 ?_ ?_|refine X7 ?_ ?_|refine X8 ?_ ?_|refine X9 ?_ ?_)|refine⟨_,_,_,rfl,?_⟩|refine⟨_,rfl,?_⟩|((with_reducible refine And.intro ?_ ?_);·first|omega|trivial|(show _=_;rfl)|((with_reducible refine And.intro ?_ ?_)<;>first|omega|trivial|(show _=_;rfl)))|fail
   ·omega
   ·exact key N (Nat.le_refl _)
  ·intro i hlt hi N' hN'
   refine wa _ _ _ _ _ _ _ _ _ _ ?_
   repeat' first|with_reducible intro _|simp only[hlt,Y1,Y2,Y3,Y4]|(with_reducible first|refine X1 ?_ ?_|refine X2 ?_ ?_|refine X3 ?_ ?_|refine X4 ?_ ?_|refine X5 ?_ ?_|refine X6 ?_ ?_|refine X7 ?_ ?_|refine X8 ?_ ?_|refine X9 ?_ ?_)|refine⟨_,_,_,rfl,?_⟩|refine⟨_,rfl,?_⟩|((with_reducible refine And.intro ?_ ?_);·first|omega|trivial|(show _=_;rfl)|((with_reducible refine And.intro ?_ ?_)<;>first|omega|trivial|(show _=_;rfl)))|fail
   exact hQ _ (by omega)
  ·intro i x xs hat _ ih2 N' hN'
   have hb:=hat.b
   refine wa _ _ _ _ _ _ _ _ _ _ ?_
   repeat' first|with_reducible intro _|simp only[hat.lt,hat.w,Int.toNat_natCast,Y1,Y2,Y3,Y4]|(with_reducible first|refine X1 ?_ ?_|refine X2 ?_ ?_|refine X3 ?_ ?_|refine X4 ?_ ?_|refine X5 ?_ ?_|refine X6 ?_ ?_|refine X7 ?_ ?_|refine X8 ?_ ?_|refine X9 ?_ ?_)|refine⟨_,_,_,rfl,?_⟩|refine⟨_,rfl,?_⟩|((with_reducible refine And.intro ?_ ?_);·first|omega|trivial|(show _=_;rfl)|((with_reducible refine And.intro ?_ ?_)<;>first|omega|trivial|(show _=_;rfl)))|refine (ih x hat.m _ _ hat.r (hfs.get hat.g)) _ _ ?_|fail
   exact ih2 _ (by omega)
 refine zGV N _ _ Q fun _ _=>?_
 repeat' first|with_reducible intro _|simp only[Y1,Y2,Y3,Y4]|(with_reducible first|refine X1 ?_ ?_|refine X2 ?_ ?_|refine X3 ?_ ?_|refine X4 ?_ ?_|refine X5 ?_ ?_|refine X6 ?_ ?_|refine X7 ?_ ?_|refine X8 ?_ ?_|refine X9 ?_ ?_)|refine⟨_,_,_,rfl,?_⟩|refine⟨_,rfl,?_⟩|((with_reducible refine And.intro ?_ ?_);·first|omega|trivial|(show _=_;rfl)|((with_reducible refine And.intro ?_ ?_)<;>first|omega|trivial|(show _=_;rfl)))|refine (zBT _ _ _ hh.ty hh'.ty) _ _ ?_|refine (zBT _ _ _ hh.re hh'.re) _ _ ?_|refine hS _ _ ?_|fail
 all_goals first | exact absurd rfl (by assumption) | skip
 all_goals exact hQ _ (by omega)
theorem zLr (k:Int) (h0:0≤k) (h1:k≤4611686018427387904):∀ (N:Nat) (Q:QT [.str]),(∀ s N',N≤N'→Q s N')→ACalls prog 41 [.str] [.int .i64 k] N Q:=fun N Q hQ=>by
 have key:∀ (n:Nat) (k:Int) (s:ByteArray) (N':Nat),k.toNat≤n→0≤k→(s.size:Int)+k≤4611686018427387904→N≤N'→xB Q N k s N':=by
  intro n
  induction n with
  | zero=>
    intro k s N' hn hk hs hN'
    refine x9 _ _ _ _ _ (Br.dec (fun h=>?_) fun _=>⟨by omega,fun N1 hN1=>hQ _ _ (by omega)⟩)
    omega
  | succ n ih=>
    intro k s N' hn hk hs hN'
    refine x9 _ _ _ _ _ (Br.dec (fun h=>?_) fun _=>⟨by omega,fun N1 hN1=>hQ _ _ (by omega)⟩)
    have hd:Int.tdiv k 10=k / 10:=Int.tdiv_eq_ediv_of_nonneg hk
    refine ⟨by decide,by simp,[_],rfl,?_,by decide,?_⟩
    ·show 1+s.size≤_
     omega
    ·rw [hd,i64_in _ (by omega)]
     refine ih _ _ _ (by omega) (by omega) ?_ hN'
     rw [ByteArray.size_append]
     show ((1+s.size:Nat):Int)+_≤_
     omega
 refine rq N k Q (Br.dec (fun _ N1 hN1=>hQ _ _ hN1) fun h=>?_)
 exact key k.toNat k _ N (Nat.le_refl _) h0 (by show ((0:Nat):Int)+_≤_;omega) (Nat.le_refl _)
theorem zHM (cs:List D):D.cells (.ag cs)=cs:=rfl
theorem p40 (v c0 c1 c2 c3:D):yc 0 [v] [c0,c1,c2,c3]=[v,c1,c2,c3]:=rfl
theorem p41 (v c0 c1 c2 c3:D):yc 1 [v] [c0,c1,c2,c3]=[c0,v,c2,c3]:=rfl
theorem p42 (v c0 c1 c2 c3:D):yc 2 [v] [c0,c1,c2,c3]=[c0,c1,v,c3]:=rfl
theorem p43 (v c0 c1 c2 c3:D):yc 3 [v] [c0,c1,c2,c3]=[c0,c1,c2,v]:=rfl
theorem zIa {a b c:List D} {x:D} (h:(zB (a++x::c)).Nodup):x.foot.Nodup:=by
 rw [zF,List.nodup_append] at h
 have:=h.2.1
 simp only [zB] at this
 rw [List.nodup_append] at this
 exact this.1
theorem p90 (v c0 c1 c2 c3 c4 c5 c6 c7 c8:D):yc 0 [v] [c0,c1,c2,c3,c4,c5,c6,c7,c8]=[v,c1,c2,c3,c4,c5,c6,c7,c8]:=rfl
theorem p91 (v c0 c1 c2 c3 c4 c5 c6 c7 c8:D):yc 1 [v] [c0,c1,c2,c3,c4,c5,c6,c7,c8]=[c0,v,c2,c3,c4,c5,c6,c7,c8]:=rfl
theorem p92 (v c0 c1 c2 c3 c4 c5 c6 c7 c8:D):yc 2 [v] [c0,c1,c2,c3,c4,c5,c6,c7,c8]=[c0,c1,v,c3,c4,c5,c6,c7,c8]:=rfl
theorem p93 (v c0 c1 c2 c3 c4 c5 c6 c7 c8:D):yc 3 [v] [c0,c1,c2,c3,c4,c5,c6,c7,c8]=[c0,c1,c2,v,c4,c5,c6,c7,c8]:=rfl
theorem p94 (v c0 c1 c2 c3 c4 c5 c6 c7 c8:D):yc 4 [v] [c0,c1,c2,c3,c4,c5,c6,c7,c8]=[c0,c1,c2,c3,v,c5,c6,c7,c8]:=rfl
theorem p95 (v c0 c1 c2 c3 c4 c5 c6 c7 c8:D):yc 5 [v] [c0,c1,c2,c3,c4,c5,c6,c7,c8]=[c0,c1,c2,c3,c4,v,c6,c7,c8]:=rfl
theorem p96 (v c0 c1 c2 c3 c4 c5 c6 c7 c8:D):yc 6 [v] [c0,c1,c2,c3,c4,c5,c6,c7,c8]=[c0,c1,c2,c3,c4,c5,v,c7,c8]:=rfl
theorem p97 (v c0 c1 c2 c3 c4 c5 c6 c7 c8:D):yc 7 [v] [c0,c1,c2,c3,c4,c5,c6,c7,c8]=[c0,c1,c2,c3,c4,c5,c6,v,c8]:=rfl
theorem p98 (v c0 c1 c2 c3 c4 c5 c6 c7 c8:D):yc 8 [v] [c0,c1,c2,c3,c4,c5,c6,c7,c8]=[c0,c1,c2,c3,c4,c5,c6,c7,v]:=rfl
theorem Ty.is_two {t:Ty} {t0 t1:D} (h:t.Is (.ag [t0,t1])):∃ kk l a es c,t=.mk kk l∧t0=.lit (.int .i64 kk)∧t1=.sl a 2 es c∧es.length≤4611686018427387904∧TysIs l es:=by
 cases t with
 | mk kk l=>
   obtain ⟨a,es,c,h1,h2,h3⟩:=Ty.is_mk.1 h
   injection h1 with h1
   injection h1 with e1 e2
   injection e2 with e2 _
   exact ⟨kk,l,a,es,c,rfl,e1,e2,h2,zC8 h3⟩
/-- the cells of a term of these marks -/
abbrev tmD (x0 x1 x2 x3 x4 x6:Value) (aT:Option Addr) (esT:List D) (cT:Nat) (aR:Option Addr) (esR:List D) (cR:Nat) (aA:Option Addr) (esA:List D) (cA:Nat):D:=
 .ag [.lit x0,.lit x1,.lit x2,.lit x3,.lit x4,.sl aT 2 esT cT,.lit x6,.sl aR 2 esR cR,.sl aA 9 esA cA]
theorem zDJ {x0 x1 x2 x3 x4 x6:Value} {aT:Option Addr} {esT:List D} {cT:Nat} {aR:Option Addr} {esR:List D} {cR:Nat} {aA:Option Addr} {esA:List D} {cA:Nat} :
  (tmD x0 x1 x2 x3 x4 x6 aT esT cT aR esR cR aA esA cA).foot=(D.sl aT 2 esT cT).foot++((D.sl aR 2 esR cR).foot++(D.sl aA 9 esA cA).foot):=by
 simp only [D.foot,zB,List.nil_append,List.append_nil]
theorem zFj {kk:Int} {l:List Ty} {a:Option Addr} {es:List D} {c:Nat} (hes:TysIs l es) (hlen:es.length≤4611686018427387904) (ht:Tree (.ag [.lit (.int .i64 kk),.sl a 2 es c])) (k:Int) (hk:0≤k) (hk2:k+zO l≤4611686018427387904) (N:Nat) (R:D→Int→Nat→Prop)
  (hR:∀ es' N',N≤N'→TysIs (za l k).1 es'→zB es'=zB es→es'.length=es.length→R (.ag [.lit (.int .i64 kk),.sl a 2 es' c]) (za l k).2 N'):MC prog 43 (.ag [.lit (.int .i64 kk),.sl a 2 es c]) k N R:=by
 have hf:(D.ag [.lit (.int .i64 kk),.sl a 2 es c]).foot=(D.sl a 2 es c).foot:=by simp only [D.foot,zB,List.nil_append,List.append_nil]
 have htree:Tree (.sl a 2 es c):=⟨hf ▸ ht.nd,ht.fl.2.1⟩
 refine zEq N [.lit (.int .i64 kk),.sl a 2 es c] k R (fun k' x N'=>N≤N'∧∃ es',x=.ag [.lit (.int .i64 kk),.sl a 2 es' c]∧TysIs (za l k).1 es'∧zB es'=zB es∧es'.length=es.length∧k'=(za l k).2) ⟨_,rfl,rfl,by simp [D.isCell];rfl⟩
  ⟨a,es,c,rfl,htree,⟨fun b hb=>hf ▸ hb⟩,by simp [D.cells],rfl,⟨(by have:=ht.nd;simpa only [D.foot] using this:(zB [D.lit (.int .i64 kk),.sl a 2 es c]).Nodup)⟩,⟨by simp⟩,fun N1 hN1=>?_⟩ ?_
 ·refine ui l es hes a c htree hlen k hk hk2 N1 _ fun es' N2 hN2 h1 h2 h3 _ N3 hN3=>?_
  exact ⟨by omega,es',rfl,h1,h2,h3,rfl⟩
 ·rintro k' x N' ⟨hN',es',rfl,h1,h2,h3,rfl⟩
  have hfs:=sV (a:=a) (z:=2) (c:=c) h3 h2
  exact ⟨_,rfl,by simp [D.cv,h3],by simp only [zB,hfs],hR es' N' hN' h1 h2 h3⟩
mutual
theorem zRh:∀ (t:Ty) (k:Int),0≤k→zRg t k = -1∨zRg t k+1=k+t.cnt
 | .mk _ l,k,h=>by
   simp only [zRg,Ty.cnt]
   rcases zKc l k h with h | h<;>omega
theorem zKc:∀ (l:List Ty) (k:Int),0≤k→rW l k = -1∨rW l k=k+zO l
 | [],k,_=>.inr (by simp [rW,zO])
 | .mk kk l::ts,k,h=>by
   simp only [rW,zO,Ty.cnt]
   split
   ·exact .inl rfl
   ·split
    ·exact .inl rfl
    ·rename_i h2
     rcases zKc l (k+1) (by omega) with h3 | h3
     ·omega
     ·rcases zKc ts (rW l (k+1)) (by omega) with h4 | h4
      ·exact .inl h4
      ·exact .inr (by omega)
end
theorem zKR (t:Ty):∀ (es:List D) (a:Option Addr) (c:Nat),All2 Ty.Is t.as es→es.length≤4611686018427387904→∀ n:Int,0≤n→n+zO t.as≤4611686018427387904→pe 44 [.sv a 2 es c,.int .i64 n] (rW t.as n):=by
 revert t
 refine Ty.ind fun k l ih es a c hes hlen n h0 h1 N Q hQ=>?_
 simp only [Ty.as] at hes hQ h1
 refine zCp N a es c n Q fun _=>?_
 refine up hes hlen (fun i xs=>∀ (m:Int) (N':Nat),N≤N'→0≤m→m+zO xs≤4611686018427387904→(∀ N'',N'≤N''→Q (rW xs m) N'')→xg Q N a es c m i N') ?_ ?_ n N (Nat.le_refl _) h0 (by omega) hQ
 ·intro i hlt _ m N' hN' hm0 hm1 hQ'
  simp only [rW] at hQ'
  refine u9 _ _ _ _ _ _ _ _ ?_
  repeat' first|with_reducible intro _|simp only[hlt,Y1,Y2,Y3,Y4]|(with_reducible first|refine X1 ?_ ?_|refine X2 ?_ ?_|refine X3 ?_ ?_|refine X4 ?_ ?_|refine X5 ?_ ?_|refine X6 ?_ ?_|refine X7 ?_ ?_|refine X8 ?_ ?_|refine X9 ?_ ?_)|refine⟨_,_,_,rfl,?_⟩|refine⟨_,rfl,?_⟩|((with_reducible refine And.intro ?_ ?_);·first|omega|trivial|(show _=_;rfl)|((with_reducible refine And.intro ?_ ?_)<;>first|omega|trivial|(show _=_;rfl)))|fail
  exact hQ' _ (by omega)
 ·intro i x xs hat _ ih2 m N' hN' hm0 hm1 hQ'
  have hb:=hat.b
  have hr:=hat.r
  have ihx:=ih x hat.m
  cases x with
  | mk kk lt=>
  obtain ⟨a1,es1,c1,hd,hlen1,hes1⟩:=Ty.is_mk.1 hr
  simp only [zO,Ty.cnt] at hm1
  simp only [rW] at hQ'
  have hc:=zKc lt (m+1) (by omega)
  refine u9 _ _ _ _ _ _ _ _ ?_
  rw [i64_in (m+1) (by omega)]
  repeat' first|with_reducible intro _|simp only[hat.lt,hat.w,Int.toNat_natCast,hd,Y1,Y2,Y3,Y4]|(with_reducible first|refine X1 ?_ ?_|refine X2 ?_ ?_|refine X3 ?_ ?_|refine X4 ?_ ?_|refine X5 ?_ ?_|refine X6 ?_ ?_|refine X7 ?_ ?_|refine X8 ?_ ?_|refine X9 ?_ ?_)|refine⟨_,_,_,rfl,?_⟩|refine⟨_,rfl,?_⟩|((with_reducible refine And.intro ?_ ?_);·first|omega|trivial|(show _=_;rfl)|((with_reducible refine And.intro ?_ ?_)<;>first|omega|trivial|(show _=_;rfl)))|fail
  ·rename_i hk _ _
   exact Qi (hQ' _ (by omega)) (by rw [if_pos hk])
  ·rename_i hk _ _
   have hih:=ihx es1 a1 c1 hes1 hlen1 (m+1) (by omega) (by simp only [Ty.as];omega)
   simp only [Ty.as] at hih
   refine hih _ _ fun N3 hN3 _=>Br.dec (fun hneg N4 hN4=>?_) fun hneg=>?_
   ·exact Qi (hQ' _ (by omega)) (by rw [if_neg (by omega),if_pos hneg])
   ·exact ih2 _ _ (by omega) (by omega) (by omega) fun N'' h=>Qi (hQ' _ (by omega)) (by rw [if_neg (by omega),if_neg hneg])
end Go.Proofs.YtnpjpplbkoammaaGreat
