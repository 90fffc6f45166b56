/- The laws' look at sizes, and copies, of terms and contexts. -/
import Derived.Test.YtmfjakahanbnlaaGreatDoorA3
set_option linter.unusedVariables false
set_option linter.unusedSimpArgs false
namespace Go.Proofs.YtmfjakahanbnlaaGreatDoor
open Go Go.Proofs Go.Proofs.Tryz Go.IntWalk
mutual
theorem zEJ:∀ (t:Ty) (n:Int),0≤n→zAs t n = -1∨(0≤zAs t n∧zAs t n+t.cnt=n+1)
 | .mk _ l,n,h=>by
   simp only [zAs,Ty.cnt]
   split
   ·exact .inl rfl
   ·rcases zEL l (n - l.length) (by omega) with h | h
    ·exact .inl h
    ·exact .inr (by omega)
theorem zEL:∀ (l:List Ty) (n:Int),0≤n→zDN l n = -1∨(0≤zDN l n∧zDN l n+yd l=n+l.length)
 | [],n,h=>.inr (by simp [zDN,yd,h])
 | t :: ts,n,h=>by
   simp only [zDN,yd,List.length_cons]
   split
   ·exact .inl rfl
   ·rcases zEJ t n h with h1 | h1
    ·omega
    ·rcases zEL ts (zAs t n) (by omega) with h2 | h2
     ·exact .inl h2
     ·exact .inr (by omega)
end
/-- returns a number of which this holds -/
def zJ1 (f:FuncId) (args:List PV) (P:Int→Prop):Prop:=∀ (N:Nat) (Q:QT [.int .i64]),(∀ r N',N≤N'→P r→Q r N')→ACalls prog f [.int .i64] args N Q
theorem zIn (t:Ty) (d:D) (hd:t.Is d) (n:Int) (h0:0≤n) (h1:n≤1048576):zJ1 44 [.dg 2 d,.int .i64 n] fun r=>r = -1∨(0≤r∧r+t.cnt=n+1):=fun N Q hQ=>
 zD9 t d hd n h0 h1 N Q fun N' hN'=>hQ _ N' hN' (zEJ t n h0)
theorem zD0:∀ (t:Tm) (d:D),t.Is d→∀ n:Int,0≤n→n≤1048576→zJ1 8 [.dg 9 d,.int .i64 n] fun r=>r = -1∨(0≤r∧r≤n∧(t.cnt:Int)≤3+3*(n - r)):=by
 refine Tm.ind fun k nm ot m ty re l ih d hd n h0 h1 N Q hQ=>?_
 obtain ⟨t0,t1,r0,r1,a,es,c,rfl,hh,hlen,hes⟩:=Tm.is_mk.1 hd
 have hl:=hes.len
 have hnm:=hh.nm
 have hot:=hh.ot
 have hS:∀ n:Int,0≤n→n≤1048576→zJ1 45 [.sv a 9 es c,.int .i64 n] fun r=>r = -1∨(0≤r∧r≤n∧(yT l:Int)≤3*(n - r)):=fun n h0 h1 N Q hQ=>by
  refine po N a es c n Q fun _=>?_
  rw [i64_in _ (by omega)]
  have key:0≤n - (es.length:Int)→∀ (m:Int) (N':Nat),N≤N'→0≤m→m≤1048576→(∀ r N'',N'≤N''→(r = -1∨(0≤r∧r≤m∧(yT l:Int)≤3*l.length+3*(m - r)))→Q r N'')→yE Q N a es c m (0:Nat) N':=fun _=>by
   refine up hes hlen (fun i xs=>∀ (m:Int) (N':Nat),N≤N'→0≤m→m≤1048576→(∀ r N'',N'≤N''→(r = -1∨(0≤r∧r≤m∧(yT xs:Int)≤3*xs.length+3*(m - r)))→Q r N'')→yE Q N a es c m i N') ?_ ?_
   ·intro i hlt _ m N' hN' hm0 hm1 hQ'
    refine vT _ _ _ _ _ _ _ _ ?_
    repeat' first|with_reducible intro _|simp only[hlt,Y1,Y2,Y3,Y4]|with_reducible refine X ?_ ?_|refine⟨_,_,_,rfl,?_⟩|refine⟨_,rfl,?_⟩|refine And.intro (by first|omega|trivial|(show _=_;rfl)|(with_reducible constructor)<;>first|omega|trivial|rfl) ?_|fail
    exact hQ' _ _ (by omega) (.inr ⟨hm0,by omega,by simp [yT]⟩)
   ·intro i x xs hat _ ih2 m N' hN' hm0 hm1 hQ'
    have hb:=hat.b
    refine vT _ _ _ _ _ _ _ _ ?_
    simp only [yT,List.length_cons] at hQ'
    repeat' first|with_reducible intro _|simp only[hat.lt,hat.w,Int.toNat_natCast,Y1,Y2,Y3,Y4]|with_reducible refine X ?_ ?_|refine⟨_,_,_,rfl,?_⟩|refine⟨_,rfl,?_⟩|refine And.intro (by first|omega|trivial|(show _=_;rfl)|(with_reducible constructor)<;>first|omega|trivial|rfl) ?_|refine (ih x hat.m _ hat.r m hm0 hm1) _ _ ?_|fail
    ·exact hQ' _ _ (by omega) (.inl rfl)
    ·rename_i r N2 hN2 hr hle hneg
     exact ih2 _ _ (by omega) (by omega) (by omega) fun r2 N'' h2 hr2=>hQ' _ _ (by omega) (by omega)
  repeat' first|with_reducible intro _|simp only[Y1,Y2,Y3,Y4]|with_reducible refine X ?_ ?_|refine⟨_,_,_,rfl,?_⟩|refine⟨_,rfl,?_⟩|refine And.intro (by first|omega|trivial|(show _=_;rfl)|(with_reducible constructor)<;>first|omega|trivial|rfl) ?_|fail
  ·exact hQ _ _ (by omega) (.inl rfl)
  ·exact key (by omega) _ _ (Nat.le_refl _) (by omega) (by omega) fun r N'' h2 hr=>hQ _ _ (by omega) (by omega)
 have c1:=ty.cnt_pos
 have c2:=re.cnt_pos
 refine zAb N _ n Q fun _=>⟨_,rfl,?_⟩
 rw [i64_in (n - (nm.size:Int)) (by omega)]
 simp only [Tm.cnt] at hQ
 refine Br.dec (fun hneg N' hN'=>hQ _ _ hN' (.inl rfl)) fun hpos=>⟨_,rfl,?_⟩
 rw [i64_in (n - (nm.size:Int) - (ot.size:Int)) (by omega)]
 refine Br.dec (fun hneg N' hN'=>hQ _ _ hN' (.inl rfl)) fun hpos2=>?_
 intro N1 hN1
 refine zIn _ _ hh.ty _ (by omega) (by omega) _ _ fun r1 N2 hN2 hr1=>?_
 refine fun _=>Br.dec (fun hneg N' hN'=>hQ _ _ (by omega) (.inl rfl)) fun hpos3=>?_
 intro N3 hN3
 refine zIn _ _ hh.re _ (by omega) (by omega) _ _ fun r2 N4 hN4 hr2=>?_
 refine fun _=>Br.dec (fun hneg N' hN'=>hQ _ _ (by omega) (.inl rfl)) fun hpos4=>⟨_,_,_,rfl,?_⟩
 intro N5 hN5
 refine hS _ (by omega) (by omega) _ _ fun r3 N6 hN6 hr3=>?_
 refine fun _=>Br.dec (fun hneg N' hN'=>hQ _ _ (by omega) (.inl rfl)) fun hpos5=>?_
 intro N7 hN7
 exact hQ _ _ (by omega) (by omega)
mutual
theorem Ty.sm_of:∀ t:Ty,t.cnt≤1073741824→t.Sm
 | .mk _ l,h=>by
   simp only [Ty.cnt] at h
   exact ⟨by have:=vB l;omega,Ty.sms_of l (by omega)⟩
theorem Ty.sms_of:∀ l:List Ty,yd l≤1073741824→zE6 l
 | [],_=>trivial
 | t::ts,h=>by
   simp only [yd] at h
   exact ⟨Ty.sm_of t (by omega),Ty.sms_of ts (by omega)⟩
end
theorem zI2 (t:Ty) (d:D) (hd:t.Is d) (hc:t.cnt≤1073741824):zJd 48 [.dg 2 d] t:=fun N Q hQ=>zD3 t d hd (t.sm_of hc) N Q hQ
theorem tR {t:Ty} {d:D} {N N':Nat} (h:t.Is d) (ho:Own N N' d):OwnL N N' [D.cell d 0,D.cell d 1]:=by
 cases t with
 | mk k l=>
   obtain ⟨a,es,c,rfl,_,_⟩:=Ty.is_mk.1 h
   show OwnL N N' [.lit (.int .i64 k),.sl a 2 es c]
   exact ⟨by simpa only [D.foot] using ho.nd,ho.fl,by simpa only [D.foot] using ho.lo,by simpa only [D.foot] using ho.hi⟩
/-- hands back a copy -/
def Cop (f:FuncId) (z:Nat) (args:List PV) (P:D→Prop):Prop:=∀ (N:Nat) (Q:QT [.ag z]),(∀ d' N',N≤N'→P d'→Own N N' d'→Q d' N')→ACalls prog f [.ag z] args N Q
def zKJ (f:FuncId) (z:Nat) (args:List PV) (P:List D→Prop):Prop:=∀ (N:Nat) (Q:QT [.sl z]),(∀ a' es' c' N',N≤N'→P es'→Own N N' (.sl a' z es' c')→Q a' es' c' N')→ACalls prog f [.sl z] args N Q
theorem uD:∀ (t:Tm) (d:D),t.Is d→t.cnt≤1073741824→Cop 10 9 [.dg 9 d] t.Is:=by
 refine Tm.ind fun k nm ot m ty re l ih d hd hc N Q hQ=>?_
 obtain ⟨t0,t1,r0,r1,a,es,c,rfl,hh,hlen,hes⟩:=Tm.is_mk.1 hd
 have hl:=hes.len
 simp only [Tm.cnt] at hc
 have hlc:=tC l
 have hS:zKJ 49 9 [.sv a 9 es c] (fun es'=>All2 Tm.Is l es'):=fun N Q hQ=>by
  refine ph N a es c Q fun _=>⟨⟨by omega,by omega,by omega,by omega⟩,?_⟩
  rw [Int.toNat_natCast]
  have key:=up hes hlen (fun i xs=>∀ (done junk:List D) (N':Nat),N≤N'→All2 Tm.Is (l.take i) done→done.length=i→junk.length=xs.length→OwnL N N' done→ym Q N a es c es.length es.length i (done++junk) es.length N') ?_ ?_
  ·simpa using key [] (List.replicate es.length (.ag [.lit (.int .i64 0),.lit (.string (bytes [])),.lit (.string (bytes [])),.lit (.int .i64 0),.lit (.int .i64 0),.sl none 2 [] 0,.lit (.int .i64 0),.sl none 2 [] 0,.sl none 9 [] 0])) N (Nat.le_refl _) rfl rfl (by simp [hl]) zAZ
  ·intro i hlt hi done junk N' hN' hd hdl hj ho
   have:junk=[]:=List.eq_nil_of_length_eq_zero (by simpa using hj)
   subst this
   rw [List.append_nil]
   refine vW _ _ _ _ _ _ _ _ _ _ _ ?_
   rw [List.take_of_length_le (by omega)] at hd
   have hdn:es.length=done.length:=by omega
   repeat' first|with_reducible intro _|simp only[hlt,Y1,Y2,Y3,Y4]|with_reducible refine X ?_ ?_|refine⟨_,_,_,rfl,?_⟩|refine⟨_,rfl,?_⟩|refine And.intro (by first|omega|trivial|(show _=_;rfl)|(with_reducible constructor)<;>first|omega|trivial|rfl) ?_|fail
   rename_i a' N3 hN3 hf N4 hN4
   exact hQ _ _ _ _ (by omega) hd ((zCG ho hf hN3).mono (Nat.le_refl _) hN4)
  ·intro i x xs hat _ ih2 done junk N' hN' hd hdl hj ho
   have hb:=hat.b
   have hxc:=w9 hat.m
   cases junk with
   | nil=>simp at hj
   | cons y junk=>
     subst hdl
     refine vW _ _ _ _ _ _ _ _ _ _ _ ?_
     repeat' first|with_reducible intro _|simp only[hat.lt,hat.w,Int.toNat_natCast,Nat.zero_add,List.length_append,List.length_cons,Y1,Y2,Y3,Y4]|with_reducible refine X ?_ ?_|refine⟨_,_,_,rfl,?_⟩|refine⟨_,rfl,?_⟩|refine And.intro (by first|omega|trivial|(show _=_;rfl)|(with_reducible constructor)<;>first|omega|trivial|rfl) ?_|refine (ih x hat.m _ hat.r (by omega)) _ _ ?_|fail
     all_goals first | (exfalso;omega) | skip
     rename_i N1 hN1 x' N2 hN2 hx hox _ _
     rw [zHc]
     have:=ih2 (done++[x']) junk _ (by omega) (by rw [vr hat.g];exact hd.snoc hx) (by simp) (by simpa using hj) (yv (ho.mono (Nat.le_refl _) hN1) (xY hox) (by omega) hN2)
     simpa using this
 refine zBC N _ Q fun _=>?_
 repeat' first|with_reducible intro _|simp only[Y1,Y2,Y3,Y4]|with_reducible refine X ?_ ?_|refine⟨_,_,_,rfl,?_⟩|refine⟨_,rfl,?_⟩|refine And.intro (by first|omega|trivial|(show _=_;rfl)|(with_reducible constructor)<;>first|omega|trivial|rfl) ?_|refine (zI2 _ _ hh.ty (by omega)) _ _ ?_|refine (zI2 _ _ hh.re (by omega)) _ _ ?_|refine hS _ _ ?_|fail
 rename_i N1 hN1 x N2 hN2 hx hox _ _ N3 hN3 y N4 hN4 hy hoy _ _ N5 hN5 a' es' c' N6 hN6 hes' hos _ _ N7 hN7
 refine hQ _ _ (by omega) (Tm.is_mk.2 ⟨_,_,_,_,_,_,_,rfl,⟨hh.nm,hh.ot,Ty.is_cells hx,Ty.is_cells hy⟩,by have:=hes'.len;omega,hes'⟩) ?_
 exact zD7 (vH (vH (vH (vH (yv ((tR hx hox).mono hN1 hN3) (yv ((tR hy hoy).mono (Nat.le_refl _) hN5) ((xY hos).mono (Nat.le_refl _) hN7) (by omega) (by omega)) (by omega) (by omega))))))
theorem p3 (t:Ty) (d e:D) (hd:t.Is d) (he:t.Is e):vb 53 [.dg 2 d,.dg 2 e] true:=fun N Q hQ=>zEH t t d e hd he N Q fun N' h=>Qb (hQ N' h) ((rl t t).2 rfl).symm
theorem zDr:∀ (t:Tm) (d e:D),t.Is d→t.Is e→vb 12 [.dg 9 d,.dg 9 e] true:=by
 refine Tm.ind fun k nm ot m ty re l ih d e hd he N Q hQ=>?_
 obtain ⟨t0,t1,r0,r1,a,es,c,rfl,hh,hlen,hes⟩:=Tm.is_mk.1 hd
 obtain ⟨u0,u1,v0,v1,b,fs,c',rfl,hh',hlen',hfs⟩:=Tm.is_mk.1 he
 have hl:=hes.len
 have hl':=hfs.len
 have hS:vb 54 [.sv a 9 es c,.sv b 9 fs c'] true:=fun N Q hQ=>by
  have key:=up hes hlen (fun i xs=>∀ (N':Nat),N≤N'→yp Q N a es c b fs c' i N') ?_ ?_
  ·refine pP N _ _ _ _ _ _ Q fun _ _=>?_
   repeat' first|with_reducible intro _|simp only[Y1,Y2,Y3,Y4]|with_reducible refine X ?_ ?_|refine⟨_,_,_,rfl,?_⟩|refine⟨_,rfl,?_⟩|refine And.intro (by first|omega|trivial|(show _=_;rfl)|(with_reducible constructor)<;>first|omega|trivial|rfl) ?_|fail
   ·omega
   ·exact key N (Nat.le_refl _)
  ·intro i hlt hi N' hN'
   refine vN _ _ _ _ _ _ _ _ _ _ ?_
   repeat' first|with_reducible intro _|simp only[hlt,Y1,Y2,Y3,Y4]|with_reducible refine X ?_ ?_|refine⟨_,_,_,rfl,?_⟩|refine⟨_,rfl,?_⟩|refine And.intro (by first|omega|trivial|(show _=_;rfl)|(with_reducible constructor)<;>first|omega|trivial|rfl) ?_|fail
   exact hQ _ (by omega)
  ·intro i x xs hat _ ih2 N' hN'
   have hb:=hat.b
   refine vN _ _ _ _ _ _ _ _ _ _ ?_
   repeat' first|with_reducible intro _|simp only[hat.lt,hat.w,Int.toNat_natCast,Y1,Y2,Y3,Y4]|with_reducible refine X ?_ ?_|refine⟨_,_,_,rfl,?_⟩|refine⟨_,rfl,?_⟩|refine And.intro (by first|omega|trivial|(show _=_;rfl)|(with_reducible constructor)<;>first|omega|trivial|rfl) ?_|refine (ih x hat.m _ _ hat.r (hfs.get hat.g)) _ _ ?_|fail
   exact ih2 _ (by omega)
 refine zAy N _ _ Q fun _ _=>?_
 repeat' first|with_reducible intro _|simp only[Y1,Y2,Y3,Y4]|with_reducible refine X ?_ ?_|refine⟨_,_,_,rfl,?_⟩|refine⟨_,rfl,?_⟩|refine And.intro (by first|omega|trivial|(show _=_;rfl)|(with_reducible constructor)<;>first|omega|trivial|rfl) ?_|refine (p3 _ _ _ hh.ty hh'.ty) _ _ ?_|refine (p3 _ _ _ hh.re hh'.re) _ _ ?_|refine hS _ _ ?_|fail
 all_goals first | exact absurd rfl (by assumption) | skip
 all_goals exact hQ _ (by omega)
end Go.Proofs.YtmfjakahanbnlaaGreatDoor
