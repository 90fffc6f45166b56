/- Steps: the program's, of parts. -/
import Derived.Test.YtnpjpplbkoammaaGreatDoorYa
set_option linter.unusedVariables false
set_option linter.unusedSimpArgs false
namespace Go.Proofs.YtnpjpplbkoammaaGreatDoor
open Go Go.Proofs Go.Proofs.Tryz Go.IntWalk
theorem zJO {s:ByteArray} (h:0<zHu s):s=bytes [43]∨s=bytes [45]∨s=bytes [42]∨s=bytes [61]∨s=bytes [60]∨s=bytes [38]∨s=bytes [124]∨s=bytes [33]:=by
 unfold zHu at h
 (repeat' split at h)<;>first | exact absurd h (by decide) | simp [*]
theorem zJ6 {s:ByteArray} (h:0<zHu s) {a b:Int} (ha:0≤a∧a≤10006) (hb:0≤b∧b≤10006):(zj s a b).2=true:=by
 have:=zJO h
 unfold zj
 rw [if_pos (xC.2 ha),if_pos (xC.2 hb)]
 (repeat' split)<;>first | rfl | (rcases this with h | h | h | h | h | h | h | h<;>contradiction)
def sD (s:ByteArray):Bool:=wq s||(decide (s=bytes [61])||decide (s=bytes [60]))
theorem zK6 {s:ByteArray} (h:0<zHu s):zDt s=if sD s then 3 else 2:=by
 rcases zJO h with h | h | h | h | h | h | h | h<;>subst h<;>decide +kernel
theorem zEl (s:ByteArray):ub 145 [.str s] (wq s):=fun N Q hQ=>
 zBe N s Q (Br.str (fun e1 N1 hN1=>Qb (hQ _ hN1) (by simp [wq,e1])) fun e1=>Br.str (fun e2 N1 hN1=>Qb (hQ _ hN1) (by simp [wq,e2])) fun e2 N1 hN1=>Qb (hQ _ hN1) (by simp [wq,e1,e2,rG]))
theorem zIk (s:ByteArray):ub 148 [.str s] (sD s):=fun N Q hQ=>
 zBJ N s Q fun N1 hN1=>zEl s N1 _ fun N2 hN2 _=>Br.of (fun e0 N3 hN3=>Qb (hQ _ (by omega)) (by simp [sD,e0])) fun e0=>Br.str (fun e1 N3 hN3=>Qb (hQ _ (by omega)) (by simp [sD,e1])) fun e1 N3 hN3=>Qb (hQ _ (by omega)) (by simp [sD,e0,e1,rG])
theorem zLH (n:Int) (b:Bool) (N:Nat) (Q:QT [.ag 9]) (hQ:∀ d N',N≤N'→(zMl (if b then 3 else 2) n).Is d→Q d N'):ACalls prog 147 [.ag 9] [.int .i64 n,.bool b] N Q:=by
 refine zD4 N n b Q (Br.of (fun h N1 hN1=>hQ _ _ hN1 (by rw [h];exact zFE)) fun h N2 hN2=>zHc N2 n _ fun N3 hN3 _ _ N4 hN4=>hQ _ _ (by omega) (by rw [h];exact zFE))
def zPJ (f:FuncId) (args:List PV) (r:Tm × Bool):Prop:=∀ (N:Nat) (Q:QT [.ag 9,.bool]),(∀ d N',N≤N'→r.1.Is d→Q d r.2 N')→ACalls prog f [.ag 9,.bool] args N Q
theorem rv:tm0.Is (.ag [.lit (.int .i64 0),.lit (.string (bytes [])),.lit (.string (bytes [])),.lit (.int .i64 0),.lit (.int .i64 0),.sl none 2 [] 0,.lit (.int .i64 0),.sl none 2 [] 0,.sl none 9 [] 0]):=
 Tm.is_mk.2 ⟨_,_,_,_,_,_,_,rfl,⟨by decide,by decide,sF _,sF _⟩,by simp,rfl⟩
theorem zQu {n0:Int} {nm ot:ByteArray} {ty re:Ty} {l:List Tm} (h:(Tm.mk 4 nm ot n0 ty re l).ok=true):0<zHu nm:=by
 simp only [Tm.ok,Bool.and_eq_true,zK,xU] at h
 have:=h.2.1.2.2.2.2.2
 rw [if_pos trivial,Bool.and_eq_true] at this
 simpa using this.1
theorem zKw {e:Tm} (h:e.ok=true) (hk:e.kd=2∨e.kd=3):0≤e.no∧e.no≤10006:=by
 cases e with
 | mk k nm ot n ty re l=>
 simp only [Tm.kd] at hk
 simp only [Tm.ok,Bool.and_eq_true,zK,inB] at h
 simp only [Tm.no]
 rcases hk with rfl | rfl
 ·have:=h.2.1.2.2.2.2.1
  simp at this;omega
 ·have:=h.2.1.2.2.2.2.1
  simp at this;omega
theorem zGt (s:ByteArray):yA s=2∨yA s=3:=by unfold yA;split<;>simp
/-- what an operation of literals gives -/
def zN2 (nm:ByteArray) (l:List Tm):Tm × Bool:=if l.all (fun x=>x.kd==yA nm) then (zMl (zDt nm) (zj nm (l.getD 0 tm0).no (l.getD 1 tm0).no).1,true) else (tm0,false)
theorem zLd {n0:Int} {nm ot:ByteArray} {ty re:Ty} {l:List Tm} {d:D} (hd:(Tm.mk 4 nm ot n0 ty re l).Is d) (hok:(Tm.mk 4 nm ot n0 ty re l).ok=true):zPJ 111 [.dg 9 d] (zN2 nm l):=fun N Q hQ=>by
 obtain ⟨t0,t1,r0,r1,a,es,c,rfl,hh,hlen,hes⟩:=Tm.is_mk.1 hd
 have hl:=hes.len
 have hop:=zQu hok
 have hl2:l.length≤2:=by
  have h1:=(yv hok).2.2.2.2 rfl
  have h2:=zLy nm
  omega
 have hparts:∀ x∈l,x.ok=true:=by
  simp only [Tm.ok,Bool.and_eq_true] at hok
  have h5:∀ {l:List Tm},u6 l=true→∀ x∈l,x.ok=true:=fun {l}=>by
   induction l with
   | nil=>intro _ x hx;simp at hx
   | cons t ts ih=>
     intro h x hx
     simp only [u6,Bool.and_eq_true] at h
     rcases List.mem_cons.1 hx with rfl | hx
     ·exact h.1
     ·exact ih h.2 x hx
  exact h5 hok.1
 have loop:∀ N',N≤N'→yK Q N (yA nm) 2 2 a es c es.length 0 (.ag [.lit (.int .i64 4),.lit (.string nm),.lit (.string ot),.lit (.int .i64 n0),t0,t1,r0,r1,.sl a 9 es c]) 0 (bytes []) (bytes []) 0 0 none [] 0 0 none [] 0 none [] 0 [.lit (.int .i64 0),.lit (.int .i64 0)] 2 N':=fun N' hN'=>by
  refine up hes hlen (fun i xs=>∀ N',N≤N'→(∀ j x,j<i→l[j]?=some x→x.kd=yA nm)→yK Q N (yA nm) 2 2 a es c es.length i (.ag [.lit (.int .i64 4),.lit (.string nm),.lit (.string ot),.lit (.int .i64 n0),t0,t1,r0,r1,.sl a 9 es c]) 0 (bytes []) (bytes []) 0 0 none [] 0 0 none [] 0 none [] 0 (zDQ l i) 2 N') ?_ ?_ N' hN' (fun j x h=>absurd h (by omega))
  ·intro i hlt hi N' hN' hk
   have hall:∀ x∈l,x.kd=yA nm:=fun x hx=>by
    obtain ⟨j,hj⟩:=List.mem_iff_getElem?.1 hx
    exact hk j x (by have:=(List.getElem?_eq_some_iff.1 hj).1;omega) hj
   have hin:i=l.length:=by omega
   have hr:∀ j,0≤(l.getD j tm0).no∧(l.getD j tm0).no≤10006:=fun j=>by
    by_cases hj:j<l.length
    ·have hm:=zG hj
     refine zKw (hparts _ hm) ?_
     rw [hall _ hm];exact zGt nm
    ·rw [zBU (by omega)];decide
   have hq:zN2 nm l=(zMl (zDt nm) (zj nm (l.getD 0 tm0).no (l.getD 1 tm0).no).1,true):=by
    unfold zN2
    rw [if_pos (List.all_eq_true.2 fun x hx=>by rw [hall x hx];exact beq_self_eq_true _)]
   rw [hq] at hQ
   refine tU _ _ _ _ _ _ _ _ _ _ _ _ _ _ _ _ _ _ _ _ _ _ _ _ _ _ _ _ _ ?_
   rw [hlt,hin,zJM hl2]
   refine ⟨_,rfl,⟨⟨by omega,by omega,by simp⟩,by simp,_,rfl,⟨by omega,by omega,by simp⟩,by simp,_,rfl,fun N2 hN2=>zDY _ _ _ N2 _ fun N3 hN3 _=>⟨_,rfl,fun N4 hN4=>zIk _ N4 _ fun N5 hN5 _ N6 hN6=>zLH _ _ N6 _ fun x N7 hN7 hx _ _ N8 hN8=>?_⟩⟩⟩
   rw [zJ6 hop (hr 0) (hr 1)]
   rw [←zK6 hop] at hx
   exact hQ _ _ (by omega) hx
  ·intro i x xs hat hxs ih2 N' hN' hk
   have hb:=hat.b
   have hx:=hat.r
   have hgx:l.getD i tm0=x:=by rw [List.getD_eq_getElem?_getD,hat.g];rfl
   refine tU _ _ _ _ _ _ _ _ _ _ _ _ _ _ _ _ _ _ _ _ _ _ _ _ _ _ _ _ _ ?_
   rw [hat.lt,Int.toNat_natCast,hat.w]
   cases x with
   | mk pk pn po pm pt pr pl=>
   obtain ⟨u0,u1,v0,v1,a2,es2,c2,heq,hh2,hlen2,hes2⟩:=Tm.is_mk.1 hx
   rw [heq]
   refine ⟨⟨by omega,by omega⟩,_,rfl,Br.bne (fun hne N1 hN1=>?_) fun he=>⟨_,rfl,⟨by omega,by omega,by simp only [zDQ,List.length_cons,List.length_nil];omega⟩,by simp only [zDQ,List.length_cons,List.length_nil];omega,?_⟩⟩
   ·have hq:zN2 nm l=(tm0,false):=by
     unfold zN2
     rw [if_neg fun hc=>hne (by have:=List.all_eq_true.1 hc _ hat.m;exact (by simpa using this:(Tm.mk pk pn po pm pt pr pl).kd=yA nm))]
    rw [hq] at hQ
    exact hQ _ _ (by omega) rv
   ·rw [Nat.zero_add]
    have hns:=zI9 (l:=l) (i:=i) (by omega)
    rw [hgx] at hns
    simp only [Tm.no] at hns
    rw [hns]
    refine ih2 _ hN' fun j y hj hy=>?_
    by_cases hji:j<i
    ·exact hk j y hji hy
    ·have:j=i:=by omega
     subst this
     rw [hat.g] at hy
     rw [←Option.some.inj hy];exact he
 refine zDa N _ Q fun _=>⟨_,rfl,fun N1 hN1=>zEl nm N1 _ fun N2 hN2 _=>Br.of (fun h=>⟨_,_,_,rfl,?_⟩) fun h=>⟨_,_,_,rfl,?_⟩⟩
 ·have:=loop N2 (by omega)
  rw [show yA nm=3 by unfold yA;rw [if_pos h]] at this
  exact this
 ·have:=loop N2 (by omega)
  rw [show yA nm=2 by unfold yA;rw [if_neg (by rw [h];decide)]] at this
  exact this
theorem zBy {k n m:Int} {c1 c2 c4 c5 c6 c7 c8:D}:ub 144 [.dg 9 (.ag [.lit (.int .i64 k),c1,c2,.lit (.int .i64 n),c4,c5,c6,c7,c8]),.int .i64 m] (!(k==11&&m==1)):=fun N Q hQ=>
 ra N _ m Q fun _=>⟨_,rfl,Br.bne (fun h N1 hN1=>Qb (hQ _ hN1) (by simp [h])) fun h N1 hN1=>Qb (hQ _ hN1) (by rw [h];simp [bne])⟩
theorem zLm:∀ (t:Tm) (d:D),t.Is d→∀ m:Int,LvIn m t.dp→ub 73 [.dg 9 d,.int .i64 m,.fn 144 []] (t.made m):=by
 refine Tm.ind fun k nm ot n ty re l ih d hd m hm N Q hQ=>?_
 obtain ⟨t0,t1,r0,r1,a,es,c,rfl,hh,hlen,hes⟩:=Tm.is_mk.1 hd
 have hl:=hes.len
 refine zAc N _ m Q fun _ N1 hN1=>zBy N1 _ fun N2 hN2 _=>Br.not (fun hv N3 hN3=>Qb (hQ _ (by omega)) (by simp only [Tm.made,hv,Bool.false_and])) fun hv=>⟨_,_,_,rfl,?_⟩
 refine up hes hlen (fun i xs=>∀ (N':Nat),N≤N'→(∀ N'',N'≤N''→Q (yr xs (zS k m)) N'')→xg Q N m a es c es.length i (.ag [.lit (.int .i64 k),.lit (.string nm),.lit (.string ot),.lit (.int .i64 n),t0,t1,r0,r1,.sl a 9 es c]) N') ?_ ?_ N2 (by omega) fun N'' h=>Qb (hQ N'' (by omega)) (by simp only [Tm.made,hv,Bool.true_and])
 ·intro i hlt _ N' hN' hQ'
  refine te _ _ _ _ _ _ _ _ _ _ ?_
  repeat' first|with_reducible intro _|simp only[hlt,Y1,Y2,Y3,Y4]|(with_reducible first|refine X1 ?_ ?_|refine X2 ?_ ?_|refine X3 ?_ ?_|refine X4 ?_ ?_|refine X5 ?_ ?_|refine X6 ?_ ?_|refine X7 ?_ ?_|refine X8 ?_ ?_|refine X9 ?_ ?_)|refine⟨_,_,_,rfl,?_⟩|refine⟨_,rfl,?_⟩|((with_reducible refine And.intro ?_ ?_);·first|omega|trivial|(show _=_;rfl)|((with_reducible refine And.intro ?_ ?_)<;>first|omega|trivial|(show _=_;rfl)))|fail
  exact Qb (hQ' _ (by omega)) (by simp [yr])
 ·intro i x xs hat _ ih2 N' hN' hQ'
  have hb2:=hat.b
  refine te _ _ _ _ _ _ _ _ _ _ ?_
  repeat' first|with_reducible intro _|simp only[hat.lt,hat.w,Int.toNat_natCast,Y1,Y2,Y3,Y4]|(with_reducible first|refine X1 ?_ ?_|refine X2 ?_ ?_|refine X3 ?_ ?_|refine X4 ?_ ?_|refine X5 ?_ ?_|refine X6 ?_ ?_|refine X7 ?_ ?_|refine X8 ?_ ?_|refine X9 ?_ ?_)|refine⟨_,_,_,rfl,?_⟩|refine⟨_,rfl,?_⟩|((with_reducible refine And.intro ?_ ?_);·first|omega|trivial|(show _=_;rfl)|((with_reducible refine And.intro ?_ ?_)<;>first|omega|trivial|(show _=_;rfl)))|refine (uQ hm.b) _ _ ?_|refine (ih x hat.m _ hat.r _ (hm.next (dp_mem hat.m))) _ _ ?_|fail
  ·refine Qb (hQ' _ (by omega)) ?_;simp [yr, *]
  ·exact ih2 _ (by omega) fun N'' h=>Qb (hQ' N'' (by omega)) (by simp [yr, *])
theorem zE1 {t:Tm} {d:D} (hd:t.Is d) (hc:t.cnt≤1073741824) {m:Int} (hm:LvIn m t.dp):ub 108 [.dg 9 d,.int .i64 m] (zCj t m&&t.made m):=fun N Q hQ=>
 pH N _ m Q fun _ N1 hN1=>s8 t d hd hc m N1 _ fun N2 hN2 _=>Br.of (fun hv N3 hN3=>zLm t d hd m hm N3 _ fun N4 hN4 _ N5 hN5=>Qb (hQ _ (by omega)) (by rw [hv];simp)) fun hv N3 hN3=>Qb (hQ _ (by omega)) (by rw [hv];simp)
theorem wc {e:Tm} {d:D} (he:e.Is d) (hok:e.ok=true) (hc:e.cnt≤1073741824):ub 76 [.dg 9 d] e.res:=fun N Q hQ=>by
 cases e with
 | mk k nm ot n0 ty re l=>
 have hI:=tE _ d he hc
 rw [hok] at hI
 obtain ⟨t0,t1,r0,r1,a,es,c,rfl,hh,hlen,hes⟩:=Tm.is_mk.1 he
 have hl:=hes.len
 refine zCB N _ Q fun _=>⟨_,rfl,?_⟩
 refine Br.beq (fun h2 N1 hN1=>hI N1 _ fun N2 hN2 _ N3 hN3=>Qb (hQ _ (by omega)) (by simp [Tm.res,zIX,Tm.kd,h2])) fun h2=>?_
 refine Br.beq (fun h3 N1 hN1=>hI N1 _ fun N2 hN2 _ N3 hN3=>Qb (hQ _ (by omega)) (by simp [Tm.res,zIX,Tm.kd,h3])) fun h3=>?_
 refine Br.beq (fun h6 N1 hN1=>hI N1 _ fun N2 hN2 _ N3 hN3=>Qb (hQ _ (by omega)) (by simp [Tm.res,zIX,Tm.kd,h6])) fun h6=>?_
 refine Br.beq (fun h9 N1 hN1=>hI N1 _ fun N2 hN2 _ N3 hN3=>Qb (hQ _ (by omega)) (by simp [Tm.res,zIX,Tm.kd,h9])) fun h9=>?_
 refine Br.beq (fun h10 N1 hN1=>?_) fun h10 N1 hN1=>Qb (hQ _ hN1) (by simp [Tm.res,zIX,Tm.kd,h2,h3,h6,h9,h10])
 subst h10
 have hl1:=(yv hok).1 (by omega)
 refine hI N1 _ fun N2 hN2 _=>Br.of (fun _=>?_) fun h=>absurd h (by decide)
 cases l with
 | nil=>simp at hl1
 | cons p ls=>
 cases ls with
 | cons _ _=>simp at hl1
 | nil=>
 have hdc:=Tm.dp_cnt p
 have hpo:p.ok=true:=by
  simp only [Tm.ok,u6,Bool.and_eq_true] at hok
  exact hok.1.1
 simp only [Tm.cnt,zg] at hc
 refine ⟨_,_,_,rfl,⟨by omega,by omega⟩,fun N3 hN3=>?_⟩
 refine zE1 (zZ hes (j:=0) (by simp)) (by simp only [List.getD_cons_zero];omega) (m:=1) (by unfold LvIn;simp only [List.getD_cons_zero];omega) N3 _ fun N4 hN4 _ N5 hN5=>Qb (hQ _ (by omega)) ?_
 simp only [List.getD_cons_zero,Tm.res,zIX,Tm.kd,Tm.lev,sS,zS,Tm.pt,zCj,hpo]
 simp [inB]
theorem rS {e:Tm} {d:D} (he:e.Is d) (hok:e.ok=true) (hc:e.cnt≤1073741824):zPJ 109 [.dg 9 d] (if e.kd=10∧e.res=true then (e.pt 0,true) else (tm0,false)):=fun N Q hQ=>by
 cases e with
 | mk k nm ot n0 ty re l=>
 have hR:=wc he hok hc
 have hG:=Tm.G_cnt _ hc
 obtain ⟨t0,t1,r0,r1,a,es,c,rfl,hh,hlen,hes⟩:=Tm.is_mk.1 he
 have hl:=hes.len
 refine zCa N _ Q fun _=>⟨_,rfl,Br.bne (fun h10 N1 hN1=>?_) fun h10 N2 hN2=>hR N2 _ fun N3 hN3 _=>Br.not (fun hv N4 hN4=>?_) fun hv=>?_⟩
 ·rw [if_neg (fun h=>h10 h.1)] at hQ
  exact hQ _ _ hN1 rv
 ·rw [if_neg (fun h=>by rw [hv] at h;exact absurd h.2 (by decide))] at hQ
  exact hQ _ _ (by omega) rv
 ·rw [if_pos ⟨h10,hv⟩] at hQ
  have hl1:=(yv hok).1 (by omega)
  refine ⟨_,_,_,rfl,⟨by omega,by omega⟩,fun N5 hN5=>?_⟩
  exact zHj uj (zZ hes (j:=0) (by omega)) (yU hG.2.2.2 (zG (by omega))) (N0:=N) (by omega) (fun d N=>Q d true N) fun d' N7 hN7 hd' _=>hQ _ _ (by omega) hd'
theorem zMt {e:Tm} {d:D} (he:e.Is d) (hok:e.ok=true) (hc:e.cnt≤1073741824):zPJ 113 [.dg 9 d] (if e.kd=2∨e.kd=3 then (Tm.nod 10 [e],true) else (tm0,false)):=fun N Q hQ=>by
 cases e with
 | mk k nm ot n0 ty re l=>
 have hI:=tE _ d he hc
 rw [hok] at hI
 have hG:=Tm.G_cnt _ hc
 have he0:=he
 obtain ⟨t0,t1,r0,r1,a,es,c,rfl,hh,hlen,hes⟩:=Tm.is_mk.1 he
 have hl:=hes.len
 have fin:(Tm.mk k nm ot n0 ty re l).kd=2∨(Tm.mk k nm ot n0 ty re l).kd=3→∀ N2,N≤N2→∀ N3,N2≤N3→ACalls prog 40 [.pk,.int .i64,.str,.str,.int .i64,.dc,.dc,.dc,.dc,.row 34 9] [.dg 9 (.ag [.lit (.int .i64 k),.lit (.string nm),.lit (.string ot),.lit (.int .i64 n0),t0,t1,r0,r1,.sl a 9 es c])] N3
   (fun n s s_1 n_1 x x_1 x_2 x_3 es c N4=>N3≤N4→Bel N4 (D.ag es)→(es.length=es.length∧c=c)∧∀ a N5,N4≤N5→Fresh N N5 a [D.ag es]→(1=([D.ag [D.lit (.int .i64 n),D.lit (.string s),D.lit (.string s_1),D.lit (.int .i64 n_1),x,x_1,x_2,x_3,D.sl a 9 es c]]).length∧1=1) ∧
    ∀ a_1 N6,N5≤N6→Fresh N N6 a_1 [D.ag [D.ag [D.lit (.int .i64 n),D.lit (.string s),D.lit (.string s_1),D.lit (.int .i64 n_1),x,x_1,x_2,x_3,D.sl a 9 es c]]]→∀ N7,N6≤N7→ACalls prog 152 [.ag 9] [.int .i64 10,.sv a_1 9 [D.ag [D.lit (.int .i64 n),D.lit (.string s),D.lit (.string s_1),D.lit (.int .i64 n_1),x,x_1,x_2,x_3,D.sl a 9 es c]] 1] N7
      (fun x_4 N8=>N7≤N8→Bel N8 x_4→∀ N9,N8≤N9→Q x_4 true N9)):=fun hk N2 hN2 N3 hN3=>by
  rw [if_pos hk] at hQ
  refine uj _ _ he0 hG N3 _ ?_
  intro x4 x5 x6 x7 es' c' N4 hN4 hh' hes' ho' _ _
  have hl':=hes'.len
  have hgl:=hG.2.2.1
  refine ⟨⟨rfl,rfl⟩,fun a1 N5 hN5 _=>⟨⟨rfl,rfl⟩,fun a2 N6 hN6 _ N7 hN7=>pR N7 10 a2 _ 1 _ fun _ N8 hN8 _ _ N9 hN9=>hQ _ _ (by omega) ?_⟩⟩
  exact Tm.is_mk.2 ⟨_,_,_,_,_,_,_,rfl,⟨by decide,by decide,sF _,sF _⟩,by simp,_,[],rfl,Tm.is_mk.2 ⟨_,_,_,_,_,_,_,rfl,hh',by omega,hes'⟩,rfl⟩
 refine zEv N _ Q fun _=>⟨_,rfl,Br.bne (fun h2=>⟨_,rfl,Br.bne (fun h3 N1 hN1=>?_) fun h3 N2 hN2=>hI N2 _ fun N3 hN3 _=>Br.not (fun h=>absurd h (by decide)) fun _=>fin (.inr h3) N3 (by omega)⟩) fun h2 N2 hN2=>hI N2 _ fun N3 hN3 _=>Br.not (fun h=>absurd h (by decide)) fun _=>fin (.inl h2) N3 (by omega)⟩
 rw [if_neg (fun h=>h.elim h2 h3)] at hQ
 exact hQ _ _ hN1 rv
theorem zBS {e b:Tm} {d db:D} (he:e.Is d) (hb:b.Is db) (x:ByteArray) (h1:e.Z) (h2:b.Z):zPA 112 [.dg 9 d,.str x,.dg 9 db] (e.sb x b):=zEm e.dp e d x b db he hb (Nat.le_refl _) h1 h2
theorem zM9 {n0:Int} {nm ot:ByteArray} {ty re:Ty} {l:List Tm}:(Tm.mk 4 nm ot n0 ty re l).opr l=if (zN2 nm l).2=true then ((zN2 nm l).1,1) else (Tm.mk 4 nm ot n0 ty re l,0):=by
 unfold Tm.opr zN2
 by_cases hc:(l.all fun x=>x.kd==yA nm)=true
 ·rw [if_pos hc,if_pos (show (l.all fun x=>x.kd==yA (Tm.mk 4 nm ot n0 ty re l).nm)=true from hc),if_pos rfl];rfl
 ·rw [if_neg hc,if_neg (show ¬(l.all fun x=>x.kd==yA (Tm.mk 4 nm ot n0 ty re l).nm)=true from hc),if_neg (by decide)]
/-- the rule of a form whose parts are results -/
theorem zMD {k n0:Int} {nm ot:ByteArray} {ty re:Ty} {l:List Tm} {d:D} {f:Nat} (hd:(Tm.mk k nm ot n0 ty re l).Is d) (hF:(Tm.mk k nm ot n0 ty re l).F (f+1)) (hres:k=12→(l.getD 0 tm0).res=true) :
  zKG 80 [.dg 9 d] (Tm.mk k nm ot n0 ty re l).apl:=fun N Q hQ=>by
 have hd0:=hd
 obtain ⟨t0,t1,r0,r1,a,es,c,rfl,hh,hlen,hes⟩:=Tm.is_mk.1 hd
 have hl:=hes.len
 have hok:=hF.ok
 have oper:k=4→∀ N1,N≤N1→ACalls prog 111 [.ag 9,.bool] [.dg 9 (.ag [.lit (.int .i64 k),.lit (.string nm),.lit (.string ot),.lit (.int .i64 n0),t0,t1,r0,r1,.sl a 9 es c])] N1 (fun x b N2=>N1≤N2→Bel N2 x→Br b (∀ N3,N2≤N3→Q x 1 N3) (∀ N4,N2≤N4→Q (.ag [.lit (.int .i64 k),.lit (.string nm),.lit (.string ot),.lit (.int .i64 n0),t0,t1,r0,r1,.sl a 9 es c]) 0 N4)):=fun h4 N1 hN1=>by
  subst h4
  simp only [Tm.apl] at hQ
  rw [if_pos trivial,zM9] at hQ
  refine zLd hd0 hok N1 _ fun dx N2 hN2 hx _ _=>Br.of (fun hv N3 hN3=>?_) fun hv N4 hN4=>?_
  ·rw [if_pos hv] at hQ;exact hQ _ _ (by omega) hx
  ·rw [if_neg (by rw [hv];decide)] at hQ;exact hQ _ _ (by omega) hd0
 refine zHU N _ Q fun _=>⟨_,_,_,rfl,Br.dec (fun hpos=>⟨_,_,_,rfl,⟨by omega,by omega⟩,_,rfl,?_⟩) fun hneg=>⟨_,rfl,?_⟩⟩
 ·have hl1:0<l.length:=by omega
  have hp0:=zZ hes hl1
  have hFp:=hF.mem _ (zG hl1)
  have hcp:=hFp.c
  refine Br.beq (fun h4=>oper h4) fun h4=>?_
  simp only [Tm.apl] at hQ
  rw [if_neg h4] at hQ
  generalize hpp:l.getD 0 tm0=p at hp0 hFp hQ hres hcp
  have hp1:=hp0
  have hno:=fun h=>zH6 hFp.ok h
  have hCP:=rS hp1 hFp.ok (by omega)
  have hLO:=zMt hp1 hFp.ok (by omega)
  cases p with
  | mk pk pn po pm pt pr pl=>
  obtain ⟨u0,u1,v0,v1,a2,es2,c2,heq,hh2,hlen2,hes2⟩:=Tm.is_mk.1 hp0
  have hl3:=hes2.len
  simp only [Tm.kd,Tm.no] at hno
  rw [heq] at hp1 hCP hLO ⊢
  have one:(pk=6∨pk=9)→pl.length=1:=fun h=>(yv hFp.ok).1 (by omega)
  have hF1:pl.length=1→(pl.getD 0 tm0).F f:=fun h=>((hFp.up (g:=f+1) (by omega)).mem _ (zG (l:=pl) (i:=0) (by omega)))
  refine Br.beq (fun h5=>⟨_,rfl,Br.beq (fun h3=>?_) fun h3 N9 hN9=>?_⟩) fun h5=>Br.beq (fun h7=>⟨_,rfl,Br.beq (fun h6=>?_) fun h6=>Br.beq (fun h9=>?_) fun h9 N18 hN18=>?_⟩) fun h7=>Br.beq (fun h8=>?_) fun h8=>Br.beq (fun h12 N22 hN22=>?_) fun h12=>Br.beq (fun h13 N26 hN26=>?_) fun h13 N30 hN30=>?_
  ·rw [if_pos h5,if_pos (show (Tm.mk pk pn po pm pt pr pl).kd=3 from h3)] at hQ
   have hl5:=(yv hok).2.2.1 h5
   have hn:=hno h3
   have hw:IntKind.i64.wrap (2 - pm)=2 - pm:=i64_in _ (by omega)
   refine ⟨_,_,_,rfl,_,rfl,?_⟩
   rw [hw]
   refine ⟨⟨by omega,by omega⟩,fun N6 hN6=>?_⟩
   exact zHj uj (zZ hes (j:=(2 - pm).toNat) (by omega)) (yU hF.z.g.2.2.2 (zG (by omega))) (N0:=N) (by omega) (fun d N=>Q d 2 N) fun d' N7 hN7 hd' _=>hQ _ _ (by omega) hd'
  ·rw [if_pos h5,if_neg (show ¬(Tm.mk pk pn po pm pt pr pl).kd=3 from h3)] at hQ
   exact hQ _ _ (by omega) hd0
  ·have hl7:=(yv hok).2.1 (.inl h7)
   have h1:=one (.inl h6)
   rw [if_neg h5,if_pos h7,if_pos (show (Tm.mk pk pn po pm pt pr pl).kd=6 from h6)] at hQ
   refine ⟨_,_,_,rfl,⟨by omega,by omega⟩,_,rfl,_,_,_,rfl,⟨by omega,by omega⟩,fun N6 hN6=>?_⟩
   exact zBS (zZ hes2 (j:=0) (by omega)) (zZ hes (j:=1) (by omega)) pn (hF1 h1).z (hF.mem _ (zG (i:=1) (by omega))).z N6 _ fun dx N7 hN7 hx _ _ _ N8 hN8=>hQ _ _ (by omega) hx
  ·have hl7:=(yv hok).2.1 (.inl h7)
   have h1:=one (.inr h9)
   rw [if_neg h5,if_pos h7,if_neg (show ¬(Tm.mk pk pn po pm pt pr pl).kd=6 from h6),if_pos (show (Tm.mk pk pn po pm pt pr pl).kd=9 from h9)] at hQ
   refine ⟨_,_,_,rfl,⟨by omega,by omega⟩,_,rfl,_,rfl,_,_,_,rfl,⟨by omega,by omega⟩,fun N9 hN9=>?_⟩
   refine zBS (zZ hes2 (j:=0) (by omega)) hp1 pn (hF1 h1).z hFp.z N9 _ fun dx N10 hN10 hx _ _ _ N11 hN11=>?_
   exact zBS hx (zZ hes (j:=1) (by omega)) po (zRQ (hF1 h1) hFp) (hF.mem _ (zG (i:=1) (by omega))).z N11 _ fun dy N12 hN12 hy _ _ _ N13 hN13=>hQ _ _ (by omega) hy
  ·rw [if_neg h5,if_pos h7,if_neg (show ¬(Tm.mk pk pn po pm pt pr pl).kd=6 from h6),if_neg (show ¬(Tm.mk pk pn po pm pt pr pl).kd=9 from h9)] at hQ
   exact hQ _ _ (by omega) hd0
  ·have hl8:=(yv hok).2.1 (.inr h8)
   rw [if_neg h5,if_neg h7,if_pos h8] at hQ
   refine ⟨_,_,_,rfl,⟨by omega,by omega⟩,_,rfl,fun N6 hN6=>?_⟩
   exact zBS (zZ hes (j:=1) (by omega)) hp1 nm (hF.mem _ (zG (i:=1) (by omega))).z hFp.z N6 _ fun dx N7 hN7 hx _ _ _ N8 hN8=>hQ _ _ (by omega) hx
  ·rw [if_neg h5,if_neg h7,if_neg h8,if_pos h12] at hQ
   have hr:=hres h12
   refine hCP N22 _ fun dx N23 hN23 hx _ _=>Br.of (fun hv N24 hN24=>?_) fun hv N25 hN25=>?_
   ·by_cases h10:(Tm.mk pk pn po pm pt pr pl).kd=10
    ·rw [if_pos ⟨h10,hr⟩] at hx
     rw [if_pos h10] at hQ
     exact hQ _ _ (by omega) hx
    ·rw [if_neg (fun h=>h10 h.1)] at hv
     first | exact absurd (show true=false from hv) (by decide) | exact absurd (show false=true from hv) (by decide)
   ·by_cases h10:(Tm.mk pk pn po pm pt pr pl).kd=10
    ·rw [if_pos ⟨h10,hr⟩] at hv
     first | exact absurd (show true=false from hv) (by decide) | exact absurd (show false=true from hv) (by decide)
    ·rw [if_neg h10] at hQ
     exact hQ _ _ (by omega) hd0
  ·rw [if_neg h5,if_neg h7,if_neg h8,if_neg h12,if_pos h13] at hQ
   refine hLO N26 _ fun dx N27 hN27 hx _ _=>Br.of (fun hv N28 hN28=>?_) fun hv N29 hN29=>?_
   ·by_cases h2:(Tm.mk pk pn po pm pt pr pl).kd=2∨(Tm.mk pk pn po pm pt pr pl).kd=3
    ·rw [if_pos h2] at hx hQ
     exact hQ _ _ (by omega) hx
    ·rw [if_neg h2] at hv
     first | exact absurd (show true=false from hv) (by decide) | exact absurd (show false=true from hv) (by decide)
   ·by_cases h2:(Tm.mk pk pn po pm pt pr pl).kd=2∨(Tm.mk pk pn po pm pt pr pl).kd=3
    ·rw [if_pos h2] at hv
     first | exact absurd (show true=false from hv) (by decide) | exact absurd (show false=true from hv) (by decide)
    ·rw [if_neg h2] at hQ
     exact hQ _ _ (by omega) hd0
  ·rw [if_neg h5,if_neg h7,if_neg h8,if_neg h12,if_neg h13] at hQ
   exact hQ _ _ (by omega) hd0
 ·have hl0:l.length=0:=by omega
  obtain ⟨a1,a2,a3,_,_⟩:=yv hok
  refine Br.beq (fun h4=>oper h4) fun h4=>Br.beq (fun h5=>by have:=a3 h5;omega) fun h5=>Br.beq (fun h7=>by have:=a2 (.inl h7);omega) fun h7=>Br.beq (fun h8=>by have:=a2 (.inr h8);omega) fun h8=>Br.beq (fun h12=>by have:=a1 (by omega);omega) fun h12=>Br.beq (fun h13=>by have:=a1 (by omega);omega) fun h13 N30 hN30=>?_
  simp only [Tm.apl] at hQ
  rw [if_neg h4,if_neg h5,if_neg h7,if_neg h8,if_neg h12,if_neg h13] at hQ
  exact hQ _ _ (by omega) hd0
theorem zEX {k n0:Int} {nm ot:ByteArray} {t0 t1 r0 r1:D} {a:Option Addr} {es:List D} {c:Nat}:qN 79 [.dg 9 (.ag [.lit (.int .i64 k),.lit (.string nm),.lit (.string ot),.lit (.int .i64 n0),t0,t1,r0,r1,.sl a 9 es c])] (wA k es.length:Nat):=fun N Q hQ=>by
 refine zCr N _ Q fun _=>⟨_,rfl,Br.beq (fun h4=>⟨_,_,_,rfl,fun N1 hN1=>Qi (hQ _ hN1) (by simp [wA,h4])⟩) fun h4=>Br.beq (fun h7=>⟨_,_,_,rfl,fun N1 hN1=>Qi (hQ _ hN1) (by simp [wA,h7])⟩) fun h7=>?_⟩
 refine Br.beq (fun h5 N1 hN1=>Qi (hQ _ hN1) (by simp [wA,h5])) fun h5=>Br.beq (fun h8 N1 hN1=>Qi (hQ _ hN1) (by simp [wA,h8])) fun h8=>Br.beq (fun h12 N1 hN1=>Qi (hQ _ hN1) (by simp [wA,h12])) fun h12=>Br.beq (fun h13 N1 hN1=>Qi (hQ _ hN1) (by simp [wA,h13])) fun h13 N1 hN1=>Qi (hQ _ hN1) (by simp [wA,h4,h7,h5,h8,h12,h13])
/-- a node with one other part -/
theorem zLY {t y:Tm} {d dy:D} (h:t.Is d) (hG:t.G) (hy:y.Is dy) (h1:t.as.length=1) {N0 N:Nat} {a1:Option Addr} (hb:w8 N [a1]) (Q':D→Nat→Prop) (hq:∀ d' N',N≤N'→(t.wth 0 y).Is d'→Q' d' N') :
  ACalls prog 78 [.pk,.int .i64,.str,.str,.int .i64,.dc,.dc,.dc,.dc,.bk 1] [.dg 9 d,.sv a1 9 [dy] 1] N (fun n s s_1 n_1 x_1 x_2 x_3 x_4 x_5 N7=>N≤N7→x_5=D.sl a1 9 [dy] 1∧Off [a1] x_1∧Off [a1] x_2∧Off [a1] x_3∧Off [a1] x_4∧(1=([dy]).length∧1=1)∧(1=([dy]).length∧1=1)∧(1=([dy]).length∧1=1) ∧
   ∀ a_2 N8,N7≤N8→Fresh N0 N8 a_2 [D.ag [dy],x_1,x_2,x_3,x_4]→∀ N9,N8≤N9→Q' (D.ag [D.lit (.int .i64 n),D.lit (.string s),D.lit (.string s_1),D.lit (.int .i64 n_1),x_1,x_2,x_3,x_4,D.sl a_2 9 [dy] 1]) N9):=by
 cases t with
 | mk k nm ot n0 ty re l=>
 obtain ⟨t0,t1,r0,r1,a,es,c,rfl,hh,hlen,hes⟩:=Tm.is_mk.1 h
 simp only [Tm.as] at h1
 obtain ⟨g1,g2,g3,g4⟩:=hG
 refine zFZ hh g1 g2 a1 [dy] 1 N _ fun x4 x5 x6 x7 N5 hN5 hh5 ho5 _=>⟨rfl,?_⟩
 have off:∀ y∈[x4,x5,x6,x7],Off [a1] y:=fun y hy a' ha' ad had hc=>by
  have h1:=hb a' ha' ad had
  have h2:=ho5.lo _ (zC.2 ⟨y,hy,hc⟩)
  omega
 refine ⟨off x4 (by simp),off x5 (by simp),off x6 (by simp),off x7 (by simp),⟨rfl,rfl⟩,⟨rfl,rfl⟩,⟨rfl,rfl⟩,fun a2 N8 hN8 _ N9 hN9=>hq _ _ (by omega) ?_⟩
 have hset:l.set 0 y=[y]:=by
  cases l with
  | nil=>simp at h1
  | cons p ls=>cases ls with
    | nil=>rfl
    | cons _ _=>simp at h1
 simp only [Tm.wth]
 rw [hset]
 exact Tm.is_mk.2 ⟨_,_,_,_,_,_,_,rfl,hh5,by simp,dy,[],rfl,hy,rfl⟩
/-- the first splice of level 1, by steps -/
theorem zAt {f:Nat} (hS:zOI 41 f):∀ (t:Tm) (d:D),t.Is d→t.F (f+1)→∀ m:Int,LvIn m t.dp→zOY 77 [.dg 9 d,.int .i64 m,.fn 41 []] (t.cod (Tm.stp f) m):=by
 refine Tm.ind fun k nm ot n0 ty re l ih d hd hF m hm N Q hQ=>?_
 have hd0:=hd
 obtain ⟨t0,t1,r0,r1,a,es,c,rfl,hh,hlen,hes⟩:=Tm.is_mk.1 hd
 have hl:=hes.len
 have loop:¬(k=11∧m=1)→yM Q N m a es c es.length 0 (.ag [.lit (.int .i64 k),.lit (.string nm),.lit (.string ot),.lit (.int .i64 n0),t0,t1,r0,r1,.sl a 9 es c]) 0 (bytes []) (bytes []) 0 0 none [] 0 0 none [] 0 none [] 0 N:=fun hne=>by
  simp only [Tm.cod] at hQ
  rw [if_neg hne] at hQ
  refine up hes hlen (fun i xs=>∀ N',N≤N'→(match zn (Tm.stp f) xs (zS k m) with | none=>zn (Tm.stp f) l (zS k m)=none | some (l',r)=>zn (Tm.stp f) l (zS k m)=some (l.take i++l',r)) →
   yM Q N m a es c es.length i (.ag [.lit (.int .i64 k),.lit (.string nm),.lit (.string ot),.lit (.int .i64 n0),t0,t1,r0,r1,.sl a 9 es c]) 0 (bytes []) (bytes []) 0 0 none [] 0 0 none [] 0 none [] 0 N') ?_ ?_ N (Nat.le_refl _) ?_
  ·intro i hlt hi N' hN' he
   simp only [zn] at he
   rw [he] at hQ
   refine tq _ _ _ _ _ _ _ _ _ _ _ _ _ _ _ _ _ _ _ _ _ _ _ _ _ ?_
   rw [hlt]
   exact fun N2 hN2=>hQ _ _ (by omega) hd0
  ·intro i x xs hat hxs ih2 N' hN' he
   have hb:=hat.b
   have hil:i<l.length:=(List.getElem?_eq_some_iff.1 hat.g).1
   refine tq _ _ _ _ _ _ _ _ _ _ _ _ _ _ _ _ _ _ _ _ _ _ _ _ _ ?_
   rw [hat.lt,hat.w]
   refine ⟨⟨by omega,by omega⟩,fun N1 hN1=>uQ hm.b N1 _ fun N2 hN2 _ N3 hN3=>?_⟩
   have hr:=hat.r
   rw [←Int.toNat_natCast i] at hr
   refine ih x hat.m _ hr ((hF.mem x hat.m).up (by omega)) _ (hm.next (dp_mem hat.m)) N3 _ fun dx N4 hN4 hx _ _=>Br.of (fun hv N5 hN5=>?_) fun hv=>?_
   ·simp only [zn] at he
    rw [if_pos hv] at he
    simp only at he
    rw [he] at hQ
    refine zO5 uj hd0 hF.z.g hx hil (N0:=N) (fun d N=>Q d (x.cod (Tm.stp f) (zS k m)).2.1 true N) fun d' N6 hN6 hd'=>hQ _ _ (by omega) ?_
    have:l.take i++(x.cod (Tm.stp f) (zS k m)).1::xs=l.set i (x.cod (Tm.stp f) (zS k m)).1:=by
     rw [List.set_eq_take_append_cons_drop,if_pos hil,hxs]
    simp only
    rw [this]
    exact hd'
   ·refine ih2 _ (by omega) ?_
    simp only [zn] at he
    rw [if_neg (by rw [hv];decide)] at he
    cases hc:zn (Tm.stp f) xs (zS k m) with
    | none=>rw [hc] at he;exact he
    | some p=>
      obtain ⟨l',r⟩:=p
      rw [hc] at he
      simp only at he ⊢
      rw [he,yu hat.g,List.append_assoc];rfl
  ·cases hc:zn (Tm.stp f) l (zS k m) with
   | none=>rfl
   | some p=>obtain ⟨l',r⟩:=p;simp
 refine zA1 N _ m Q fun _=>⟨_,rfl,Br.beq (fun h1=>Br.beq (fun h2=>?_) fun h2=>⟨_,_,_,rfl,loop fun h=>h2 h.2⟩) fun h1=>⟨_,_,_,rfl,loop fun h=>h1 h.1⟩⟩
 have hl1:=(yv hF.ok).1 (by omega)
 have hi0:0<l.length:=by omega
 have hm0:=zG hi0
 have hF0:=hF.mem _ hm0
 have hp0:=zZ hes hi0
 have hc0:=hF0.c
 simp only [Tm.cod] at hQ
 rw [if_pos ⟨h1,h2⟩] at hQ
 unfold zPI at hQ
 rw [zKx] at hQ
 refine ⟨_,_,_,rfl,⟨by omega,by omega⟩,fun N1 hN1=>wc hp0 hF0.ok (by omega) N1 _ fun N2 hN2 _=>Br.not (fun hr N3 hN3=>?_) fun hr N9 hN9=>?_⟩
 ·rw [if_neg (by rw [hr];decide)] at hQ
  refine hS _ _ hp0 hF0 N3 _ fun dx N4 hN4 hx _ _=>⟨⟨rfl,rfl⟩,fun a1 _ _ N5 hN5 hb=>?_⟩
  exact zLY hd0 hF.z.g hx hl1 hb (N0:=N) (fun d N=>Q d (Tm.stp f (l.getD 0 tm0)).2 true N) fun d' N6 hN6 hd'=>hQ _ _ (by omega) hd'
 ·rw [if_pos hr] at hQ
  refine rS hp0 hF0.ok (by omega) N9 _ fun dx N10 hN10 hx _ _=>Br.of (fun hv N11 hN11=>?_) fun hv N12 hN12=>?_
  ·by_cases h10:(l.getD 0 tm0).kd=10
   ·rw [if_pos ⟨h10,hr⟩] at hx
    rw [if_pos h10] at hQ
    exact hQ _ _ (by omega) hx
   ·rw [if_neg (fun h=>h10 h.1)] at hv
    first | exact absurd (show true=false from hv) (by decide) | exact absurd (show false=true from hv) (by decide)
  ·by_cases h10:(l.getD 0 tm0).kd=10
   ·rw [if_pos ⟨h10,hr⟩] at hv
    first | exact absurd (show true=false from hv) (by decide) | exact absurd (show false=true from hv) (by decide)
   ·rw [if_neg h10] at hQ
    exact hQ _ _ (by omega) hd0
theorem zEd:∀ f,zOI 41 f
 | 0=>fun e d _ hF=>absurd (Tm.dp_pos e) (by have:=hF.d;omega)
 | f + 1=>fun e d hd hF N Q hQ=>by
   have ih:=zEd f
   cases e with
   | mk k nm ot n0 ty re l=>
   have hd0:=hd
   obtain ⟨t0,t1,r0,r1,a,es,c,rfl,hh,hlen,hes⟩:=Tm.is_mk.1 hd
   have hl:=hes.len
   have hcc:=hF.c
   simp only [Tm.stp] at hQ
   refine zIR N _ Q fun _ N1 hN1=>wc hd0 hF.ok (by omega) N1 _ fun N2 hN2 _=>Br.of (fun hv N3 hN3=>?_) fun hv=>⟨_,rfl,Br.beq (fun h10=>?_) fun h10 N10 hN10=>?_⟩
   ·rw [if_pos hv] at hQ
    exact hQ _ _ (by omega) hd0
   ·rw [if_neg (by rw [hv];decide),if_pos (show (Tm.mk k nm ot n0 ty re l).kd=10 from h10)] at hQ
    have hl1:=(yv hF.ok).1 (by omega)
    have hm0:=zG (l:=l) (i:=0) (by omega)
    have hdm:=dp_mem (k:=k) (nm:=nm) (ot:=ot) (n:=n0) (ty:=ty) (re:=re) hm0
    have hdd:=hF.dp
    refine ⟨_,_,_,rfl,⟨by omega,by omega⟩,fun N4 hN4=>?_⟩
    refine zAt ih _ _ (zZ hes (j:=0) (by omega)) ((hF.mem _ hm0).up (by omega)) 1 (by unfold LvIn;omega) N4 _ fun dx N5 hN5 hx _ _=>⟨⟨rfl,rfl⟩,fun a1 _ _ N6 hN6 hb=>?_⟩
    exact zLY hd0 hF.z.g hx hl1 hb (N0:=N) (fun d N=>Q d (Tm.cod (Tm.stp f) (l.getD 0 tm0) 1).2.1 N) fun d' N6 hN6 hd'=>hQ _ _ (by omega) hd'
   ·rw [if_neg (by rw [hv];decide),if_neg (show ¬(Tm.mk k nm ot n0 ty re l).kd=10 from h10)] at hQ
    refine zEX N10 _ fun N11 hN11 _=>?_
    have hsl:wA k l.length≤l.length:=by
     unfold wA
     split
     ·exact Nat.le_refl _
     ·split
      ·rename_i h
       obtain ⟨b1,b2,b3,_⟩:=yv hF.ok
       rcases h with h | h | h | h
       ·have:=b3 h;omega
       ·have:=b2 (.inr h);omega
       ·have:=b1 (by omega);omega
       ·have:=b1 (by omega);omega
      ·omega
    have hal:All2 Tm.Is (l.take (wA k l.length)) (es.take (wA k l.length)):=by
     have:∀ (n:Nat) (l:List Tm) (es:List D),All2 Tm.Is l es→All2 Tm.Is (l.take n) (es.take n):=by
      intro n
      induction n with
      | zero=>intro l es _;simp;rfl
      | succ n ihn=>
        intro l es h
        cases l with
        | nil=>cases h;exact rfl
        | cons x xs=>obtain ⟨y,ys,rfl,h1,h2⟩:=h;exact ⟨y,ys.take n,rfl,h1,ihn _ _ h2⟩
     exact this _ _ _ hes
    have htl:(es.take (wA k l.length)).length=wA k l.length:=by rw [List.length_take];omega
    rw [hl]
    refine up hal (by omega) (fun i xs=>∀ N',N≤N'→(∀ j x,j<i→(l.take (wA k l.length))[j]?=some x→x.res=true)→(∀ r:Tm × Int,(match goS (Tm.stp f) (Tm.mk k nm ot n0 ty re l) xs i with | some r=>r | none=>(Tm.mk k nm ot n0 ty re l).apl)=r→∀ d N'',N≤N''→r.1.Is d→Q d r.2 N'') →
     vK Q N (wA k l.length:Nat) i (.ag [.lit (.int .i64 k),.lit (.string nm),.lit (.string ot),.lit (.int .i64 n0),t0,t1,r0,r1,.sl a 9 es c]) 0 (bytes []) (bytes []) 0 0 none [] 0 0 none [] 0 none [] 0 N') ?_ ?_ N11 (by omega) (fun j x h=>absurd h (by omega)) (fun r hr d N'' h1 h2=>by rw [←hr];rw [←hr] at h2;exact hQ d N'' h1 h2)
    ·intro i hlt hi N' hN' hk hr
     rw [htl] at hlt
     refine qu _ _ _ _ _ _ _ _ _ _ _ _ _ _ _ _ _ _ _ _ _ ?_
     rw [hlt]
     have hr:=hr _ rfl
     simp only [goS] at hr
     refine fun N9 hN9=>zMD hd0 hF (fun h12=>?_) N9 _ fun dx N10 hN10 hx _ _ N11 hN11=>hr _ _ (by omega) hx
     have hs1:wA k l.length=1:=by simp [wA,h12]
     refine hk 0 _ (by omega) ?_
     rw [hs1,List.getElem?_take_of_lt (by omega)]
     exact zU (by omega)
    ·intro i x xs hat hxs ih2 N' hN' hk hr
     have hb:=hat.b
     have hlt:=hat.lt
     rw [htl] at hlt hb
     have hil:i<l.length:=by omega
     have hxl:l[i]?=some x:=by
      have:=hat.g
      rw [List.getElem?_take_of_lt (by omega)] at this
      exact this
     obtain rfl:l.getD i tm0=x:=by rw [List.getD_eq_getElem?_getD,hxl];rfl
     have hFx:=hF.mem _ (zG hil)
     have hcx:=hFx.c
     refine qu _ _ _ _ _ _ _ _ _ _ _ _ _ _ _ _ _ _ _ _ _ ?_
     rw [hlt,hat.w]
     refine ⟨_,_,_,rfl,⟨by omega,by omega⟩,fun N1 hN1=>?_⟩
     rw [Int.toNat_natCast]
     refine wc (zZ hes hil) hFx.ok (by omega) N1 _ fun N2 hN2 _=>Br.of (fun hv=>?_) fun hv=>?_
     ·rw [qj hv] at hr
      refine ih2 _ (by omega) (fun j y hj hy=>?_) hr
      by_cases hji:j<i
      ·exact hk j y hji hy
      ·have:j=i:=by omega
       subst this
       rw [hat.g] at hy
       rw [←Option.some.inj hy];exact hv
     ·have hr:=hr _ rfl
      simp only [goS] at hr
      rw [if_neg (by rw [hv];decide)] at hr
      refine ⟨_,_,_,rfl,⟨by omega,by omega⟩,fun N3 hN3=>?_⟩
      refine ih _ _ (zZ hes hil) hFx N3 _ fun dx N4 hN4 hx _ _ N5 hN5=>?_
      have:=zO5 uj hd0 hF.z.g hx hil (N0:=N) (N:=N5) (fun d N=>Q d (Tm.stp f (l.getD i tm0)).2 N) fun d' N6 hN6 hd'=>hr _ _ (by omega) hd'
      simpa only [Int.toNat_natCast] using this
end Go.Proofs.YtnpjpplbkoammaaGreatDoor
