/- Steps: the program's, of parts. -/
import Derived.Test.YtnpjpplbkoammaaGreatDoorXp
set_option linter.unusedVariables false
set_option linter.unusedSimpArgs false
namespace Go.Proofs.YtnpjpplbkoammaaGreatDoor
open Go Go.Proofs Go.Proofs.Tryz Go.IntWalk
theorem zJM {s:ByteArray} (h:0<zCx s):s=bytes [43]∨s=bytes [45]∨s=bytes [42]∨s=bytes [61]∨s=bytes [60]∨s=bytes [38]∨s=bytes [124]∨s=bytes [33]:=by
 unfold zCx at h
 (repeat' split at h)<;>first | exact absurd h (by decide) | simp [*]
theorem zJn {s:ByteArray} (h:0<zCx s) {a b:Int} (ha:0≤a∧a≤10006) (hb:0≤b∧b≤10006):(zY s a b).2=true:=by
 have:=zJM h
 unfold zY
 rw [if_pos (wt.2 ha),if_pos (wt.2 hb)]
 (repeat' split)<;>first | rfl | (rcases this with h | h | h | h | h | h | h | h<;>contradiction)
def t6 (s:ByteArray):Bool:=wa s||(decide (s=bytes [61])||decide (s=bytes [60]))
theorem zMA {s:ByteArray} (h:0<zCx s):qg s=if t6 s then 3 else 2:=by
 rcases zJM h with h | h | h | h | h | h | h | h<;>subst h<;>decide +kernel
theorem zED (s:ByteArray):wU 145 [.str s] (wa s):=fun N Q hQ=>
 zCE N s Q (Br.str (fun e1 N1 hN1=>Qb (hQ _ hN1) (by simp [wa,e1])) fun e1=>Br.str (fun e2 N1 hN1=>Qb (hQ _ hN1) (by simp [wa,e2])) fun e2 N1 hN1=>Qb (hQ _ hN1) (by simp [wa,e1,e2,rC]))
theorem zII (s:ByteArray):wU 148 [.str s] (t6 s):=fun N Q hQ=>
 zAk N s Q fun N1 hN1=>zED s N1 _ fun N2 hN2 _=>Br.of (fun e0 N3 hN3=>Qb (hQ _ (by omega)) (by simp [t6,e0])) fun e0=>Br.str (fun e1 N3 hN3=>Qb (hQ _ (by omega)) (by simp [t6,e1])) fun e1 N3 hN3=>Qb (hQ _ (by omega)) (by simp [t6,e0,e1,rC])
theorem zLy (n:Int) (b:Bool) (N:Nat) (Q:QT [.ag 9]) (hQ:∀ d N',N≤N'→(zHs (if b then 3 else 2) n).Is d→Q d N'):ACalls prog 147 [.ag 9] [.int .i64 n,.bool b] N Q:=by
 refine zDR N n b Q (Br.of (fun h N1 hN1=>hQ _ _ hN1 (by rw [h];exact zE8)) fun h N2 hN2=>zHd N2 n _ fun N3 hN3 _ _ N4 hN4=>hQ _ _ (by omega) (by rw [h];exact zE8))
def zQO (f:FuncId) (args:List PV) (r:Tm × Bool):Prop:=∀ (N:Nat) (Q:QT [.ag 9,.bool]),(∀ d N',N≤N'→r.1.Is d→Q d r.2 N')→ACalls prog f [.ag 9,.bool] args N Q
theorem zPM:tm0.Is (.ag [.lit (.int .i64 0),.lit (.string (bytes [])),.lit (.string (bytes [])),.lit (.int .i64 0),.lit (.int .i64 0),.sl none 2 [] 0,.lit (.int .i64 0),.sl none 2 [] 0,.sl none 9 [] 0]):=
 Tm.is_mk.2 ⟨_,_,_,_,_,_,_,rfl,⟨by decide,by decide,zG4 _,zG4 _⟩,by simp,rfl⟩
theorem zP9 {n0:Int} {nm ot:ByteArray} {ty re:Ty} {l:List Tm} (h:(Tm.mk 4 nm ot n0 ty re l).ok=true):0<zCx nm:=by
 simp only [Tm.ok,Bool.and_eq_true,yK,zB4] at h
 have:=h.2.1.2.2.2.2.2
 rw [if_pos trivial,Bool.and_eq_true] at this
 simpa using this.1
theorem zL2 {e:Tm} (h:e.ok=true) (hk:e.kd=2∨e.kd=3):0≤e.no∧e.no≤10006:=by
 cases e with
 | mk k nm ot n ty re l=>
 simp only [Tm.kd] at hk
 simp only [Tm.ok,Bool.and_eq_true,yK,inB] at h
 simp only [Tm.no]
 rcases hk with rfl | rfl
 ·have:=h.2.1.2.2.2.2.1
  simp at this;omega
 ·have:=h.2.1.2.2.2.2.1
  simp at this;omega
theorem zAc (s:ByteArray):zm s=2∨zm s=3:=by unfold zm;split<;>simp
/-- what an operation of literals gives -/
def zHh (nm:ByteArray) (l:List Tm):Tm × Bool:=if l.all (fun x=>x.kd==zm nm) then (zHs (qg nm) (zY nm (l.getD 0 tm0).no (l.getD 1 tm0).no).1,true) else (tm0,false)
theorem zKP {n0:Int} {nm ot:ByteArray} {ty re:Ty} {l:List Tm} {d:D} (hd:(Tm.mk 4 nm ot n0 ty re l).Is d) (hop:0<zCx nm) (hl2:l.length≤2) (hlr:∀ x∈l,x.kd=2∨x.kd=3→0≤x.no∧x.no≤10006):zQO 111 [.dg 9 d] (zHh nm l):=fun N Q hQ=>by
 obtain ⟨t0,t1,r0,r1,a,es,c,rfl,hh,hlen,hes⟩:=Tm.is_mk.1 hd
 have hl:=hes.len
 have loop:∀ N',N≤N'→yC Q N (zm nm) 2 2 a es c es.length 0 (.ag [.lit (.int .i64 4),.lit (.string nm),.lit (.string ot),.lit (.int .i64 n0),t0,t1,r0,r1,.sl a 9 es c]) 0 (bytes []) (bytes []) 0 0 none [] 0 0 none [] 0 none [] 0 [.lit (.int .i64 0),.lit (.int .i64 0)] 2 N':=fun N' hN'=>by
  refine up hes hlen (fun i xs=>∀ N',N≤N'→(∀ j x,j<i→l[j]?=some x→x.kd=zm nm)→yC Q N (zm nm) 2 2 a es c es.length i (.ag [.lit (.int .i64 4),.lit (.string nm),.lit (.string ot),.lit (.int .i64 n0),t0,t1,r0,r1,.sl a 9 es c]) 0 (bytes []) (bytes []) 0 0 none [] 0 0 none [] 0 none [] 0 (zDw l i) 2 N') ?_ ?_ N' hN' (fun j x h=>absurd h (by omega))
  ·intro i hlt hi N' hN' hk
   have hall:∀ x∈l,x.kd=zm nm:=fun x hx=>by
    obtain ⟨j,hj⟩:=List.mem_iff_getElem?.1 hx
    exact hk j x (by have:=(List.getElem?_eq_some_iff.1 hj).1;omega) hj
   have hin:i=l.length:=by omega
   have hr:∀ j,0≤(l.getD j tm0).no∧(l.getD j tm0).no≤10006:=fun j=>by
    by_cases hj:j<l.length
    ·have hm:=zT hj
     refine hlr _ hm ?_
     rw [hall _ hm];exact zAc nm
    ·rw [qY (by omega)];decide
   have hq:zHh nm l=(zHs (qg nm) (zY nm (l.getD 0 tm0).no (l.getD 1 tm0).no).1,true):=by
    unfold zHh
    rw [if_pos (List.all_eq_true.2 fun x hx=>by rw [hall x hx];exact beq_self_eq_true _)]
   rw [hq] at hQ
   refine tB _ _ _ _ _ _ _ _ _ _ _ _ _ _ _ _ _ _ _ _ _ _ _ _ _ _ _ _ _ ?_
   rw [hlt,hin,zIv hl2]
   refine ⟨_,rfl,⟨⟨by omega,by omega,by simp⟩,by simp,_,rfl,⟨by omega,by omega,by simp⟩,by simp,_,rfl,fun N2 hN2=>zDV _ _ _ N2 _ fun N3 hN3 _=>⟨_,rfl,fun N4 hN4=>zII _ N4 _ fun N5 hN5 _ N6 hN6=>zLy _ _ N6 _ fun x N7 hN7 hx _ _ N8 hN8=>?_⟩⟩⟩
   rw [zJn hop (hr 0) (hr 1)]
   rw [←zMA hop] at hx
   exact hQ _ _ (by omega) hx
  ·intro i x xs hat hxs ih2 N' hN' hk
   have hb:=hat.b
   have hx:=hat.r
   have hgx:l.getD i tm0=x:=by rw [List.getD_eq_getElem?_getD,hat.g];rfl
   refine tB _ _ _ _ _ _ _ _ _ _ _ _ _ _ _ _ _ _ _ _ _ _ _ _ _ _ _ _ _ ?_
   rw [hat.lt,Int.toNat_natCast,hat.w]
   cases x with
   | mk pk pn po pm pt pr pl=>
   obtain ⟨u0,u1,v0,v1,a2,es2,c2,heq,hh2,hlen2,hes2⟩:=Tm.is_mk.1 hx
   rw [heq]
   refine ⟨⟨by omega,by omega⟩,_,rfl,Br.bne (fun hne N1 hN1=>?_) fun he=>⟨_,rfl,⟨by omega,by omega,by simp only [zDw,List.length_cons,List.length_nil];omega⟩,by simp only [zDw,List.length_cons,List.length_nil];omega,?_⟩⟩
   ·have hq:zHh nm l=(tm0,false):=by
     unfold zHh
     rw [if_neg fun hc=>hne (by have:=List.all_eq_true.1 hc _ hat.m;exact (by simpa using this:(Tm.mk pk pn po pm pt pr pl).kd=zm nm))]
    rw [hq] at hQ
    exact hQ _ _ (by omega) zPM
   ·rw [Nat.zero_add]
    have hns:=zIe (l:=l) (i:=i) (by omega)
    rw [hgx] at hns
    simp only [Tm.no] at hns
    rw [hns]
    refine ih2 _ hN' fun j y hj hy=>?_
    by_cases hji:j<i
    ·exact hk j y hji hy
    ·have:j=i:=by omega
     subst this
     rw [hat.g] at hy
     rw [←Option.some.inj hy];exact he
 refine zDW N _ Q fun _=>⟨_,rfl,fun N1 hN1=>zED nm N1 _ fun N2 hN2 _=>Br.of (fun h=>⟨_,_,_,rfl,?_⟩) fun h=>⟨_,_,_,rfl,?_⟩⟩
 ·have:=loop N2 (by omega)
  rw [show zm nm=3 by unfold zm;rw [if_pos h]] at this
  exact this
 ·have:=loop N2 (by omega)
  rw [show zm nm=2 by unfold zm;rw [if_neg (by rw [h];decide)]] at this
  exact this
theorem zIt {e b:Tm} {d db:D} (he:e.Is d) (hb:b.Is db) (x:ByteArray) (h1:e.Z) (h2:b.Z):zMp 112 [.dg 9 d,.str x,.dg 9 db] (e.sb x b):=zD5 e.dp e d x b db he hb (Nat.le_refl _) h1 h2
theorem zMP {n0:Int} {nm ot:ByteArray} {ty re:Ty} {l:List Tm}:(Tm.mk 4 nm ot n0 ty re l).opr l=if (zHh nm l).2=true then ((zHh nm l).1,1) else (Tm.mk 4 nm ot n0 ty re l,0):=by
 unfold Tm.opr zHh
 by_cases hc:(l.all fun x=>x.kd==zm nm)=true
 ·rw [if_pos hc,if_pos (show (l.all fun x=>x.kd==zm (Tm.mk 4 nm ot n0 ty re l).nm)=true from hc),if_pos rfl];rfl
 ·rw [if_neg hc,if_neg (show ¬(l.all fun x=>x.kd==zm (Tm.mk 4 nm ot n0 ty re l).nm)=true from hc),if_neg (by decide)]
end Go.Proofs.YtnpjpplbkoammaaGreatDoor
