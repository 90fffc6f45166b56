/- Simplify: the reference's. -/
import Derived.Test.YtnpjpplbkoammaaGreatDoorXr
import Derived.Test.YtnpjpplbkoammaaGreatDoorKh
import Derived.Maps.OwnSet
set_option linter.unusedVariables false
set_option linter.unusedSimpArgs false
namespace Go.Proofs.YtnpjpplbkoammaaGreatDoor
open Go Go.Proofs Go.Proofs.Tryz Go.IntWalk
/-- a call that hands back a term, whoever owns it -/
def zGS (f:FuncId) (args:List PV) (t:Tm):Prop:=∀ (N:Nat) (Q:QT [.ag 9]),(∀ d N',N≤N'→t.Is d→Q d N')→ACalls prog f [.ag 9] args N Q
theorem zJ9 (s:ByteArray):zKe (zm s)=true:=by rcases zAc s with h | h<;>rw [h]<;>rfl
theorem zJR {nm:ByteArray} {l:List Tm} (h:(zHh nm l).2=true):∀ x∈l,zKe x.kd=true:=fun x hx=>by
 unfold zHh at h
 split at h
 ·rename_i h2
  have:=List.all_eq_true.1 h2 x hx
  rw [beq_iff_eq] at this
  rw [this];exact zJ9 nm
 ·cases h
theorem zN3 {n0:Int} {nm ot:ByteArray} {ty re:Ty} {l:List Tm} {d:D} (hd:(Tm.mk 4 nm ot n0 ty re l).Is d) (hW:(Tm.mk 4 nm ot n0 ty re l).W):zGS 118 [.dg 9 d] (zGk (.mk 4 nm ot n0 ty re l) nm l):=fun N Q hQ=>by
 have hd0:=hd
 have hG:=hW.z.g
 have hop:=hW.k.1.o rfl
 have har:=hW.k.1.ar.2.2.2.2.2 rfl
 have hl2:=zIO nm
 have hS:∀ y∈l,∀ dy,y.Is dy→zDN 36 [.dg 9 dy]:=fun y hy dy h=>zKS y dy h (hW.mem y hy)
 have hcall:=zJP hd0 hW hS
 obtain ⟨t0,t1,r0,r1,a,es,c,rfl,hh,hlen,hes⟩:=Tm.is_mk.1 hd
 have hl:=hes.len
 have hp0:=zP hes (j:=0) (by omega)
 have ar2:∀ s,(s=bytes [43]∨s=bytes [42]∨s=bytes [45])→zCx s=2:=by
  rintro s (rfl | rfl | rfl)<;>decide +kernel
 have two:(nm=bytes [43]∨nm=bytes [42]∨nm=bytes [45])→l.length=2:=fun h=>by have:=ar2 nm h;omega
 have g1:∀ i,i<l.length→(l.getD i tm0).G:=fun i hi=>xZ hG.2.2.2 (zT hi)
 unfold zGk at hQ
 have j4:¬(zHh nm l).2=true→∀ N',N≤N'→xH Q N (.ag [.lit (.int .i64 4),.lit (.string nm),.lit (.string ot),.lit (.int .i64 n0),t0,t1,r0,r1,.sl a 9 es c]) 0 (bytes []) (bytes []) 0 0 none [] 0 0 none [] 0 none [] 0 N':=fun hne N' hN'=>by
  rw [if_neg hne] at hQ
  have j5:(nm=bytes [43]∧(l.getD 0 tm0).isI 0=true)∨(nm=bytes [42]∧(l.getD 0 tm0).isI 1=true)→∀ N',N≤N'→xJ Q N (.ag [.lit (.int .i64 4),.lit (.string nm),.lit (.string ot),.lit (.int .i64 n0),t0,t1,r0,r1,.sl a 9 es c]) 0 (bytes []) (bytes []) 0 0 none [] 0 0 none [] 0 none [] 0 N':=fun hc N' hN'=>by
   rw [if_pos hc] at hQ
   have h2:=two (hc.elim (fun h=>.inl h.1) fun h=>.inr (.inl h.1))
   refine zDa _ _ _ _ _ _ _ _ _ _ _ _ _ _ _ _ _ _ _ ?_
   exact ⟨_,_,_,rfl,⟨by omega,by omega⟩,fun N1 hN1=>zAS vJ (zP hes (j:=1) (by omega)) (g1 1 (by omega)) (N0:=N) (by omega) (fun d N=>Q d N) fun d' N2 hN2 hd' _=>hQ _ _ (by omega) hd'⟩
  have j6:¬((nm=bytes [43]∧(l.getD 0 tm0).isI 0=true)∨(nm=bytes [42]∧(l.getD 0 tm0).isI 1=true))→∀ N',N≤N'→yi Q N (.ag [.lit (.int .i64 4),.lit (.string nm),.lit (.string ot),.lit (.int .i64 n0),t0,t1,r0,r1,.sl a 9 es c]) 0 (bytes []) (bytes []) 0 0 none [] 0 0 none [] 0 none [] 0 N':=fun hc N' hN'=>by
   rw [if_neg hc] at hQ
   have j7:(nm=bytes [43]∧(l.getD 1 tm0).isI 0=true)∨(nm=bytes [42]∧(l.getD 1 tm0).isI 1=true)∨(nm=bytes [45]∧(l.getD 1 tm0).isI 0=true)→∀ N',N≤N'→zj Q N (.ag [.lit (.int .i64 4),.lit (.string nm),.lit (.string ot),.lit (.int .i64 n0),t0,t1,r0,r1,.sl a 9 es c]) 0 (bytes []) (bytes []) 0 0 none [] 0 0 none [] 0 none [] 0 N':=fun hc N' hN'=>by
    rw [if_pos hc] at hQ
    refine zDl _ _ _ _ _ _ _ _ _ _ _ _ _ _ _ _ _ _ _ ?_
    exact ⟨_,_,_,rfl,⟨by omega,by omega⟩,fun N1 hN1=>zAS vJ hp0 (g1 0 (by omega)) (N0:=N) (by omega) (fun d N=>Q d N) fun d' N2 hN2 hd' _=>hQ _ _ (by omega) hd'⟩
   have fin:¬((nm=bytes [43]∧(l.getD 1 tm0).isI 0=true)∨(nm=bytes [42]∧(l.getD 1 tm0).isI 1=true)∨(nm=bytes [45]∧(l.getD 1 tm0).isI 0=true))→∀ N',N≤N'→Q (.ag [.lit (.int .i64 4),.lit (.string nm),.lit (.string ot),.lit (.int .i64 n0),t0,t1,r0,r1,.sl a 9 es c]) N':=fun hc N' hN'=>by
    rw [if_neg hc] at hQ
    exact hQ _ _ hN' hd0
   refine zC3 _ _ _ _ _ _ _ _ _ _ _ _ _ _ _ _ _ _ _ ?_
   refine ⟨_,rfl,Br.str (fun e=>?_) fun e=>⟨_,rfl,Br.str (fun e2=>?_) fun e2=>⟨_,rfl,Br.str (fun e3=>?_) fun e3 N1 hN1=>fin ?_ _ (by omega)⟩⟩⟩
   ·have h2:=two (.inl e)
    exact ⟨_,_,_,rfl,⟨by omega,by omega⟩,fun N1 hN1=>wj _ _ (zP hes (j:=1) (by omega)) _ N1 _ fun N2 hN2 _=>Br.of (fun hv=>j7 (.inl ⟨e,hv⟩) _ (by omega)) fun hv=>⟨_,rfl,Br.str (fun e2=>absurd (e.symm.trans e2) (by decide)) fun e2=>⟨_,rfl,Br.str (fun e3=>absurd (e.symm.trans e3) (by decide)) fun e3 N3 hN3=>fin (by
     rintro (⟨h,g⟩ | ⟨h,g⟩ | ⟨h,g⟩)
     ·rw [hv] at g;cases g
     ·exact e2 h
     ·exact e3 h) _ (by omega)⟩⟩⟩
   ·have h2:=two (.inr (.inl e2))
    exact ⟨_,_,_,rfl,⟨by omega,by omega⟩,fun N1 hN1=>wj _ _ (zP hes (j:=1) (by omega)) _ N1 _ fun N2 hN2 _=>Br.of (fun hv=>j7 (.inr (.inl ⟨e2,hv⟩)) _ (by omega)) fun hv=>⟨_,rfl,Br.str (fun e3=>absurd (e2.symm.trans e3) (by decide)) fun e3 N3 hN3=>fin (by
     rintro (⟨h,g⟩ | ⟨h,g⟩ | ⟨h,g⟩)
     ·exact e h
     ·rw [hv] at g;cases g
     ·exact e3 h) _ (by omega)⟩⟩
   ·have h2:=two (.inr (.inr e3))
    exact ⟨_,_,_,rfl,⟨by omega,by omega⟩,fun N1 hN1=>wj _ _ (zP hes (j:=1) (by omega)) _ N1 _ fun N2 hN2 _=>Br.of (fun hv=>j7 (.inr (.inr ⟨e3,hv⟩)) _ (by omega)) fun hv N3 hN3=>fin (by
     rintro (⟨h,g⟩ | ⟨h,g⟩ | ⟨h,g⟩)
     ·exact e h
     ·exact e2 h
     ·rw [hv] at g;cases g) _ (by omega)⟩
   ·rintro (⟨h,g⟩ | ⟨h,g⟩ | ⟨h,g⟩)
    ·exact e h
    ·exact e2 h
    ·exact e3 h
  refine zDh _ _ _ _ _ _ _ _ _ _ _ _ _ _ _ _ _ _ _ ?_
  refine ⟨_,rfl,Br.str (fun e=>?_) fun e=>⟨_,rfl,Br.str (fun e2=>?_) fun e2=>j6 (fun h=>h.elim (fun h=>e h.1) fun h=>e2 h.1) _ hN'⟩⟩
  ·exact ⟨_,_,_,rfl,⟨by omega,by omega⟩,fun N1 hN1=>wj _ _ hp0 _ N1 _ fun N2 hN2 _=>Br.of (fun hv=>j5 (.inl ⟨e,hv⟩) _ (by omega)) fun hv=>⟨_,rfl,Br.str (fun e2=>absurd (e.symm.trans e2) (by decide)) fun e2=>j6 (fun h=>h.elim (fun h=>by rw [hv] at h;cases h.2) fun h=>e2 h.1) _ (by omega)⟩⟩
  ·exact ⟨_,_,_,rfl,⟨by omega,by omega⟩,fun N1 hN1=>wj _ _ hp0 _ N1 _ fun N2 hN2 _=>Br.of (fun hv=>j5 (.inr ⟨e2,hv⟩) _ (by omega)) fun hv=>j6 (fun h=>h.elim (fun h=>e h.1) fun h=>by rw [hv] at h;cases h.2) _ (by omega)⟩
 have hpl:=hW.mem _ (zT (l:=l) (i:=0) (by omega))
 have hpz:=hW.mem _ (zT (l:=l) (i:=l.length - 1) (by omega))
 have hw1:IntKind.i64.wrap ((es.length:Int) - 1)=((l.length - 1:Nat):Int):=by rw [i64_in _ (by omega)];omega
 refine zHT N _ Q fun _ N1 hN1=>hcall N1 _ fun x n N2 hN2 hx hall _ _=>⟨_,_,_,rfl,⟨by omega,by omega⟩,fun N3 hN3=>zEJ hp0 hpl.k N3 _ fun N4 hN4 _=>Br.of (fun hv0=>⟨_,_,_,rfl,_,_,_,rfl,?_⟩) fun hv0=>j4 (fun h=>by rw [zJR h _ (zT (by omega))] at hv0;cases hv0) _ (by omega)⟩
 rw [hw1,Int.toNat_natCast]
 refine ⟨⟨by omega,by omega⟩,fun N5 hN5=>zEJ (zP hes (j:=l.length - 1) (by omega)) hpz.k N5 _ fun N6 hN6 _=>Br.of (fun hv1=>?_) fun hv1=>j4 (fun h=>by rw [zJR h _ (zT (by omega))] at hv1;cases hv1) _ (by omega)⟩
 have hres:∀ x∈l,zKe x.kd=true:=fun x hx=>by
  obtain ⟨i,hi⟩:=List.mem_iff_getElem?.1 hx
  have hil:=(List.getElem?_eq_some_iff.1 hi).1
  have hx2:l.getD i tm0=x:=by rw [List.getD_eq_getElem?_getD,hi];rfl
  by_cases h0:i=0
  ·subst h0;rw [←hx2];exact hv0
  ·have h3:i=l.length - 1:=by omega
   subst h3
   rw [←hx2];exact hv1
 obtain ⟨q1,q2⟩:=hall hres
 rw [zMP] at q1 q2
 refine Br.beq (fun h1 N7 hN7=>?_) fun h1=>j4 (fun h=>?_) _ (by omega)
 ·have hT:(zHh nm l).2=true:=by
   cases h:(zHh nm l).2 with
   | true=>rfl
   | false=>rw [h] at q2;simp at q2;omega
  rw [if_pos hT] at q1 hQ
  exact hQ _ _ (by omega) q1
 ·rw [if_pos h] at q2;exact h1 q2
theorem zNR {k n0:Int} {nm ot:ByteArray} {ty re:Ty} {l:List Tm} {d:D} (hd:(Tm.mk k nm ot n0 ty re l).Is d) (hW:(Tm.mk k nm ot n0 ty re l).W):zGS 92 [.dg 9 d] (zMI (.mk k nm ot n0 ty re l)):=fun N Q hQ=>by
 have hd0:=hd
 have hG:=hW.z.g
 obtain ⟨_,_,a2,a3,_,_⟩:=hW.k.1.ar
 obtain ⟨t0,t1,r0,r1,a,es,c,rfl,hh,hlen,hes⟩:=Tm.is_mk.1 hd
 have hl:=hes.len
 have g1:∀ i,i<l.length→(l.getD i tm0).G:=fun i hi=>xZ hG.2.2.2 (zT hi)
 have w1:∀ i,i<l.length→(l.getD i tm0).W:=fun i hi=>hW.mem _ (zT hi)
 simp only [zMI] at hQ
 have j9:k≠4→(k=5→¬(l.getD 0 tm0).kd=3)→(k=7→¬((l.getD 0 tm0).kd=6∧(l.getD 1 tm0).atm=true))→(k=8→¬(l.getD 0 tm0).atm=true)→∀ N',N≤N'→yp Q N (.ag [.lit (.int .i64 k),.lit (.string nm),.lit (.string ot),.lit (.int .i64 n0),t0,t1,r0,r1,.sl a 9 es c]) 0 (bytes []) (bytes []) 0 0 none [] 0 0 none [] 0 none [] 0 N':=fun h4 h5 h7 h8 N' hN'=>by
  rw [if_neg h4] at hQ
  refine zCN _ _ _ _ _ _ _ _ _ _ _ _ _ _ _ _ _ _ _ ?_
  refine ⟨_,rfl,Br.beq (fun hk=>?_) fun hk N1 hN1=>?_⟩
  ·subst hk
   have h2:=a2 (.inr rfl)
   rw [if_neg (by decide),if_neg (by decide),if_pos rfl,if_neg (h8 rfl)] at hQ
   have hvc:(l.getD 1 tm0).vc≤1333333:=by have:=Tm.vc_cnt (l.getD 1 tm0);have:=(w1 1 (by omega)).c;omega
   have hfl:=Tm.fv_len (l.getD 1 tm0)
   refine ⟨_,_,_,rfl,⟨by omega,by omega⟩,fun N1 hN1=>zC8 _ _ (zP hes (j:=0) (by omega)) N1 _ fun N2 hN2 _=>Br.of (fun hq=>?_) fun hq N3 hN3=>?_⟩
   ·refine ⟨_,_,_,rfl,⟨by omega,by omega⟩,_,rfl,fun N3 hN3=>wE _ _ (zP hes (j:=1) (by omega)) (by omega) N3 _ fun a8 c8 N4 hN4 _ _ _ N5 hN5=>yO _ (by omega) a8 c8 nm N5 _ fun N6 hN6 _=>?_⟩
    have hix:=zF2 nm (l.getD 1 tm0).fv
    refine Br.dec (fun hlt=>?_) fun hge N7 hN7=>?_
    ·have hnm:nm∉(l.getD 1 tm0).fv:=fun hc=>by
      rw [decide_eq_true hc,decide_eq_true_iff] at hix
      omega
     rw [if_pos ⟨hq,hnm⟩] at hQ
     exact ⟨_,_,_,rfl,⟨by omega,by omega⟩,fun N7 hN7=>zAS vJ (zP hes (j:=1) (by omega)) (g1 1 (by omega)) (N0:=N) (by omega) (fun d N=>Q d N) fun d' N8 hN8 hd' _=>hQ _ _ (by omega) hd'⟩
    ·have hnm:nm∈(l.getD 1 tm0).fv:=by
      rw [decide_eq_true (by omega)] at hix
      exact of_decide_eq_true hix.symm
     rw [if_neg (fun h=>h.2 hnm)] at hQ
     exact hQ _ _ (by omega) hd0
   ·rw [if_neg (fun h=>by rw [hq] at h;cases h.1)] at hQ
    exact hQ _ _ (by omega) hd0
  ·refine hQ _ _ (by omega) ?_
   by_cases h:k=5
   ·rw [if_pos h,if_neg (h5 h)];exact hd0
   rw [if_neg h]
   by_cases h:k=7
   ·rw [if_pos h,if_neg (h7 h)];exact hd0
   rw [if_neg h,if_neg hk];exact hd0
 have j7:k≠4→(k=5→¬(l.getD 0 tm0).kd=3)→(k=8→¬(l.getD 0 tm0).atm=true)→∀ N',N≤N'→ya Q N (.ag [.lit (.int .i64 k),.lit (.string nm),.lit (.string ot),.lit (.int .i64 n0),t0,t1,r0,r1,.sl a 9 es c]) 0 (bytes []) (bytes []) 0 0 none [] 0 0 none [] 0 none [] 0 N':=fun h4 h5 h8 N' hN'=>by
  refine zBV _ _ _ _ _ _ _ _ _ _ _ _ _ _ _ _ _ _ _ ?_
  refine ⟨_,rfl,Br.beq (fun hk=>?_) fun hk=>j9 h4 h5 (fun h=>absurd h hk) h8 _ hN'⟩
  subst hk
  have h2:=a2 (.inl rfl)
  have hp0:=zP hes (j:=0) (by omega)
  have hFp:=w1 0 (by omega)
  have hFq:=w1 1 (by omega)
  rw [if_neg (by decide),if_neg (by decide),if_pos rfl] at hQ
  have hq1:=zP hes (j:=1) (by omega)
  generalize l.getD 0 tm0=p at hp0 hFp hQ h5 h8 j9
  generalize l.getD 1 tm0=q at hFq hq1 hQ j9
  cases p with
  | mk pk pn po pm pt pr pl=>
  obtain ⟨u0,u1,v0,v1,a',es2,c2,heq,hh2,hlen2,hes2⟩:=Tm.is_mk.1 hp0
  have hl3:=hes2.len
  refine ⟨_,_,_,rfl,⟨by omega,by omega⟩,pk,by rw [heq];rfl,Br.beq (fun h6=>?_) fun h6=>j9 h4 h5 (fun _ h=>h6 h.1) h8 _ hN'⟩
  refine ⟨_,_,_,rfl,⟨by omega,by omega⟩,fun N1 hN1=>pC _ _ hq1 N1 _ fun N2 hN2 _=>Br.of (fun hv=>?_) fun hv=>j9 h4 h5 (fun _ h=>by rw [hv] at h;cases h.2) h8 _ (by omega)⟩
  rw [if_pos ⟨h6,hv⟩] at hQ
  have hpl:=hFp.k.1.ar.2.1 (.inl h6)
  refine ⟨_,_,_,rfl,⟨by omega,by omega⟩,a',es2,c2,by rw [heq];rfl,⟨by omega,by omega⟩,_,_,_,rfl,⟨by omega,by omega⟩,pn,by rw [heq];rfl,_,_,_,rfl,⟨by omega,by omega⟩,fun N3 hN3=>?_⟩
  exact si (zP hes2 (j:=0) (by omega)) hq1 pn (hFp.mem _ (zT (l:=pl) (i:=0) (by omega))).z hFq.z N3 _ fun dx N4 hN4 hx _ _ _ N5 hN5=>hQ _ _ (by omega) hx
 refine zFV N _ Q fun _=>⟨_,rfl,Br.beq (fun h4 N1 hN1=>?_) fun h4=>⟨_,rfl,Br.beq (fun h5=>?_) fun h5=>⟨_,rfl,Br.beq (fun h8=>?_) fun h8=>j7 h4 (fun h=>absurd h h5) (fun h=>absurd h h8) _ (Nat.le_refl _)⟩⟩⟩
 ·subst h4
  rw [if_pos rfl] at hQ
  exact zN3 hd0 hW N1 _ fun x N2 hN2 hx _ _ N3 hN3=>hQ _ _ (by omega) hx
 ·subst h5
  have hl5:=a3 rfl
  rw [if_neg (by decide),if_pos rfl] at hQ
  have hp0:=zP hes (j:=0) (by omega)
  have hFp:=w1 0 (by omega)
  generalize l.getD 0 tm0=p at hp0 hFp hQ j7
  cases p with
  | mk pk pn po pm pt pr pl=>
  obtain ⟨u0,u1,v0,v1,a',es2,c2,heq,hh2,hlen2,hes2⟩:=Tm.is_mk.1 hp0
  refine ⟨_,_,_,rfl,⟨by omega,by omega⟩,pk,by rw [heq];rfl,Br.beq (fun h3=>?_) fun h3=>⟨_,rfl,Br.beq (fun h8=>absurd h8 (by decide)) fun h8=>j7 h4 (fun _=>h3) (fun h=>absurd h h8) _ (Nat.le_refl _)⟩⟩
  rw [if_pos (show (Tm.mk pk pn po pm pt pr pl).kd=3 from h3)] at hQ
  have hn:=hFp.k.1.b h3
  have hw:IntKind.i64.wrap (2 - pm)=2 - pm:=i64_in _ (by omega)
  simp only [Tm.no] at hQ
  refine ⟨_,_,_,rfl,_,_,_,rfl,⟨by omega,by omega⟩,pm,by rw [heq];rfl,?_⟩
  rw [hw]
  refine ⟨⟨by omega,by omega⟩,fun N6 hN6=>?_⟩
  exact zAS vJ (zP hes (j:=(2 - pm).toNat) (by omega)) (g1 _ (by omega)) (N0:=N) (by omega) (fun d N=>Q d N) fun d' N7 hN7 hd' _=>hQ _ _ (by omega) hd'
 ·have h2:=a2 (.inr h8)
  refine ⟨_,_,_,rfl,⟨by omega,by omega⟩,fun N1 hN1=>pC _ _ (zP hes (j:=0) (by omega)) N1 _ fun N2 hN2 _=>Br.of (fun hv=>?_) fun hv=>j7 h4 (fun h=>absurd h h5) (fun _ h=>by rw [hv] at h;cases h) _ (by omega)⟩
  subst h8
  rw [if_neg (by decide),if_neg (by decide),if_neg (by decide),if_pos rfl,if_pos hv] at hQ
  refine ⟨_,_,_,rfl,⟨by omega,by omega⟩,_,rfl,_,_,_,rfl,⟨by omega,by omega⟩,fun N3 hN3=>?_⟩
  exact si (zP hes (j:=1) (by omega)) (zP hes (j:=0) (by omega)) nm (w1 1 (by omega)).z (w1 0 (by omega)).z N3 _ fun dx N4 hN4 hx _ _ _ N5 hN5=>hQ _ _ (by omega) hx
theorem zNy {k n0:Int} {nm ot:ByteArray} {ty re:Ty} {l:List Tm} (h:(Tm.mk k nm ot n0 ty re l).W):(Tm.mk k nm ot n0 ty re (l.map Tm.sim)).W:=by
 have hp:=fun x hx=>h.mem x hx
 refine ⟨⟨by rw [List.length_map];exact h.k.1,zt.2 fun x hx=>?_⟩,?_⟩
 ·obtain ⟨z,hz,rfl⟩:=List.mem_map.1 hx
  exact (hp z hz).sim.k
 ·have hc:=h.c
  simp only [Tm.cnt] at hc ⊢
  have:zX (l.map Tm.sim)≤zX l:=by
   clear hc h
   induction l with
   | nil=>exact Nat.le_refl _
   | cons t ts ih=>
     have h1:=(zI2 t (hp t (by simp)).k).1.n
     have h2:=ih fun x hx=>hp x (by simp [hx])
     simp only [List.map_cons,zX];omega
  omega
theorem zNL:∀ (e:Tm) (d:D),e.Is d→e.W→zGS 59 [.dg 9 d] e.sim:=by
 refine Tm.ind fun k nm ot n0 ty re l ih d hd hW N Q hQ=>?_
 have hll:=hW.z.g.2.2.1
 have hWs:=zNy hW
 have hsim:(Tm.mk k nm ot n0 ty re l).sim=zMI (.mk k nm ot n0 ty re (l.map Tm.sim)):=by simp only [Tm.sim,vU]
 rw [hsim] at hQ
 refine zFQ N _ Q fun _ N1 hN1=>?_
 refine vJ _ d hd hW.z.g N1 _ ?_
 simp only [vr]
 intro y4 y5 y6 y7 r q N2 hN2 hH hA hO _ _
 have hrl:=hA.len
 refine up hA (by omega) (fun i xs=>∀ (r':List D) (q N':Nat),N≤N'→All2 Tm.Is ((l.map Tm.sim).take i++l.drop i) r'→r'.length=r.length →
  wK Q N i 0 (bytes []) (bytes []) 0 0 none [] 0 0 none [] 0 none [] 0 k nm ot n0 y4 y5 y6 y7 r.length q r' q N') ?_ ?_ r q N2 (by omega) (by simpa using hA) rfl
 ·intro i hlt hi r' q N' hN' hA' hr'
  rw [List.take_of_length_le (by rw [List.length_map];omega),List.drop_eq_nil_of_le (by omega),List.append_nil] at hA'
  refine t8 _ _ _ _ _ _ _ _ _ _ _ _ _ _ _ _ _ _ _ _ _ _ _ _ _ _ _ _ _ _ _ ?_
  rw [hlt]
  exact ⟨⟨by omega,rfl⟩,⟨by omega,rfl⟩,⟨by omega,rfl⟩,fun a2 N5 hN5 hf N6 hN6=>zNR (Tm.is_mk.2 ⟨_,_,_,_,_,_,_,rfl,hH,by omega,hA'⟩) hWs N6 _ fun x N7 hN7 hx _ _ N8 hN8=>hQ _ _ (by omega) hx⟩
 ·intro i y xs hat _ ih2 r' q N' hN' hA' hr'
  have hbd:=hat.b
  have hil:i<l.length:=(List.getElem?_eq_some_iff.1 hat.g).1
  have hyi:y.Is (r'.getD i default):=by
   refine hA'.get ?_
   rw [List.getElem?_append_right (by rw [List.length_take,List.length_map];omega),List.length_take,List.length_map,show i - min i l.length=0 by omega,List.getElem?_drop]
   exact hat.g
  refine t8 _ _ _ _ _ _ _ _ _ _ _ _ _ _ _ _ _ _ _ _ _ _ _ _ _ _ _ _ _ _ _ ?_
  rw [hat.lt,Int.toNat_natCast,hat.w,Nat.zero_add]
  refine ⟨⟨by omega,by omega,by omega⟩,by omega,fun N5 hN5=>ih y hat.m _ hyi (hW.mem y hat.m) N5 _ fun dx N6 hN6 hx _ _=>⟨⟨by omega,by omega,by omega⟩,by omega,?_⟩⟩
  have h2:=uI (j:=i) hA' hx
  rw [zHp (by simp) hil (zEb hat.g)] at h2
  exact ih2 (r'.set i dx) q N6 (by omega) h2 (by simpa using hr')
theorem zCZ {e:Tm} {d:D} (he:e.Is d) (hc:e.cnt≤4000000):zGS 30 [.dg 9 d] e.simplify:=fun N Q hQ=>by
 unfold Tm.simplify at hQ
 refine zBm N _ Q fun _ N1 hN1=>zDB e d he (by omega) N1 _ fun N2 hN2 _=>Br.not (fun hv N3 hN3=>?_) fun hv N3 hN3=>?_
 ·rw [if_neg (by rw [hv];decide)] at hQ
  exact zAS vJ he (Tm.G_cnt e (by omega)) (N0:=N) (by omega) (fun d N=>Q d N) fun d' N4 hN4 hd' _=>hQ _ _ (by omega) hd'
 ·rw [if_pos hv] at hQ
  simp only [Tm.isPl,Bool.and_eq_true] at hv
  exact zNL e d he ⟨wk_of e hv.1 hv.2,hc⟩ N3 _ fun x N4 hN4 hx _ _ N5 hN5=>hQ _ _ (by omega) hx
/-- the program's operations -/
def OpC:Prop:=∀ {n0:Int} {nm ot:ByteArray} {ty re:Ty} {l:List Tm} {d:D},(Tm.mk 4 nm ot n0 ty re l).Is d→(Tm.mk 4 nm ot n0 ty re l).W→zGS 128 [.dg 9 d] (zGk (.mk 4 nm ot n0 ty re l) nm l)
theorem zHW (hOp:OpC) {k n0:Int} {nm ot:ByteArray} {ty re:Ty} {l:List Tm} {d:D} (hd:(Tm.mk k nm ot n0 ty re l).Is d) (hW:(Tm.mk k nm ot n0 ty re l).W):zGS 97 [.dg 9 d] (zMI (.mk k nm ot n0 ty re l)):=fun N Q hQ=>by
 have hd0:=hd
 obtain ⟨_,_,a2,a3,_,_⟩:=hW.k.1.ar
 obtain ⟨t0,t1,r0,r1,a,es,c,rfl,hh,hlen,hes⟩:=Tm.is_mk.1 hd
 have hl:=hes.len
 have w1:∀ i,i<l.length→(l.getD i tm0).W:=fun i hi=>hW.mem _ (zT hi)
 simp only [zMI] at hQ
 refine pP N _ Q fun _=>⟨_,rfl,Br.beq (fun h4 N1 hN1=>?_) fun h4=>Br.beq (fun h5=>?_) fun h5=>Br.beq (fun h7=>?_) fun h7=>Br.beq (fun h8=>?_) fun h8 N1 hN1=>?_⟩
 ·subst h4
  rw [if_pos rfl] at hQ
  exact hOp hd0 hW N1 _ fun x N2 hN2 hx _ _ N3 hN3=>hQ _ _ (by omega) hx
 ·subst h5
  have hl5:=a3 rfl
  rw [if_neg (by decide),if_pos rfl] at hQ
  have hp0:=zP hes (j:=0) (by omega)
  have hFp:=w1 0 (by omega)
  generalize l.getD 0 tm0=p at hp0 hFp hQ
  cases p with
  | mk pk pn po pm pt pr pl=>
  obtain ⟨u0,u1,v0,v1,a',es2,c2,heq,hh2,hlen2,hes2⟩:=Tm.is_mk.1 hp0
  refine ⟨_,_,_,rfl,⟨by omega,by omega⟩,pk,by rw [heq];rfl,Br.beq (fun h3=>?_) fun h3 N1 hN1=>?_⟩
  ·rw [if_pos (show (Tm.mk pk pn po pm pt pr pl).kd=3 from h3)] at hQ
   have hn:=hFp.k.1.b h3
   have hw:IntKind.i64.wrap (2 - pm)=2 - pm:=i64_in _ (by omega)
   simp only [Tm.no] at hQ
   refine ⟨_,_,_,rfl,_,_,_,rfl,⟨by omega,by omega⟩,pm,by rw [heq];rfl,?_⟩
   rw [hw]
   exact ⟨⟨by omega,by omega⟩,fun N6 hN6=>hQ _ _ (by omega) (zP hes (j:=(2 - pm).toNat) (by omega))⟩
  ·rw [if_neg (show ¬(Tm.mk pk pn po pm pt pr pl).kd=3 from h3)] at hQ
   exact hQ _ _ hN1 hd0
 ·subst h7
  have h2:=a2 (.inl rfl)
  have hp0:=zP hes (j:=0) (by omega)
  have hFp:=w1 0 (by omega)
  have hFq:=w1 1 (by omega)
  rw [if_neg (by decide),if_neg (by decide),if_pos rfl] at hQ
  have hq1:=zP hes (j:=1) (by omega)
  generalize l.getD 0 tm0=p at hp0 hFp hQ
  generalize l.getD 1 tm0=q at hFq hq1 hQ
  cases p with
  | mk pk pn po pm pt pr pl=>
  obtain ⟨u0,u1,v0,v1,a',es2,c2,heq,hh2,hlen2,hes2⟩:=Tm.is_mk.1 hp0
  have hl3:=hes2.len
  refine ⟨_,_,_,rfl,⟨by omega,by omega⟩,pk,by rw [heq];rfl,Br.beq (fun h6=>?_) fun h6 N1 hN1=>?_⟩
  ·refine ⟨_,_,_,rfl,⟨by omega,by omega⟩,fun N1 hN1=>qL _ _ hq1 N1 _ fun N2 hN2 _=>Br.of (fun hv=>?_) fun hv N3 hN3=>?_⟩
   ·rw [if_pos ⟨h6,hv⟩] at hQ
    have hpl:=hFp.k.1.ar.2.1 (.inl h6)
    refine ⟨a',es2,c2,by rw [heq];rfl,⟨by omega,by omega⟩,pn,by rw [heq];rfl,_,_,_,rfl,⟨by omega,by omega⟩,fun N3 hN3=>?_⟩
    exact zIt (zP hes2 (j:=0) (by omega)) hq1 pn (hFp.mem _ (zT (l:=pl) (i:=0) (by omega))).z hFq.z N3 _ fun dx N4 hN4 hx _ _ _ N5 hN5=>hQ _ _ (by omega) hx
   ·rw [if_neg (fun h=>by rw [hv] at h;cases h.2)] at hQ
    exact hQ _ _ (by omega) hd0
  ·rw [if_neg (fun h=>h6 h.1)] at hQ
   exact hQ _ _ hN1 hd0
 ·subst h8
  have h2:=a2 (.inr rfl)
  rw [if_neg (by decide),if_neg (by decide),if_neg (by decide),if_pos rfl] at hQ
  refine ⟨_,_,_,rfl,⟨by omega,by omega⟩,fun N1 hN1=>qL _ _ (zP hes (j:=0) (by omega)) N1 _ fun N2 hN2 _=>Br.of (fun hv=>?_) fun hv=>?_⟩
  ·rw [if_pos hv] at hQ
   refine ⟨_,_,_,rfl,⟨by omega,by omega⟩,_,rfl,_,_,_,rfl,⟨by omega,by omega⟩,fun N3 hN3=>?_⟩
   exact zIt (zP hes (j:=1) (by omega)) (zP hes (j:=0) (by omega)) nm (w1 1 (by omega)).z (w1 0 (by omega)).z N3 _ fun dx N4 hN4 hx _ _ _ N5 hN5=>hQ _ _ (by omega) hx
  ·rw [if_neg (by rw [hv];decide)] at hQ
   have hvc:(l.getD 1 tm0).vc≤1333333:=by have:=Tm.vc_cnt (l.getD 1 tm0);have:=(w1 1 (by omega)).c;omega
   have hfl:=Tm.fv_len (l.getD 1 tm0)
   have hc0:=(w1 0 (by omega)).c
   refine ⟨_,_,_,rfl,⟨by omega,by omega⟩,fun N3 hN3=>zDH _ _ (zP hes (j:=0) (by omega)) (by omega) N3 _ fun N4 hN4 _=>Br.of (fun hq=>?_) fun hq N5 hN5=>?_⟩
   ·refine ⟨_,_,_,rfl,⟨by omega,by omega⟩,_,rfl,fun N5 hN5=>xu _ _ (zP hes (j:=1) (by omega)) (by omega) N5 _ fun c8 N6 hN6 _ _=>⟨⟨rfl,rfl⟩,fun a9 _ N7 hN7 _=>zr _ (by omega) a9 c8 nm N7 _ fun N8 hN8 _=>?_⟩⟩
    have hany:((l.getD 1 tm0).fv.any fun x=>decide (nm=x))=decide (nm∈(l.getD 1 tm0).fv):=qB nm _
    rw [hany]
    refine Br.not (fun hn=>?_) fun hn N9 hN9=>?_
    ·rw [if_pos ⟨hq,of_decide_eq_false hn⟩] at hQ
     exact ⟨_,_,_,rfl,⟨by omega,by omega⟩,fun N9 hN9=>hQ _ _ (by omega) (zP hes (j:=1) (by omega))⟩
    ·rw [if_neg (fun h=>h.2 (of_decide_eq_true hn))] at hQ
     exact hQ _ _ (by omega) hd0
   ·rw [if_neg (fun h=>by rw [hq] at h;cases h.1)] at hQ
    exact hQ _ _ (by omega) hd0
 ·rw [if_neg h4,if_neg h5,if_neg h7,if_neg h8] at hQ
  exact hQ _ _ hN1 hd0
theorem zLZ {k n0:Int} {nm ot:ByteArray} {ty re:Ty} {l:List Tm} {d:D} (hd:(Tm.mk k nm ot n0 ty re l).Is d) (hG:(Tm.mk k nm ot n0 ty re l).G) (hS:∀ y∈l,∀ dy,y.Is dy→zGS 61 [.dg 9 dy] y.sim) (N:Nat) (Q:QT [.pk,.int .i64,.str,.str,.int .i64,.dc,.dc,.dc,.dc,.row 34 9])
  (hQ:∀ x4 x5 x6 x7 es' c' N',N≤N'→Tm.Hd nm ot ty re x4 x5 x6 x7→All2 Tm.Is (l.map Tm.sim) es'→Q k nm ot n0 x4 x5 x6 x7 es' c' N') :
  ACalls prog 75 [.pk,.int .i64,.str,.str,.int .i64,.dc,.dc,.dc,.dc,.row 34 9] [.dg 9 d,.fn 61 []] N Q:=by
 obtain ⟨t0,t1,r0,r1,a,es,c,rfl,hh,hlen,hes⟩:=Tm.is_mk.1 hd
 have hl:=hes.len
 obtain ⟨q1,q2,q3,_⟩:=hG
 refine tX N _ Q fun _=>⟨_,_,_,rfl,?_⟩
 refine up hes hlen (fun i xs=>∀ (done:List D) (q N':Nat),N≤N'→All2 Tm.Is ((l.map Tm.sim).take i) done→done.length=i →
  yG Q N done.length q a es c es.length i (.ag [.lit (.int .i64 k),.lit (.string nm),.lit (.string ot),.lit (.int .i64 n0),t0,t1,r0,r1,.sl a 9 es c]) 0 (bytes []) (bytes []) 0 0 none [] 0 0 none [] 0 none [] 0 done q N') ?_ ?_ [] 0 N (Nat.le_refl _) rfl rfl
 ·intro i hlt hi done q N' hN' hd hdl
  refine wd _ _ _ _ _ _ _ _ _ _ _ _ _ _ _ _ _ _ _ _ _ _ _ _ _ _ _ _ ?_
  rw [List.take_of_length_le (by simp;omega)] at hd
  rw [hlt]
  refine ⟨⟨rfl,rfl⟩,fun a1 hap _ N4 hN4 hbel=>?_⟩
  refine zIc hh q1 q2 a1 done q N4 _ fun x4 x5 x6 x7 N5 hN5 hh5 ho5 _=>⟨rfl,?_⟩
  have off:∀ y∈[x4,x5,x6,x7],Off [a1] y:=fun y hy a' ha' ad had hc=>by
   have h1:=hbel a' ha' ad had
   have h2:=ho5.lo _ (zD.2 ⟨y,hy,hc⟩)
   omega
  exact ⟨off x4 (by simp),off x5 (by simp),off x6 (by simp),off x7 (by simp),⟨rfl,rfl⟩,fun N6 hN6=>hQ _ _ _ _ _ _ _ (by omega) hh5 hd⟩
 ·intro i y xs hat _ ih2 done q N' hN' hd hdl
  have hbd:=hat.b
  refine wd _ _ _ _ _ _ _ _ _ _ _ _ _ _ _ _ _ _ _ _ _ _ _ _ _ _ _ _ ?_
  rw [hat.lt,Int.toNat_natCast,hat.w]
  refine ⟨⟨by omega,by omega⟩,fun N5 hN5=>hS y hat.m _ hat.r N5 _ fun dx N7 hN7 hx _ _=>⟨⟨rfl,rfl⟩,by unfold zK;rw [List.length_append];simp only [List.length_cons,List.length_nil];omega,fun c3=>?_⟩⟩
  exact ih2 _ _ _ (by omega) (by rw [wv (zEb hat.g)];exact hd.snoc hx) (by simp [hdl])
theorem zJ0 (hOp:OpC):∀ (e:Tm) (d:D),e.Is d→e.W→zGS 61 [.dg 9 d] e.sim:=by
 refine Tm.ind fun k nm ot n0 ty re l ih d hd hW N Q hQ=>?_
 have hll:=hW.z.g.2.2.1
 have hsim:(Tm.mk k nm ot n0 ty re l).sim=zMI (.mk k nm ot n0 ty re (l.map Tm.sim)):=by simp only [Tm.sim,vU]
 rw [hsim] at hQ
 refine zCg N _ Q fun _ N1 hN1=>zLZ hd hW.z.g (fun y hy dy hdy=>ih y hy dy hdy (hW.mem y hy)) N1 _ fun x4 x5 x6 x7 es' c' N2 hN2 hh' hes' _ _=>⟨⟨rfl,rfl⟩,fun a N3 hN3 _ N4 hN4=>?_⟩
 have hl':=hes'.len
 rw [List.length_map] at hl'
 exact zHW hOp (Tm.is_mk.2 ⟨_,_,_,_,_,_,_,rfl,hh',by omega,hes'⟩) (zNy hW) N4 _ fun x N5 hN5 hx _ _ N6 hN6=>hQ _ _ (by omega) hx
theorem zCo (hOp:OpC) {e:Tm} {d:D} (he:e.Is d) (hc:e.cnt≤4000000):zMp 31 [.dg 9 d] e.simplify:=fun N Q hQ=>by
 have hle:=zBc e
 have hG:=hle.g (Tm.G_cnt e (by omega))
 unfold Tm.simplify at hQ hG
 refine zCC N _ Q fun _ N1 hN1=>zDt e d he (by omega) N1 _ fun N2 hN2 _=>Br.not (fun hv N3 hN3=>?_) fun hv N3 hN3=>?_
 ·rw [if_neg (by rw [hv];decide)] at hQ
  exact zAS zEB he (Tm.G_cnt e (by omega)) (N0:=N) (by omega) (fun d N=>Q d N) fun d' N4 hN4 hd' ho=>hQ _ _ (by omega) hd' ho
 ·rw [if_pos hv] at hQ hG
  simp only [Tm.isPl,Bool.and_eq_true] at hv
  exact zJ0 hOp e d he ⟨wk_of e hv.1 hv.2,hc⟩ N3 _ fun x N4 hN4 hx _ _ N5 hN5=>zAS zEB hx hG (N0:=N) (by omega) (fun d N=>Q d N) fun d' N6 hN6 hd' ho=>hQ _ _ (by omega) hd' ho
open Go Go.Proofs Go.Proofs.Tryz Go.IntWalk Go.Maps Go.RowKit Go.ChangeMaps Go.WideMaps
theorem tS {P:Program} {ops:Array Oper} {Q:Exit→Act→World→Prop} {rest:List Nat} {i:Nat} {a:Act} {w w':World} {o:Oper} {v:Value} (ho:ops[i]?=some o) (hg:o.guard=none) (hr:(execOp a.eval o).run P w=.ok (.value v) w') (h:wpOps P ops Q rest (a.put o.dst v) w'):wpOps P ops Q (i::rest) a w:=by
 simp only [wpOps,ho,Region.wanted,hg,if_true]
 refine .inl ?_
 unfold Oper.wp
 rw [hr,Oper.upon_value]
 exact h
theorem zH5 {P:Program} {ops:Array Oper} {Q:Exit→Act→World→Prop} {rest:List Nat} {i:Nat} {a:Act} {w w':World} {o:Oper} (ho:ops[i]?=some o) (hg:o.guard=none) (hr:(execOp a.eval o).run P w=.ok .skip w') (h:wpOps P ops Q rest (a.put o.dst undef) w'):wpOps P ops Q (i::rest) a w:=by
 simp only [wpOps,ho,Region.wanted,hg,if_true]
 refine .inl ?_
 unfold Oper.wp
 rw [hr,Oper.upon_skip]
 exact h
theorem w9 {a:Act} {d:Nat} {v:Value} (h:d<a.tmps.size):(a.put (some d) v).eval (.tmp d)=v:=by
 simp [Act.put,Act.eval,Array.getD_eq_getD_getElem?,h]
theorem vZ {a:Act} {d t:Nat} {v:Value} (h:t≠d):(a.put (some d) v).eval (.tmp t)=a.eval (.tmp t):=by
 simp [Act.put,Act.eval,Array.getD_eq_getD_getElem?,Array.getElem?_setIfInBounds,Ne.symm h]
theorem zE4 {a:Act} {v:Value}:a.put none v=a:=rfl
theorem wW {a:Act} {d:Option Nat} {v:Value}:(a.put d v).tmps.size=a.tmps.size:=by cases d<;>simp [Act.put]
structure Mid where
 o4:Array Oper
 o5:Array Oper
 x:Code
 y:Code
 z:Code
 k:List Item
def zJh:List Item→Option Mid
 | .code (.region 4 o4 false)::.code (.seq (.region 5 o5 false) (.seq (.block 0 (.seq x y)) z))::k=>some ⟨o4,o5,x,y,z,k⟩
 | _=>none
theorem zJs {l:List Item} {m:Mid} (h:zJh l=some m):l=.code (.region 4 m.o4 false)::.code (.seq (.region 5 m.o5 false) (.seq (.block 0 (.seq m.x m.y)) m.z))::m.k:=by
 unfold zJh at h
 split at h
 ·cases h;rfl
 ·cases h
def opD (o:Oper):Op × Option Nat × Bool × TypeId:=(o.op,o.dst,o.guard.isNone,o.type)
def ops4:List (Op × Option Nat × Bool × TypeId):=[(.makeMap 126 none,some 15,true,126),(.insert 126 (.tmp 15) (.const (.string (bytes [43]))) (.const (.int .i64 0)),none,true,0),
 (.insert 126 (.tmp 15) (.const (.string (bytes [42]))) (.const (.int .i64 1)),none,true,0),(.insert 126 (.tmp 15) (.const (.string (bytes [45]))) (.const (.int .i64 0)),none,true,0),(.move (.tmp 15),some 16,true,126),(.assign (.tmp 16),some 5,true,126)]
def ops5:List (Op × Option Nat × Bool × TypeId):=[(.move (.tmp 5),some 18,true,126),(.fieldAddr 34 (.tmp 1) 1,some 19,true,0),(.load 9 (.tmp 19),some 20,true,9),(.lookup 126 (.tmp 18) (.tmp 20) true,some 21,true,94),(.move (.tmp 21),some 17,true,94),
 (.extract (.tmp 17) 0,some 22,true,3),(.extract (.tmp 17) 1,some 23,true,4),(.assign (.tmp 22),some 6,true,3),(.assign (.tmp 23),some 7,true,4)]
theorem zMN:(zJh (uZ prog 128 4)).isSome=true:=by kernel_rfl
theorem zOS:(zJh (uZ prog 128 4)).map (fun m=>.code m.x::.code m.y::.inBlock 0::.code m.z::m.k)=some (uZ prog 128 6):=by kernel_rfl
theorem zMy:(zJh (uZ prog 128 4)).map (fun m=>(m.o4.toList.map opD))=some ops4:=by kernel_rfl
theorem zNA:(zJh (uZ prog 128 4)).map (fun m=>(m.o5.toList.map opD))=some ops5:=by kernel_rfl
theorem vE {ops:Array Oper} {l:List (Op × Option Nat × Bool × TypeId)} (h:ops.toList.map opD=l) {i:Nat} {op:Op} {d:Option Nat} {t:TypeId} (hi:l[i]?=some (op,d,true,t)):∃ o,ops[i]?=some o∧o.op=op∧o.dst=d∧o.guard=none∧o.type=t:=by
 subst h
 rw [List.getElem?_map,Array.getElem?_toList] at hi
 cases ho:ops[i]? with
 | none=>rw [ho] at hi;cases hi
 | some o=>
   rw [ho] at hi
   simp only [Option.map_some,Option.some.injEq,opD,Prod.mk.injEq] at hi
   exact ⟨o,rfl,hi.1,hi.2.1,Option.isNone_iff_eq_none.1 hi.2.2.1,hi.2.2.2⟩
theorem ul9:prog.underlying 9=some .string:=by kernel_rfl
theorem ul3:prog.underlying 3=some (.int .i64):=by kernel_rfl
theorem zMg:prog.underlying 126=some (.map 9 3):=by kernel_rfl
theorem zQF (w:World):(zeroValue 3).run prog w=.ok (.int .i64 0) w:=by kernel_rfl
abbrev DU:=DataW Unit
def neutD:DU:=(((DataW.map []).put (.string (bytes [43]).data.toList) (.lit (.int .i64 0))).put (.string (bytes [42]).data.toList) (.lit (.int .i64 1))).put (.string (bytes [45]).data.toList) (.lit (.int .i64 0))
def y9 (s:ByteArray):Int:=if s=bytes [42] then 1 else 0
def xc (s:ByteArray):Bool:=decide (s=bytes [42])||(decide (s=bytes [43])||decide (s=bytes [45]))
theorem zIx:neutD=.map [(.string [42],.lit (.int .i64 1)),(.string [43],.lit (.int .i64 0)),(.string [45],.lit (.int .i64 0))]:=by rfl
theorem zMC (s:ByteArray) (n:UInt8):([n]==s.data.toList)=decide (s=⟨#[n]⟩):=by
 rw [Bool.eq_iff_iff,beq_iff_eq,decide_eq_true_iff]
 constructor
 ·intro h
  cases s with
  | mk d=>
  cases d with
  | mk l=>simp at h;subst h;rfl
 ·rintro rfl;rfl
theorem zMU (s:ByteArray):Maps.has neutD (.string s.data.toList)=xc s:=by
 rw [zIx]
 simp only [Maps.has,List.any_cons,List.any_nil,Lit.sameKey,zMC,Bool.or_false]
 rfl
theorem zN5 (s:ByteArray):neutD.atKey (.string s.data.toList) (.lit (.int .i64 0))=.lit (.int .i64 (y9 s)):=by
 rw [zIx]
 simp only [DataW.atKey,List.find?_cons,List.find?_nil,Lit.sameKey,zMC]
 unfold y9
 by_cases h1:s=bytes [42]
 ·subst h1;rfl
 ·have e1:decide (s=(⟨#[42]⟩:ByteArray))=false:=decide_eq_false h1
  rw [e1,if_neg h1]
  by_cases h2:s=bytes [43]
  ·subst h2;rfl
  ·have e2:decide (s=(⟨#[43]⟩:ByteArray))=false:=decide_eq_false h2
   rw [e2]
   by_cases h3:s=bytes [45]
   ·subst h3;rfl
   ·have e3:decide (s=(⟨#[45]⟩:ByteArray))=false:=decide_eq_false h3
    rw [e3]
theorem zGR {w w':World} {b:Nat} (hb:w.heap[b]?=some (.map #[] 0)) (h:w.mapTurned w' b):w'.heap.size=w.heap.size∧w'.os=w.os∧w'.output=w.output∧(∀ k,k≠b→w'.heap[k]?=w.heap[k]?)∧∃ es c,w'.heap[b]?=some (.map es c):=by
 obtain ⟨es,clock,es',clock',h1,rfl⟩:=h
 exact ⟨by simp [setBlock],rfl,rfl,fun k hk=>heap_setBlock_other h1 _ hk,_,_,heap_setBlock_same h1 _⟩
theorem zLH {Q:QT [.ag 9]} {N0:Nat} {v0:Value} {s:ByteArray} {x2 x3 x4 x5 x6 x7 x8:D} (hs:s.size≤4611686018427387904) (N:Nat)
  (h:∀ N',N≤N'→wl Q N0 (.ag [.lit v0,.lit (.string s),x2,x3,x4,x5,x6,x7,x8]) 0 (bytes []) (bytes []) 0 0 none [] 0 0 none [] 0 none [] 0 (y9 s) (xc s) N') :
  yv Q N0 (.ag [.lit v0,.lit (.string s),x2,x3,x4,x5,x6,x7,x8]) 0 (bytes []) (bytes []) 0 0 none [] 0 0 none [] 0 none [] 0 N:=by
 unfold yv
 refine ⟨fun av w0 a w e hN hr=>?_⟩
 obtain ⟨m,hm⟩:=Option.isSome_iff_exists.1 zMN
 have h6:=zOS
 have h4:=zMy
 have h5:=zNA
 rw [hm,Option.map_some,Option.some.injEq] at h6 h4 h5
 rw [zJs hm]
 have hsz:55≤a.tmps.size:=hr.sz
 have hlen4:m.o4.size=6:=by have:=congrArg List.length h4;simpa [ops4] using this
 have hlen5:m.o5.size=9:=by have:=congrArg List.length h5;simpa [ops5] using this
 -- the map is made and written
 have own1:=World.ownsMap_made w prog 9 (plainElem (H:=Unit) prog 3)
 have hB:(w.alloc (.map #[] 0)).heap[w.heap.size]?=some (.map #[] 0):=(MapKept.heap_alloc w _).1
 obtain ⟨w2,r2,own2,t2⟩:=own1.store (string_keyed ul9) zMg (by unfold maxLen;omega) (keyOf_string_mk ul9 (s:=bytes [43]) (by decide)) (plainElem_int ul3 (a:=0) (by decide))
 obtain ⟨w3,r3,own3,t3⟩:=own2.store (string_keyed ul9) zMg (by unfold maxLen;omega) (keyOf_string_mk ul9 (s:=bytes [42]) (by decide)) (plainElem_int ul3 (a:=1) (by decide))
 obtain ⟨w4,r4,own4,t4⟩:=own3.store (string_keyed ul9) zMg (by unfold maxLen;omega) (keyOf_string_mk ul9 (s:=bytes [45]) (by decide)) (plainElem_int ul3 (a:=0) (by decide))
 obtain ⟨z1,z2,z3,z4,z5⟩:=zGR hB ((t2.trans t3).trans t4)
 have hold:∀ k,k<w.heap.size→w4.heap[k]?=w.heap[k]?:=fun k hk=>(z4 k (by omega)).trans ((MapKept.heap_alloc w _).2 k hk)
 have hsz4:w4.heap.size=w.heap.size+1:=by rw [z1];simp
 have hR:=(zKc hr (w':=w4) (e':=[]) (rows:=[]) (av':=fun b=>zI av [] e [.vd (.ag [.lit v0,.lit (.string s),x2,x3,x4,x5,x6,x7,x8]) 9,.var [.int .i64 0,.str (bytes []),.str (bytes []),.int .i64 0,.int .i64 0,.sv none 2 [] 0,.int .i64 0,.sv none 2 [] 0,.sv none 9 [] 0]] b) (bb:=[]) (by simp) (fun b hb=>.inl hb) (by omega) hold
  ⟨rfl,by simp,by simp,by simp,fun k j b hk=>by simp [Lives] at hk⟩ (by simp) (fun k b hk=>by simp [Env.at] at hk) (by simp)
  (fun b c t z hb hc=>by
   by_cases hb2:b=w.heap.size
   ·subst hb2;obtain ⟨es,cl,hz⟩:=z5;rw [hz] at hc;cases hc
   ·rw [Array.getElem?_eq_none (by omega)] at hc;cases hc) ⟨z2,z3⟩).1
 rw [List.append_nil,List.append_nil] at hR
 have ev:∀ (a:Act) (v:Value),a.eval (.const v)=v:=fun _ _=>rfl
 -- the first region
 refine qy (wp_region ?_)
 rw [hlen4]
 show wpOps prog m.o4 _ [0,1,2,3,4,5] a w
 obtain ⟨o0,q0,p0,d0,g0,y0⟩:=vE h4 (i:=0) rfl
 obtain ⟨o1,q1,p1,d1,g1,y1⟩:=vE h4 (i:=1) rfl
 obtain ⟨o2,q2,p2,d2,g2,y2⟩:=vE h4 (i:=2) rfl
 obtain ⟨o3,q3,p3,d3,g3,y3⟩:=vE h4 (i:=3) rfl
 obtain ⟨o4,q4,p4,d4,g4,y4⟩:=vE h4 (i:=4) rfl
 obtain ⟨o5,q5,p5,d5,g5,y5⟩:=vE h4 (i:=5) rfl
 refine tS q0 g0 (v:=.map (some w.heap.size)) (w':=w.alloc (.map #[] 0)) (by simp [execOp,p0,run_makeMap,Result.andThen]) ?_
 rw [d0]
 have hR1:=zU (dst:=some 15) (v:=.map (some w.heap.size)) (p:=.any) hR yX (fun i hi _=>hi)
 have e15:(a.put (some 15) (.map (some w.heap.size))).eval (.tmp 15)=.map (some w.heap.size):=w9 (by omega)
 have s1:55≤(a.put (some 15) (.map (some w.heap.size))).tmps.size:=by rw [wW];exact hsz
 generalize a.put (some 15) (.map (some w.heap.size))=a1 at hR1 e15 s1
 refine zH5 q1 g1 (w':=w2) (by simp [execOp,p1,e15,ev,r2,Result.andThen]) ?_
 rw [d1,zE4]
 refine zH5 q2 g2 (w':=w3) (by simp [execOp,p2,e15,ev,r3,Result.andThen]) ?_
 rw [d2,zE4]
 refine zH5 q3 g3 (w':=w4) (by simp [execOp,p3,e15,ev,r4,Result.andThen]) ?_
 rw [d3,zE4]
 refine tS q4 g4 (v:=.map (some w.heap.size)) (w':=w4) (by simp [execOp,p4,e15]) ?_
 rw [d4]
 have hR2:=zU (dst:=some 16) (v:=.map (some w.heap.size)) (p:=.any) hR1 yX (fun i hi _=>hi)
 have e16:(a1.put (some 16) (.map (some w.heap.size))).eval (.tmp 16)=.map (some w.heap.size):=w9 (by omega)
 have s2:55≤(a1.put (some 16) (.map (some w.heap.size))).tmps.size:=by rw [wW];exact s1
 generalize a1.put (some 16) (.map (some w.heap.size))=a2 at hR2 e16 s2
 refine tS q5 g5 (v:=.map (some w.heap.size)) (w':=w4) (by simp [execOp,p5,e16]) ?_
 rw [d5]
 have hR3:=zU (dst:=some 5) (v:=.map (some w.heap.size)) (p:=.any) hR2 yX (fun i hi _=>hi)
 have e5:(a2.put (some 5) (.map (some w.heap.size))).eval (.tmp 5)=.map (some w.heap.size):=w9 (by omega)
 have s3:55≤(a2.put (some 5) (.map (some w.heap.size))).tmps.size:=by rw [wW];exact s2
 generalize a2.put (some 5) (.map (some w.heap.size))=a3 at hR3 e5 s3
 refine ⟨rfl,yI (fun cs=>step_seq) (qy (wp_region ?_))⟩
 -- the second region
 rw [hlen5]
 show wpOps prog m.o5 _ [0,1,2,3,4,5,6,7,8] a3 w4
 clear q0 q1 q2 q3 q4 q5
 obtain ⟨o0,q0,p0,d0,g0,y0⟩:=vE h5 (i:=0) rfl
 obtain ⟨o1,q1,p1,d1,g1,y1⟩:=vE h5 (i:=1) rfl
 obtain ⟨o2,q2,p2,d2,g2,y2⟩:=vE h5 (i:=2) rfl
 obtain ⟨o3,q3,p3,d3,g3,y3⟩:=vE h5 (i:=3) rfl
 obtain ⟨o4,q4,p4,d4,g4,y4⟩:=vE h5 (i:=4) rfl
 obtain ⟨o5,q5,p5,d5,g5,y5⟩:=vE h5 (i:=5) rfl
 obtain ⟨o6,q6,p6,d6,g6,y6⟩:=vE h5 (i:=6) rfl
 obtain ⟨o7,q7,p7,d7,g7,y7⟩:=vE h5 (i:=7) rfl
 obtain ⟨o8,q8,p8,d8,g8,y8⟩:=vE h5 (i:=8) rfl
 refine tS q0 g0 (v:=.map (some w.heap.size)) (w':=w4) (by simp [execOp,p0,e5]) ?_
 rw [d0]
 have hR4:=zU (dst:=some 18) (v:=.map (some w.heap.size)) (p:=.any) hR3 yX (fun i hi _=>hi)
 have e18:(a3.put (some 18) (.map (some w.heap.size))).eval (.tmp 18)=.map (some w.heap.size):=w9 (by omega)
 have s4:55≤(a3.put (some 18) (.map (some w.heap.size))).tmps.size:=by rw [wW];exact s3
 generalize a3.put (some 18) (.map (some w.heap.size))=a4 at hR4 e18 s4
 have hS:Rel av w0 [] [] [] a4 w4 e ⟨an 1 (.pb 0 0 0 0::.pb 1 0 0 0::an 52 []),[.vd (.ag [.lit v0,.lit (.string s),x2,x3,x4,x5,x6,x7,x8]) 9,.var [.int .i64 0,.str (bytes []),.str (bytes []),.int .i64 0,.int .i64 0,.sv none 2 [] 0,.int .i64 0,.sv none 2 [] 0,.sv none 9 [] 0]],w4.heap.size,none⟩:=hR4
 clear hR hR1 hR2 hR3 hR4
 have ef:nev prog (opd (an 1 (.pb 0 0 0 0::.pb 1 0 0 0::an 52 []))) (fun k=>([.vd (.ag [.lit v0,.lit (.string s),x2,x3,x4,x5,x6,x7,x8]) 9,.var [.int .i64 0,.str (bytes []),.str (bytes []),.int .i64 0,.int .i64 0,.sv none 2 [] 0,.int .i64 0,.sv none 2 [] 0,.sv none 9 [] 0]]:List Bx)[k]?) (.fieldAddr 34 (.tmp 1) 1) 0 (fun r=>r=Res.v (.pb 0 0 0 1))=(Res.v (.pb 0 0 0 1)=Res.v (.pb 0 0 0 1)):=by kernel_rfl
 rcases qQ hS (o:=o1) (R:=fun r=>r=Res.v (.pb 0 0 0 1)) (by simp) (by rw [p1,y1,ef]) with ⟨vf,pf,k1,k2,k3⟩ | ⟨vf,c,t,B,f,k1,k2,k3⟩
 rotate_left
 ·cases k2
 cases k2
 refine tS q1 g1 k1 ?_
 rw [d1]
 have hF:Rel av w0 [] [] [] (a4.put (some 19) vf) w4 e ⟨an 1 (.pb 0 0 0 0::.pb 1 0 0 0::an 16 (.pb 0 0 0 1::an 35 [])),[.vd (.ag [.lit v0,.lit (.string s),x2,x3,x4,x5,x6,x7,x8]) 9,.var [.int .i64 0,.str (bytes []),.str (bytes []),.int .i64 0,.int .i64 0,.sv none 2 [] 0,.int .i64 0,.sv none 2 [] 0,.sv none 9 [] 0]],w4.heap.size,none⟩:=zU (dst:=some 19) hS k3 (fun i hi _=>hi)
 have hR5:Rel av w0 [] [] [] (a4.put (some 19) vf) w4 e ⟨an 1 (.pb 0 0 0 0::.pb 1 0 0 0::an 52 []),[.vd (.ag [.lit v0,.lit (.string s),x2,x3,x4,x5,x6,x7,x8]) 9,.var [.int .i64 0,.str (bytes []),.str (bytes []),.int .i64 0,.int .i64 0,.sv none 2 [] 0,.int .i64 0,.sv none 2 [] 0,.sv none 9 [] 0]],w4.heap.size,none⟩:=zU (dst:=some 19) (p:=.any) hS yX (fun i hi _=>hi)
 have e18b:(a4.put (some 19) vf).eval (.tmp 18)=.map (some w.heap.size):=by rw [vZ (by decide)];exact e18
 have s5:55≤(a4.put (some 19) vf).tmps.size:=by rw [wW];exact s4
 generalize a4.put (some 19) vf=a5 at hF hR5 e18b s5
 have el:nev prog (opd (an 1 (.pb 0 0 0 0::.pb 1 0 0 0::an 16 (.pb 0 0 0 1::an 35 [])))) (fun k=>([.vd (.ag [.lit v0,.lit (.string s),x2,x3,x4,x5,x6,x7,x8]) 9,.var [.int .i64 0,.str (bytes []),.str (bytes []),.int .i64 0,.int .i64 0,.sv none 2 [] 0,.int .i64 0,.sv none 2 [] 0,.sv none 9 [] 0]]:List Bx)[k]?) (.load 9 (.tmp 19)) 9 (fun r=>r=Res.v (.str s))=(∃ v,D.lit (.string s)=D.lit (.string v)∧Res.v (.str v)=Res.v (.str s)):=by kernel_rfl
 rcases qQ hF (o:=o2) (R:=fun r=>r=Res.v (.str s)) (by simp) (by rw [p2,y2,el];exact ⟨s,rfl,rfl⟩) with ⟨vs,ps,k4,k5,k6⟩ | ⟨vs,c,t,B,f,k4,k5,k6⟩
 rotate_left
 ·cases k5
 cases k5
 obtain rfl:vs=.string s:=k6.1.resolve_left (by simp)
 refine tS q2 g2 k4 ?_
 rw [d2]
 have hR6:=zU (dst:=some 20) (v:=.string s) (p:=.any) hR5 yX (fun i hi _=>hi)
 have e20:(a5.put (some 20) (.string s)).eval (.tmp 20)=.string s:=w9 (by omega)
 have e18c:(a5.put (some 20) (.string s)).eval (.tmp 18)=.map (some w.heap.size):=by rw [vZ (by decide)];exact e18b
 have s6:55≤(a5.put (some 20) (.string s)).tmps.size:=by rw [wW];exact s5
 generalize a5.put (some 20) (.string s)=a6 at hR6 e20 e18c s6
 have own5:w4.ownsMap prog 9 (plainElem (H:=Unit) prog 3) w.heap.size 3 neutD:=own4
 obtain ⟨vl,ps,rl,hl⟩:=own5.look_ok (string_keyed ul9) zMg (zQF w4) (plainElem_int ul3 (a:=0) (by decide)) (keyOf_string_mk ul9 (s:=s) (by unfold maxLen;omega))
 rw [zN5] at hl
 rw [zMU] at rl
 obtain ⟨cv,rfl,hc,_⟩:=plainElem_int_inv ul3 hl
 obtain rfl:y9 s=cv:=by
  have:=congrArg Prod.fst hc
  simpa using this
 refine tS q3 g3 (v:=.tuple #[.int .i64 (y9 s),.bool (xc s)]) (w':=w4) (by simp [execOp,p3,e18c,e20,rl,Result.andThen]) ?_
 rw [d3]
 have hR7:=zU (dst:=some 21) (v:=.tuple #[.int .i64 (y9 s),.bool (xc s)]) (p:=.any) hR6 yX (fun i hi _=>hi)
 have e21:(a6.put (some 21) (.tuple #[.int .i64 (y9 s),.bool (xc s)])).eval (.tmp 21)=.tuple #[.int .i64 (y9 s),.bool (xc s)]:=w9 (by omega)
 have s7:55≤(a6.put (some 21) (.tuple #[.int .i64 (y9 s),.bool (xc s)])).tmps.size:=by rw [wW];exact s6
 generalize a6.put (some 21) (.tuple #[.int .i64 (y9 s),.bool (xc s)])=a7 at hR7 e21 s7
 refine tS q4 g4 (v:=.tuple #[.int .i64 (y9 s),.bool (xc s)]) (w':=w4) (by simp [execOp,p4,e21]) ?_
 rw [d4]
 have hR8:=zU (dst:=some 17) (v:=.tuple #[.int .i64 (y9 s),.bool (xc s)]) (p:=.any) hR7 yX (fun i hi _=>hi)
 have e17:(a7.put (some 17) (.tuple #[.int .i64 (y9 s),.bool (xc s)])).eval (.tmp 17)=.tuple #[.int .i64 (y9 s),.bool (xc s)]:=w9 (by omega)
 have s8:55≤(a7.put (some 17) (.tuple #[.int .i64 (y9 s),.bool (xc s)])).tmps.size:=by rw [wW];exact s7
 generalize a7.put (some 17) (.tuple #[.int .i64 (y9 s),.bool (xc s)])=a8 at hR8 e17 s8
 refine tS q5 g5 (v:=.int .i64 (y9 s)) (w':=w4) (by simp [execOp,p5,e17,Instr.extract,Result.andThen]) ?_
 rw [d5]
 have hR9:=zU (dst:=some 22) (v:=.int .i64 (y9 s)) (p:=.any) hR8 yX (fun i hi _=>hi)
 have e22:(a8.put (some 22) (.int .i64 (y9 s))).eval (.tmp 22)=.int .i64 (y9 s):=w9 (by omega)
 have e17b:(a8.put (some 22) (.int .i64 (y9 s))).eval (.tmp 17)=.tuple #[.int .i64 (y9 s),.bool (xc s)]:=by rw [vZ (by decide)];exact e17
 have s9:55≤(a8.put (some 22) (.int .i64 (y9 s))).tmps.size:=by rw [wW];exact s8
 generalize a8.put (some 22) (.int .i64 (y9 s))=a9 at hR9 e22 e17b s9
 refine tS q6 g6 (v:=.bool (xc s)) (w':=w4) (by simp [execOp,p6,e17b,Instr.extract,Result.andThen]) ?_
 rw [d6]
 have hR10:=zU (dst:=some 23) (v:=.bool (xc s)) (p:=.any) hR9 yX (fun i hi _=>hi)
 have e23:(a9.put (some 23) (.bool (xc s))).eval (.tmp 23)=.bool (xc s):=w9 (by omega)
 have e22b:(a9.put (some 23) (.bool (xc s))).eval (.tmp 22)=.int .i64 (y9 s):=by rw [vZ (by decide)];exact e22
 have s10:55≤(a9.put (some 23) (.bool (xc s))).tmps.size:=by rw [wW];exact s9
 generalize a9.put (some 23) (.bool (xc s))=a10 at hR10 e23 e22b s10
 refine tS q7 g7 (v:=.int .i64 (y9 s)) (w':=w4) (by simp [execOp,p7,e22b]) ?_
 rw [d7]
 have hR11:=zU (dst:=some 6) (v:=.int .i64 (y9 s)) (p:=.int .i64 (y9 s)) hR10 zS (fun i hi _=>hi)
 have e23b:(a10.put (some 6) (.int .i64 (y9 s))).eval (.tmp 23)=.bool (xc s):=by rw [vZ (by decide)];exact e23
 generalize a10.put (some 6) (.int .i64 (y9 s))=a11 at hR11 e23b
 refine tS q8 g8 (v:=.bool (xc s)) (w':=w4) (by simp [execOp,p8,e23b]) ?_
 rw [d8]
 have hR12:=zU (dst:=some 7) (v:=.bool (xc s)) (p:=.bool (xc s)) hR11 zR (fun i hi _=>hi)
 generalize a11.put (some 7) (.bool (xc s))=a12 at hR12
 refine ⟨rfl,yI (fun cs=>step_seq) (yI (fun cs=>step_block) (yI (fun cs=>step_seq) ?_))⟩
 rw [h6]
 have hNN:N≤w4.heap.size:=by have:N≤w.heap.size:=hr.hN;omega
 exact (h w4.heap.size hNN).h av w0 a12 w4 e hN hR12
end Go.Proofs.YtnpjpplbkoammaaGreatDoor
