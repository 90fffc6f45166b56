/- The law FnResults: for all inputs it answers true. -/
import Derived.Test.YtkdjhkfiolhkiaaGreatWy
import Derived.Test.YtkdjhkfiolhkiaaGreatYd
import Derived.Test.YtkdjhkfiolhkiaaGreatKd
set_option linter.unusedVariables false
set_option linter.unusedSimpArgs false
set_option maxRecDepth 100000
namespace Go.Proofs.YtkdjhkfiolhkiaaGreat
open Go Go.Proofs Go.Proofs.Tryz Go.IntWalk
theorem zAT:∀ (t:Tm) (d e:D),t.Is d->t.Is e->vK 53 [.dg 9 d,.dg 9 e] true:=by
 refine Tm.ind fun k nm ot m ty re l ih d e hd he N Q hQ=>?_
 obtain ⟨t0,t1,r0,r1,a,es,c,rfl,hh,hlen,hes⟩:=Tm.is_mk.1 hd
 obtain ⟨u0,u1,v0,v1,a',es',c',rfl,hh',hlen',hes'⟩:=Tm.is_mk.1 he
 have hl:=hes.len
 have hl':=hes'.len
 refine zA3 N _ _ Q fun _ _=>⟨k,rfl,k,rfl,Br.bne (fun h=>absurd rfl h) fun _=>⟨nm,rfl,nm,rfl,Br.of (fun h=>by simp at h) fun _=>⟨ot,rfl,ot,rfl,Br.of (fun h=>by simp at h) fun _=>⟨m,rfl,m,rfl,Br.bne (fun h=>absurd rfl h) fun _ N1 hN1=>?_⟩⟩⟩⟩
 refine wr ty ty _ _ hh.ty hh'.ty N1 _ fun N2 hN2 _=>Br.of (fun h=>by rw [pT] at h;cases h) fun _ N3 hN3=>wr re re _ _ hh.re hh'.re N3 _ fun N4 hN4 _=>Br.of (fun h=>by rw [pT] at h;cases h) fun _=>⟨_,_,_,rfl,_,_,_,rfl,Br.bne (fun h=>by omega) fun _=>?_⟩
 refine up hes hlen (fun i xs=>∀ (N':Nat),N<=N'->yq Q N i _ _ N') ?_ ?_ N4 (by omega)
 ·intro i hlt hi N' hN'
  exact uH _ _ _ _ _ _ ⟨_,_,_,rfl,Br.of (fun h=>by rw [hlt] at h;cases h) fun _ N5 hN5=>hQ _ (by omega)⟩
 ·intro i x xs hat _ ih2 N' hN'
  have hb:=hat.b
  refine uH _ _ _ _ _ _ ⟨_,_,_,rfl,Br.of (fun _=>⟨_,_,_,rfl,hb,_,_,_,rfl,⟨by omega,by omega⟩,fun N5 hN5=>?_⟩) fun h=>by rw [hat.lt] at h;cases h⟩
  rw [oJ,hat.w]
  exact ih x hat.m _ _ hat.r (hes'.get hat.g) N5 _ fun N6 hN6 _=>Br.of (fun h=>by cases h) fun _=>ih2 N6 (by omega)
/-- a result, of whatever data -/
def Tm.rs (t:Tm):Bool:=t.ok&&t.res
theorem zAG {e:Tm} {d:D} (he:e.Is d) (hc:e.cnt<=1073741824):vK 51 [.dg 9 d] e.rs:=fun N Q hQ=>by
 cases hok:e.ok with
 | true=>exact zJ7 he hok hc N Q fun N' h=>Qb (hQ N' h) (by rw [Tm.rs,hok,Bool.true_and])
 | false=>
   have hI:=wN e d he hc
   rw [hok] at hI
   have no:∀ N',N<=N'->Q false N':=fun N' h=>Qb (hQ N' h) (by rw [Tm.rs,hok,Bool.false_and])
   cases e with
   | mk k nm ot n0 ty re l=>
   obtain ⟨t0,t1,r0,r1,a,es,c,rfl,hh,hlen,hes⟩:=Tm.is_mk.1 he
   have two:∀ N1,N<=N1->ACalls prog 119 [.bool] [.dg 9 (.ag [.lit (.int .i64 k),.lit (.string nm),.lit (.string ot),.lit (.int .i64 n0),t0,t1,r0,r1,.sl a 9 es c])] N1 (fun b N2=>N1<=N2->∀ N3,N2<=N3->Q b N3):=fun N1 hN1=>hI N1 _ fun N2 hN2 _ N3 hN3=>no _ (by omega)
   exact sO N _ Q fun _=>⟨_,rfl,Br.of (fun _ N1 hN1=>two N1 hN1) fun _=>Br.of (fun _ N1 hN1=>two N1 hN1) fun _=>Br.of (fun _ N1 hN1=>two N1 hN1) fun _=>Br.of (fun _ N1 hN1=>two N1 hN1) fun _=>Br.of (fun _ N1 hN1=>hI N1 _ fun N2 hN2 _=>Br.of (fun h=>by cases h) fun _ N3 hN3=>no _ (by omega)) fun _ N1 hN1=>no _ hN1⟩
theorem zEg {e:Tm} {d:D} (he:e.Is d) (hc:e.cnt<=1073741824):vK 52 [.dg 9 d] e.rs:=fun N Q hQ=>by
 have hdc:=Tm.dp_cnt e
 refine zC6 N d Q fun _ N1 hN1=>vD e d he hc N1 _ fun N2 hN2 _=>Br.of (fun hok N3 hN3=>zQ he hok (by omega) N3 _ fun N4 hN4 _ N5 hN5=>Qb (hQ _ (by omega)) (by rw [Tm.rs,hok,Bool.true_and])) fun hok N3 hN3=>Qb (hQ _ (by omega)) (by rw [Tm.rs,hok,Bool.false_and])
def Tm.cpt (e:Tm):Tm × Bool:=if e.kd=10/\e.rs=true then (e.pt 0,true) else (tm0,false)
theorem zQe {k n0:Int} {nm ot:ByteArray} {ty re:Ty} {l:List Tm} (h:(Tm.mk k nm ot n0 ty re l).rs=true) (hk:k=10):l.length=1:=by
 simp only [Tm.rs,oL] at h
 exact (uK h.1).1 (by omega)
theorem zAl {e:Tm} {d:D} (he:e.Is d) (hc:e.cnt<=1073741824):zLK 48 [.dg 9 d] e.cpt:=fun N Q hQ=>by
 have hR:=zAG he hc
 cases e with
 | mk k nm ot n0 ty re l=>
 have hG:=Tm.G_cnt _ hc
 obtain ⟨t0,t1,r0,r1,a,es,c,rfl,hh,hlen,hes⟩:=Tm.is_mk.1 he
 have hl:=hes.len
 refine zCo N _ Q fun _=>⟨_,rfl,Br.bne (fun h10 N1 hN1=>?_) fun h10 N2 hN2=>hR N2 _ fun N3 hN3 _=>Br.not (fun hv N4 hN4=>?_) fun hv=>?_⟩
 ·rw [Tm.cpt,if_neg (fun h=>h10 h.1)] at hQ
  exact hQ _ _ hN1 rL
 ·rw [Tm.cpt,if_neg (fun h=>by rw [hv] at h;exact absurd h.2 (by decide))] at hQ
  exact hQ _ _ (by omega) rL
 ·rw [Tm.cpt,if_pos ⟨h10,hv⟩] at hQ
  have hl1:=zQe hv h10
  refine ⟨_,_,_,rfl,⟨by omega,by omega⟩,fun N5 hN5=>?_⟩
  exact zH0 zOV (wV hes (j:=0) (by omega)) (yF hG.2.2.2 (zl (by omega))) (N0:=N) (by omega) (fun d N=>Q d true N) fun d' N7 hN7 hd' _=>hQ _ _ (by omega) hd'
theorem zHD {e:Tm} {d:D} (he:e.Is d) (hc:e.cnt<=1073741824):zLK 49 [.dg 9 d] e.cpt:=fun N Q hQ=>by
 have hR:=zEg he hc
 cases e with
 | mk k nm ot n0 ty re l=>
 have hG:=Tm.G_cnt _ hc
 obtain ⟨t0,t1,r0,r1,a,es,c,rfl,hh,hlen,hes⟩:=Tm.is_mk.1 he
 have hl:=hes.len
 refine zCY N _ Q fun _ N2 hN2=>hR N2 _ fun N3 hN3 _=>Br.not (fun hv N4 hN4=>?_) fun hv=>⟨_,rfl,Br.bne (fun h10 N1 hN1=>?_) fun h10=>?_⟩
 ·rw [Tm.cpt,if_neg (fun h=>by rw [hv] at h;exact absurd h.2 (by decide))] at hQ
  exact hQ _ _ (by omega) rL
 ·rw [Tm.cpt,if_neg (fun h=>h10 h.1)] at hQ
  exact hQ _ _ (by omega) rL
 ·rw [Tm.cpt,if_pos ⟨h10,hv⟩] at hQ
  have hl1:=zQe hv h10
  refine ⟨_,_,_,rfl,⟨by omega,by omega⟩,fun N5 hN5=>?_⟩
  exact zH0 uu (wV hes (j:=0) (by omega)) (yF hG.2.2.2 (zl (by omega))) (N0:=N) (by omega) (fun d N=>Q d true N) fun d' N7 hN7 hd' _=>hQ _ _ (by omega) hd'
def Tm.lft (e:Tm):Tm × Bool:=if (e.kd=2\/e.kd=3)/\e.ok=true then (Tm.nod 10 [e],true) else (tm0,false)
theorem zIU {e:Tm} {d:D} (he:e.Is d) (hc:e.cnt<=1073741824):zLK 46 [.dg 9 d] e.lft:=fun N Q hQ=>by
 cases hok:e.ok with
 | true=>exact zOE he hok hc N Q (by simpa only [Tm.lft,hok,and_true] using hQ)
 | false=>
   have hI:=wN e d he hc
   rw [hok] at hI
   rw [Tm.lft,if_neg (by rw [hok];simp)] at hQ
   cases e with
   | mk k nm ot n0 ty re l=>
   obtain ⟨t0,t1,r0,r1,a,es,c,rfl,hh,hlen,hes⟩:=Tm.is_mk.1 he
   exact qy N _ Q fun _=>⟨_,rfl,Br.of (fun _=>⟨_,rfl,Br.of (fun _ N1 hN1=>hQ _ _ hN1 rL) fun _ N1 hN1=>hI N1 _ fun N2 hN2 _=>Br.of (fun _ N3 hN3=>hQ _ _ (by omega) rL) fun h=>by cases h⟩) fun _ N1 hN1=>hI N1 _ fun N2 hN2 _=>Br.of (fun _ N3 hN3=>hQ _ _ (by omega) rL) fun h=>by cases h⟩
theorem zIo {e:Tm} {d:D} (he:e.Is d) (hc:e.cnt<=1073741824):zLK 47 [.dg 9 d] e.lft:=fun N Q hQ=>by
 have hI:=vD e d he hc
 cases e with
 | mk k nm ot n0 ty re l=>
 have he0:=he
 obtain ⟨t0,t1,r0,r1,a,es,c,rfl,hh,hlen,hes⟩:=Tm.is_mk.1 he
 have out:¬(((Tm.mk k nm ot n0 ty re l).kd=2\/(Tm.mk k nm ot n0 ty re l).kd=3)/\(Tm.mk k nm ot n0 ty re l).ok=true)->∀ N',N<=N'->Q (.ag [.lit (.int .i64 0),.lit (.string (bytes [])),.lit (.string (bytes [])),.lit (.int .i64 0),.lit (.int .i64 0),.sl none 2 [] 0,.lit (.int .i64 0),.sl none 2 [] 0,.sl none 9 [] 0]) false N':=fun h N' hN'=>by
  rw [Tm.lft,if_neg h] at hQ;exact hQ _ _ hN' rL
 refine zF3 N _ Q fun _ N1 hN1=>hI N1 _ fun N2 hN2 _=>Br.not (fun hv N3 hN3=>out (fun h=>by rw [hv] at h;exact absurd h.2 (by decide)) _ (by omega)) fun hv=>⟨k,rfl,Br.bne (fun h2=>⟨k,rfl,Br.bne (fun h3 N3 hN3=>out (fun h=>h.1.elim h2 h3) _ (by omega)) fun h3=>⟨⟨rfl,rfl⟩,fun a1 _ N3 hN3 hbel=>?_⟩⟩) fun h2=>⟨⟨rfl,rfl⟩,fun a1 _ N3 hN3 hbel=>?_⟩⟩
 ·rw [Tm.lft,if_pos ⟨.inr h3,hv⟩] at hQ
  exact si 10 (uI he0) (by simp) (by simpa using hc) a1 1 N3 _ fun d' N4 hN4 hd' ho _=>⟨wC hbel ho,fun _ N5 hN5=>hQ _ _ (by omega) hd'⟩
 ·rw [Tm.lft,if_pos ⟨.inl h2,hv⟩] at hQ
  exact si 10 (uI he0) (by simp) (by simpa using hc) a1 1 N3 _ fun d' N4 hN4 hd' ho _=>⟨wC hbel ho,fun _ N5 hN5=>hQ _ _ (by omega) hd'⟩
theorem zE1 {e:Tm} {d:D} (he:e.Is d) (hc:e.cnt<=1073741824):vK 127 [.dg 9 d] (((zA e.fv).length:Int)==0):=fun N Q hQ=>by
 have hvc:=Tm.vc_cnt e
 exact zBf N d Q fun _ N1 hN1=>zCz e d he (by omega) N1 _ fun c N2 hN2 _ _ N3 hN3=>hQ _ (by omega)
theorem zE0 {e:Tm} {d:D} (he:e.Is d) (hc:e.cnt<=1073741824):vK 40 [.dg 9 d] (((zA e.fv).length:Int)==0):=fun N Q hQ=>by
 have hvc:=Tm.vc_cnt e
 exact zBk N d Q fun _ N1 hN1=>xy e d he (by omega) N1 _ fun a c N2 hN2 _ _ _ N3 hN3=>hQ _ (by omega)
def Tm.opn (e:Tm):Bool:=!(((zA e.fv).length:Int)==0)&&zB9 e 0
theorem zIH {e:Tm} {d:D} (he:e.Is d) (hc:e.cnt<=1073741824):vK 54 [.dg 9 d] e.opn:=fun N Q hQ=>
 zEz N d Q fun _ N1 hN1=>zE1 he hc N1 _ fun N2 hN2 _=>Br.not (fun hv N3 hN3=>sS e d he hc 0 N3 _ fun N4 hN4 _ N5 hN5=>Qb (hQ _ (by omega)) (by rw [Tm.opn,hv];rfl)) fun hv N3 hN3=>Qb (hQ _ (by omega)) (by rw [Tm.opn,hv];rfl)
theorem zIL {e:Tm} {d:D} (he:e.Is d) (hc:e.cnt<=1073741824):vK 55 [.dg 9 d] e.opn:=fun N Q hQ=>
 zGZ N d Q fun _ N1 hN1=>tv e d he hc 0 N1 _ fun N2 hN2 _=>Br.of (fun hv N3 hN3=>zE0 he hc N3 _ fun N4 hN4 _ N5 hN5=>Qb (hQ _ (by omega)) (by rw [Tm.opn,hv,Bool.and_true])) fun hv N3 hN3=>Qb (hQ _ (by omega)) (by rw [Tm.opn,hv,mu])
def kinds:List ByteArray:=[bytes [118,97,114],bytes [105,110,116],bytes [98,111,111,108],bytes [111,112],bytes [105,102],bytes [108,97,109],bytes [97,112,112],bytes [108,101,116],bytes [114,101,99],bytes [113,117,111,116,101],bytes [115,112,108,105,99,101],bytes [114,117,110],bytes [108,105,102,116]]
def zJv (k:Int):ByteArray:=if inB k 1 13=true then kinds.getD (k - 1).toNat (bytes []) else bytes [63]
theorem zL1 {k:Int} (h1:1<=k) (h2:k<=13):(zA kinds).getD (0+(k - 1).toNat) default=D.lit (.string (kinds.getD (k - 1).toNat (bytes []))):=by
 have hl:(k - 1).toNat<kinds.length:=by show _<13;omega
 rw [nE]
 unfold zA
 rw [oA,oA,oE,oF hl]
 rfl
theorem zBm (k:Int):zJY 56 [.int .i64 k] (zJv k):=fun N Q hQ=>
 zCt N k Q fun N1 hN1=>yd k 1 13 N1 _ fun N2 hN2 _=>Br.not (fun hv N3 hN3=>by rw [zJv,if_neg (by rw [hv];simp)] at hQ;exact hQ _ (by omega)) fun hv=>by
  rw [zJv,if_pos hv] at hQ
  have hb:=xz.1 hv
  rw [i64_in (k - 1) (by omega)]
  exact ⟨⟨by omega,by omega,by omega⟩,by omega,_,zL1 hb.1 hb.2,fun N3 hN3=>hQ _ (by omega)⟩
theorem zCy (k:Int):zJY 57 [.int .i64 k] (zJv k):=fun N Q hQ=>
 zCd N k Q fun N1 hN1=>xB k 1 13 N1 _ fun N2 hN2 _=>Br.not (fun hv N3 hN3=>by rw [zJv,if_neg (by rw [hv];simp)] at hQ;exact hQ _ (by omega)) fun hv=>by
  rw [zJv,if_pos hv] at hQ
  have hb:=xz.1 hv
  rw [i64_in (k - 1) (by omega)]
  exact ⟨⟨by omega,by omega,by omega⟩,by omega,_,zL1 hb.1 hb.2,fun N3 hN3=>hQ _ (by omega)⟩
/-- what a run ends with is small -/
theorem zNu:∀ (m n:Nat) (x:Tm),Rch x->(zOc m n x).1.2.1.cnt<=4000000:=by
 intro m
 induction m with
 | zero=>
   intro n x hx
   rw [zDH]
   split
   ·show tm0.cnt<=4000000;decide
   ·rename_i h
    have:=zMI x (hx.o (by omega))
    split<;>(simp only;omega)
 | succ m ih=>
   intro n x hx
   rw [zDH]
   split
   ·show tm0.cnt<=4000000;decide
   ·rename_i h
    have:=zMI x (hx.o (by omega))
    split
    ·simp only;omega
    ·simp only
     split
     ·simp only;omega
     ·exact ih _ _ (hx.step (by omega))
theorem zIu {e:Tm} (hc:e.cnt<=4000000) (fu:Int):(zGQ e fu).2.1.cnt<=4000000:=by
 unfold zGQ
 split
 ·rename_i h
  have hok:e.ok=true:=by
   simp only [zB9,oL] at h;exact h.1.1
  exact zNu _ _ _ (Rch.of hok hc)
 ·decide
theorem zKT {es:List D} (hb:∀ d∈es,∃ n:Int,d=.lit (.int .u8 n)) (hl:es.length<=1073741824) (a:Option Addr) (c:Nat) (N:Nat) (Q:QT [.ag 9])
  (hQ:∀ d N',N<=N'->Some 4000000 d->Q d N'):ACalls prog 45 [.ag 9] [.sv a 0 es c] N Q:=by
 refine ro N a es c Q fun _ N1 hN1=>zP5 hb hl a c N1 _ fun h N2 hN2 hcu _ N3 hN3=>yW hcu 3 (by omega) a c h N3 _ fun r a1 es1 c1 i1 h1 N4 hN4 hc1 _ _ _ _ _=>Br.of (fun _ N5 hN5=>zPU hc1 a1 c1 h1 N5 _ fun d a2 es2 c2 i2 h2 N6 hN6 hc2 hd _ _ _ N7 hN7=>hQ _ _ (by omega) (hd.mono (by omega))) fun _=>Br.of (fun _ N5 hN5=>?_) fun _ N5 hN5=>zI7 hc1 a1 c1 h1 N5 _ fun d a2 es2 c2 i2 h2 N6 hN6 hc2 hd _ _ _ N7 hN7=>hQ _ _ (by omega) (hd.mono (by omega))
 refine zI7 hc1 a1 c1 h1 N5 _ fun d a2 es2 c2 i2 h2 N6 hN6 hc2 hd _ _ _ N7 hN7=>?_
 obtain ⟨t,ht,htc⟩:=hd
 refine zDx ht (by omega) 60 N7 _ fun w N8 hN8 hw _ _ N9 hN9=>?_
 have hcn:=zIu (e:=t) (by omega) 60
 obtain ⟨y0,y1,y2,y3,y4,y5,y6,y7,y8,rfl,hy⟩:=Rs.cells hw
 exact hQ _ _ (by omega) ⟨_,hy,hcn⟩
theorem zPI {e:Tm} (h:e.lft.2=true):e.rs=true/\e.lft.1.cpt=(e,true):=by
 unfold Tm.lft at h ⊢
 split at h
 ·rename_i hk
  rw [if_pos hk]
  cases e with
  | mk k nm ot n0 ty re l=>
  obtain ⟨hk,hok⟩:=hk
  have hk:k=2\/k=3:=hk
  have hl:l=[]:=oa (by
   have har:=(zLm hok).ar
   rcases hk with rfl | rfl<;>(have:(l.length:Int)=0:=har;omega))
  subst hl
  have h1:(Tm.mk k nm ot n0 ty re []).rs=true:=by
   rw [Tm.rs,hok]
   rcases hk with rfl | rfl<;>rfl
  refine ⟨h1,?_⟩
  have hz:Ty.zero (.mk 0 [])=true:=rfl
  have hn:(Tm.nod 10 [Tm.mk k nm ot n0 ty re []]).rs=true:=by
   have o:(Tm.nod 10 [Tm.mk k nm ot n0 ty re []]).ok=true:=by
    simp only [Tm.nod,Tm.ok,ut] at hok ⊢
    simp only [hok,Bool.true_and,Bool.and_true]
    have e:(([Tm.mk k nm ot n0 ty re []]:List Tm).length:Int)=1:=rfl
    rw [e]
    decide +kernel
   rw [Tm.rs,o]
   rcases hk with rfl | rfl<;>rfl
  unfold Tm.cpt
  rw [if_pos ⟨rfl,hn⟩]
  rfl
 ·cases h
theorem zIB {es:List D} (hb:∀ d∈es,∃ n:Int,d=.lit (.int .u8 n)) (a:Option Addr) (c:Nat) (N:Nat) :
  ACalls prog 6 [.bool] [.sv a 0 es c] N (fun r _=>r=true):=by
 refine zBR N a es c _ fun _ N1 hN1=>zJx N1 a es c _ fun _ N2 hN2 _=>Br.dec (fun _ N3 _=>rfl) fun hlen N4 hN4=>?_
 refine zKT hb (by omega) a c N4 _ fun d N5 hN5 hd _ _ N6 hN6=>?_
 obtain ⟨t,ht,htc⟩:=hd
 have hc:t.cnt<=1073741824:=by omega
 refine zIU ht hc N6 _ fun x1 N7 hN7 hx1 _ _ N8 hN8=>zIo ht hc N8 _ fun x2 N9 hN9 hx2 _ _ N10 hN10=>zAl ht hc N10 _ fun x3 N11 hN11 hx3 _ _ N12 hN12=>zHD ht hc N12 _ fun x4 N13 hN13 hx4 _ _ N14 hN14=>?_
 refine ri N14 a es c _ fun _ N15 hN15=>zP5 hb (by omega) a c N15 _ fun h N16 hN16 hcu _ N17 hN17=>yW hcu 16 (by omega) a c h N17 _ fun r a1 es1 c1 i1 h1 N18 hN18 hc1 _ _ _ _ _ N19 hN19 _ N20 hN20=>?_
 refine zAG ht hc N20 _ fun N21 hN21 _ N22 hN22=>zEg ht hc N22 _ fun N23 hN23 _=>Br.of (fun h=>by simp at h) fun _=>Br.of (fun h=>by simp at h) fun _ N24 hN24=>zAT _ x1 x2 hx1 hx2 N24 _ fun N25 hN25 _=>Br.of (fun h=>by cases h) fun _=>Br.of (fun h=>by simp at h) fun _ N26 hN26=>zAT _ x3 x4 hx3 hx4 N26 _ fun N27 hN27 _=>Br.of (fun h=>by cases h) fun _ N28 hN28=>?_
 refine zIH ht hc N28 _ fun N29 hN29 _ N30 hN30=>zIL ht hc N30 _ fun N31 hN31 _=>Br.of (fun h=>by simp at h) fun _ N32 hN32=>zBm _ N32 _ fun N33 hN33 _ N34 hN34=>zCy _ N34 _ fun N35 hN35 _=>Br.of (fun h=>by simp at h) fun _ N36 hN36=>?_
 have hlc:t.lft.1.cnt<=1073741824:=by
  unfold Tm.lft
  split
  ·simp only [Tm.nod,Tm.cnt,zI,Ty.cnt,zT];omega
  ·decide
 refine zAl hx1 hlc N36 _ fun x5 N37 hN37 hx5 _ _=>Br.not (fun _ N38 hN38=>rfl) fun hlt=>?_
 obtain ⟨r1,r2⟩:=zPI hlt
 rw [r2] at hx5 ⊢
 exact Br.of (fun _ N38 hN38=>zAT t x5 d hx5 ht N38 _ fun N39 hN39 _=>Br.of (fun _ N40 hN40=>zAG ht hc N40 _ fun N41 hN41 _ N42 hN42=>r1) fun h=>by cases h) fun h=>by cases h
end Go.Proofs.YtkdjhkfiolhkiaaGreat
