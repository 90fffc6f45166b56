/- A run's arguments, drawn; equal results. -/
import Derived.Test.YtfajiphkncipoaaGreatDoorC4
import Derived.Test.YtfajiphkncipoaaGreatDoorB4
import Derived.Test.YtfajiphkncipoaaGreatDoorKr
import Derived.Test.YtfajiphkncipoaaGreatDoorKd
import Derived.Test.YtfajiphkncipoaaGreatDoorB6
import Derived.Test.YtfajiphkncipoaaGreatDoorA6
set_option linter.unusedVariables false
set_option linter.unusedSimpArgs false
set_option maxRecDepth 100000
namespace Go.Proofs.YtfajiphkncipoaaGreatDoor
open Go Go.Proofs Go.Proofs.Tryz Go.IntWalk
theorem zNC:∀ (t:Tm) (d e:D),t.Is d->t.Is e->ue 14 [.dg 9 d,.dg 9 e] true:=by
 refine Tm.ind λk nm ot m ty re l ih d e hd he N Q hQ=>?_
 obtain ⟨t0,t1,r0,r1,a,es,c,rfl,hh,O,U⟩:=Tm.is_mk.1 hd
 obtain ⟨u0,u1,v0,v1,a',ai,c',rfl,Y,aa,J⟩:=Tm.is_mk.1 he
 have hl:=U.len
 have aj:=J.len
 refine zCx N _ _ Q λ_ _=>⟨k,rfl,k,rfl,Br.bne (λh=>absurd rfl h) λ_=>⟨nm,rfl,nm,rfl,Br.of (λh=>by simp at h) λ_=>⟨ot,rfl,ot,rfl,Br.of (λh=>by simp at h) λ_=>⟨m,rfl,m,rfl,Br.bne (λh=>absurd rfl h) λ_ N1 ak=>?_⟩⟩⟩⟩
 refine yC ty ty _ _ hh.ty Y.ty N1 _ λN2 al _=>Br.of (λh=>by rw [rg] at h;cases h) λ_ N3 am=>yC re re _ _ hh.re Y.re N3 _ λN4 ao _=>Br.of (λh=>by rw [rg] at h;cases h) λ_=>⟨_,_,_,rfl,_,_,_,rfl,Br.bne (λh=>by omega) λ_=>?_⟩
 refine up U O (λi xs=>∀ (N':Nat),N<=N'->xM Q N i _ _ N') ?_ ?_ N4 (by omega)
 ·intro i ab hi N' ac
  exact u7 _ _ _ _ _ _ ⟨_,_,_,rfl,Br.of (λh=>by rw [ab] at h;cases h) λ_ N5 ae=>hQ _ (by omega)⟩
 ·intro i x xs I _ ah N' ac
  have hb:=I.b
  refine u7 _ _ _ _ _ _ ⟨_,_,_,rfl,Br.of (λ_=>⟨_,_,_,rfl,hb,_,_,_,rfl,⟨by omega,by omega⟩,λN5 ae=>?_⟩) λh=>by rw [I.lt] at h;cases h⟩
  rw [oH,I.w]
  exact ih x I.m _ _ I.r (J.get I.g) N5 _ λN6 aq _=>Br.of (λh=>by cases h) λ_=>ah N6 (by omega)
/-- a term and a number of steps, drawn -/
theorem zQ6 {es:List D} (hb:∀ d∈es,∃ n:Int,d=.lit (.int .u8 n)) (hl:es.length<=1073741824) (a:Option Addr) (c:Nat) (N:Nat) (Q:QT [.ag 9,.int .i64])
  (hQ:∀ d n N',N<=N'->Some 2100000 d->Q d n N'):ACalls prog 45 [.ag 9,.int .i64] [.sv a 0 es c] N Q:=by
 refine zF4 N a es c Q λ_ N1 ak=>zUr hb hl a c N1 _ λh N2 al U _ N3 am=>zQA U a c h N3 _ λd a1 ao c1 i1 h1 N4 aq Y hd _ _ _ N5 au=>qL Y 10 (by omega) a1 c1 h1 N5 _ λb a2 aw c2 i2 h2 N6 ax I _ _=>Br.of (λ_ N7 aa=>?_) λ_ N7 aa=>?_
 ·refine zSU I a2 c2 h2 N7 _ λd' a3 ay c3 i3 h3 N8 az ab ac _ _ _ N9 a6=>?_
  exact uY (l:=[100,60,200,3,0,201, -1]) ab (by decide) (by decide) a3 c3 h3 7 7 N9 _ λs a' ae c' i' h' ah J ai _ _ _ _ aj O=>hQ _ _ _ (by omega) (ac.mono (by omega))
 ·exact uY (l:=[100,60,200,3,0,201, -1]) I (by decide) (by decide) a2 c2 h2 7 7 N7 _ λs a' ae c' i' h' ah J ai _ _ _ _ aj O=>hQ _ _ _ (by omega) (hd.mono (by omega))
theorem zUP {es:List D} (I:∀ d∈es,∃ n:Int,d=.lit (.int .u8 n)) (J:es.length<=1073741824) (a:Option Addr) (c:Nat) (N:Nat) (Q:QT [.ag 9,.int .i64])
  (O:∀ d n N',N<=N'->Some 2100000 d->Q d n N'):ACalls prog 18 [.ag 9,.int .i64] [.sv a 0 es c] N Q:=
 zA4 N a es c Q λ_ N1 U=>zQ6 I J a c N1 _ λd n N2 Y hd _ _ N3 aa=>O _ _ _ (by omega) hd
theorem zCL {r:Int × Tm × Nat} {d e:D} (hd:zQc r d) (I:zQc r e):ue 20 [.dg 11 d,.dg 11 e] true:=λN Q J=>by
 obtain ⟨y0,y1,y2,y3,y4,y5,y6,y7,y8,rfl,O⟩:=Rs.cells hd
 obtain ⟨z0,z1,z2,z3,z4,z5,z6,z7,z8,rfl,U⟩:=Rs.cells I
 exact zB2 N _ _ Q λ_ _=>⟨_,rfl,_,rfl,Br.beq (λ_=>⟨_,rfl,_,rfl,Br.beq (λ_ N2 Y=>zNC r.2.1 _ _ O U N2 _ λN3 aa _ N4 ab=>J _ (by omega)) λh=>absurd rfl h⟩) λh=>absurd rfl h⟩
end Go.Proofs.YtfajiphkncipoaaGreatDoor
set_option maxRecDepth 100000
namespace Go.Proofs.YtfajiphkncipoaaGreatDoor
open Go Go.Proofs Go.Proofs.Tryz Go.IntWalk
theorem zUA {k:Int} {a:Option Addr} {es:List D} {c:Nat} {l:List Tm} (h:All2 Tm.Is l es) (I:es.length<=4611686018427387904) :
  (Tm.nod k l).Is (.ag [.lit (.int .i64 k),.lit (.string (bytes [])),.lit (.string (bytes [])),.lit (.int .i64 0),.lit (.int .i64 0),.sl none 2 [] 0,.lit (.int .i64 0),.sl none 2 [] 0,.sl a 9 es c]):=
 Tm.is_mk.2 ⟨_,_,_,_,a,es,c,rfl,⟨by decide,by decide,xL 0,xL 0⟩,I,h⟩
theorem zRg {v:Tm} {r:Rho} {n:Int} {u w:Ty} (h:HT r v n u) (J:u=yg w) (I:v.res=true):v.lev 0=true:=by
 have no:∀ {a:Int},(a=4)->a≠4->v.lev 0=true:=λh O=>absurd h O
 cases h with
 | int=>exact no (nV Ty.k J) (by decide)
 | bool=>exact no (nV Ty.k J) (by decide)
 | lam _ _=>exact no (a:=3) (nV Ty.k J) (by decide)
 | fix _ _ _=>exact no (a:=3) (nV Ty.k J) (by decide)
 | quote _ _=>
   have I:=Bool.and_eq_true_iff.1 (show (_&&_)=true from I)
   exact I.1
 | var _ _=>cases I
 | op _=>cases I
 | ite _ _ _=>cases I
 | app _ _=>cases I
 | lt _ _=>cases I
 | splice _=>cases I
 | run _=>cases I
 | lift _ _ _=>cases I
/-- what a program's run ends with: closed, and code of it can be run -/
theorem hyg {t:Tm} {u:Ty} (h:rG [] t 0=some u) (J:(va t 200).1=1):(va t 200).2.1.cnt<=24400/\(va t 200).2.1.fv=[]/\∀ w,u=yg w->rG [] (Tm.nod 12 [(va t 200).2.1]) 0=some w:=by
 have e0:xh []=rho0:=by funext s n;exact zNS n [] (by simp)
 unfold rG at h
 split at h
 ·rename_i hl
  have I:=hl.2
  have O:t.ok=true:=(Bool.and_eq_true_iff.1 I).1
  have ht:=zM7 t O [] 0 u h
  rw [e0] at ht
  unfold va at J ⊢
  rw [if_pos (by rw [I];rfl)] at J ⊢
  have J:(zEy 200 0 t).1.1=1:=J
  show (zEy 200 0 t).1.2.1.cnt<=24400/\(zEy 200 0 t).1.2.1.fv=[]/\∀ w,u=yg w->rG [] (Tm.nod 12 [(zEy 200 0 t).1.2.1]) 0=some w
  obtain ⟨a1,a2,a3,a4⟩:=zRs (r:=rho0) (λs m t h=>by cases h) 200 0 t O ht J
  have U:(zEy 200 0 t).1.2.1.type [] 0=some u:=zGV a4 [] e0.symm
  refine ⟨by have:=zRb _ a1;omega,zSf a1 U,λw hw=>?_⟩
  have Y:=zRg a4 hw a3
  subst hw
  have aa:(Tm.nod 12 [(zEy 200 0 t).1.2.1]).ok=true:=Tm.ok_mk.2 ⟨by simpa using a1,by decide +kernel,rfl⟩
  have ab:(Tm.nod 12 [(zEy 200 0 t).1.2.1]).lev 0=true:=by
   show (inB 0 0 2&&((zEy 200 0 t).1.2.1.lev 0&&true))=true
   rw [Y];rfl
  unfold rG
  rw [if_pos ⟨rfl,by unfold pT;rw [aa,ab];rfl⟩]
  have e1:rho0.safe 0=rho0:=rfl
  exact zGV (HT.run (by rw [e1];exact a4)) [] e0.symm
 ·cases h
theorem zLN {es:List D} (hb:∀ d∈es,∃ n:Int,d=.lit (.int .u8 n)) (a:Option Addr) (c:Nat) (N:Nat) :
  ACalls prog 5 [.bool] [.sv a 0 es c] N (λr _=>r=true):=by
 refine zCR N a es c _ λ_ N1 b4=>zMd N1 a es c _ λ_ N2 b5 _=>Br.dec (λ_ N3 _=>rfl) λbi N4 b6=>?_
 refine zUP hb (by omega) a c N4 _ λd fu N5 b7 hd _ _ N6 b8=>?_
 obtain ⟨t,ht,b9⟩:=hd
 have hc:t.cnt<=4000000:=by omega
 refine zFw ht hc 200 N6 _ λx1 N7 ca J _ _ _=>⟨⟨rfl,rfl⟩,λa1 N8 cc _ N9 cd=>?_⟩
 refine zAc (g:=[]) ⟨by simp,rfl⟩ (by simp) ht (by omega) a1 0 0 N9 _ λy ce bj hy _ _=>?_
 cases I:rG [] t 0 with
 | none=>exact Br.not (λ_ al bm=>qq ht hc 200 al _ λx3 am Y O _ _ U aa=>zCL J O U _ λao ab _ aq ac=>rfl) λh=>by cases h
 | some u=>
   rw [I] at hy
   have hy:u.Is y:=hy
   obtain ⟨y0,y1,y2,y3,y4,y5,y6,y7,y8,rfl,hv⟩:=Rs.cells J
   refine Br.not (λh=>by cases h) λ_=>⟨_,rfl,Br.bne (λ_ au bn=>qq ht hc 200 au _ λx3 am Y O _ _ U aa=>zCL J O U _ λao ab _ aq ac=>rfl) λh1 aw bp=>?_⟩
   obtain ⟨cf,ax,ae⟩:=hyg I h1
   have cg:=Tm.vc_cnt (va t 200).2.1
   refine zE5 aw _ _ λ_ ay bq=>wY _ _ hv (by omega) ay _ λa5 c5 az ah _ _ _ ch bt _=>?_
   rw [ax]
   refine Br.of (λh=>by cases h) λ_=>?_
   have ba:u.valid=true:=by unfold rG at I;split at I;exact Tm.type_valid I;cases I
   cases u with
   | mk k l=>
   obtain ⟨a6,bb,c6,rfl,cj,ai⟩:=Ty.is_mk.1 hy
   refine ⟨k,rfl,Br.bne (λ_ az ah=>rfl) λh4=>⟨⟨rfl,rfl⟩,λa7 ck bv _=>⟨⟨rfl,rfl⟩,⟨rfl,rfl⟩,⟨rfl,rfl⟩,⟨rfl,rfl⟩,λa8 cm bw _ bc bz=>?_⟩⟩⟩
   obtain ⟨w,hw⟩:=zEF ba h4
   have bd:k=4/\l=[w]:=by
    have:Ty.mk k l=Ty.mk 4 [w]:=hw
    simpa using this
   obtain ⟨rfl,rfl⟩:=bd
   have hT:=ae w rfl
   obtain ⟨e0,rfl,bg⟩:∃ e0,bb=[e0]/\w.Is e0:=by
    obtain ⟨e0,ds,e1,h1,h2⟩:=ai
    have h2:ds=[]:=h2
    exact ⟨e0,by rw [e1,h2],h1⟩
   have aj:=zUA (k:=12) (a:=a8) (c:=1) (l:=[(va t 200).2.1]) (es:=[.ag [y0,y1,y2,y3,y4,y5,y6,y7,y8]]) (tw hv) (by simp)
   refine zAc (g:=[]) ⟨by simp,rfl⟩ (by simp) aj (by show 1+1+1+((va t 200).2.1.cnt+0)<=_;omega) a7 0 0 bc _ λx5 cn b0 ak _ _=>?_
   rw [hT] at ak ⊢
   refine Br.of (λ_=>⟨_,_,_,rfl,⟨by decide,by simp⟩,λbh b1=>yC w w _ _ ak bg bh _ λco b2 _ cp b3=>rg w⟩) λh=>by cases h
end Go.Proofs.YtfajiphkncipoaaGreatDoor
