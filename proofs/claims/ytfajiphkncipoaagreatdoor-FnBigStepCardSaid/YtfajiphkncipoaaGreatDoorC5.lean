/- A run's arguments, drawn; equal results. -/
import Derived.Test.YtfajiphkncipoaaGreatDoorC4
import Derived.Test.YtfajiphkncipoaaGreatDoorB4
import Derived.Test.YtfajiphkncipoaaGreatDoorKr
import Derived.Test.YtfajiphkncipoaaGreatDoorKd
import Derived.Test.YtfajiphkncipoaaGreatDoorB6
set_option linter.unusedVariables false
set_option linter.unusedSimpArgs false
set_option maxRecDepth 100000
namespace Go.Proofs.YtfajiphkncipoaaGreatDoor
open Go Go.Proofs Go.Proofs.Tryz Go.IntWalk
mutual
theorem Tm.sz3:∀ t:Tm,3*t.sz<=t.cnt
 | .mk _ _ _ _ ty re l=>by simp only [Tm.sz,Tm.cnt];have:=zJQ l;have:=Ty.cnt_pos ty;have:=Ty.cnt_pos re;omega
theorem zJQ:∀ l:List Tm,3*zF l<=zN l
 | []=>oB _
 | x::l=>by simp only [zF,zN];have:=Tm.sz3 x;have:=zJQ l;omega
end
theorem tn:∀ (t:Tm) (d e:D),t.Is d->t.Is e->uo 14 [.dg 9 d,.dg 9 e] true:=by
 refine Tm.ind λk nm ot m ty re l ih d e hd he N Q hQ=>?_
 obtain ⟨t0,t1,r0,r1,a,es,c,rfl,hh,O,U⟩:=Tm.is_mk.1 hd
 obtain ⟨u0,u1,v0,v1,a',ai,c',rfl,Y,aa,J⟩:=Tm.is_mk.1 he
 have hl:=U.len
 have aj:=J.len
 refine sm N _ _ Q λ_ _=>⟨k,rfl,k,rfl,Br.bne (λh=>absurd rfl h) λ_=>⟨nm,rfl,nm,rfl,Br.of (λh=>by simp at h) λ_=>⟨ot,rfl,ot,rfl,Br.of (λh=>by simp at h) λ_=>⟨m,rfl,m,rfl,Br.bne (λh=>absurd rfl h) λ_ N1 ak=>?_⟩⟩⟩⟩
 refine xK ty ty _ _ hh.ty Y.ty N1 _ λN2 al _=>Br.of (λh=>by rw [tg] at h;cases h) λ_ N3 am=>xK re re _ _ hh.re Y.re N3 _ λN4 ao _=>Br.of (λh=>by rw [tg] at h;cases h) λ_=>⟨_,_,_,rfl,_,_,_,rfl,Br.bne (λh=>by omega) λ_=>?_⟩
 refine up U O (λi xs=>∀ (N':Nat),N<=N'->yb Q N i _ _ N') ?_ ?_ N4 (by omega)
 ·intro i ab hi N' ac
  exact xS _ _ _ _ _ _ ⟨_,_,_,rfl,Br.of (λh=>by rw [ab] at h;cases h) λ_ N5 ae=>hQ _ (by omega)⟩
 ·intro i x xs I _ ah N' ac
  have hb:=I.b
  refine xS _ _ _ _ _ _ ⟨_,_,_,rfl,Br.of (λ_=>⟨_,_,_,rfl,hb,_,_,_,rfl,⟨by omega,by omega⟩,λN5 ae=>?_⟩) λh=>by rw [I.lt] at h;cases h⟩
  rw [oF,I.w]
  exact ih x I.m _ _ I.r (J.get I.g) N5 _ λN6 aq _=>Br.of (λh=>by cases h) λ_=>ah N6 (by omega)
/-- a term and a number of steps, drawn -/
theorem zIR {es:List D} (hb:∀ d∈es,∃ n:Int,d=.lit (.int .u8 n)) (hl:es.length<=1073741824) (a:Option Addr) (c:Nat) (N:Nat) (Q:QT [.ag 9,.i])
  (hQ:∀ d n N',N<=N'->Some 2100000 d->Q d n N'):ACalls prog 45 [.ag 9,.i] [.sv a 0 es c] N Q:=by
 refine pL N a es c Q λ_ N1 ak=>zR6 hb hl a c N1 _ λh N2 al U _ N3 am=>zLF U a c h N3 _ λd a1 ao c1 i1 h1 N4 aq Y hd _ _ _ N5 au=>s5 Y 10 (by omega) a1 c1 h1 N5 _ λb a2 aw c2 i2 h2 N6 ax I _ _=>Br.of (λ_ N7 aa=>?_) λ_ N7 aa=>?_
 ·refine zOB I a2 c2 h2 N7 _ λd' a3 ay c3 i3 h3 N8 az ab ac _ _ _ N9 a6=>?_
  exact w7 (l:=[100,60,200,3,0,201, -1]) ab (by decide) (by decide) a3 c3 h3 7 7 N9 _ λs a' ae c' i' h' ah J ai _ _ _ _ aj O=>hQ _ _ _ (by omega) (ac.mono (by omega))
 ·exact w7 (l:=[100,60,200,3,0,201, -1]) I (by decide) (by decide) a2 c2 h2 7 7 N7 _ λs a' ae c' i' h' ah J ai _ _ _ _ aj O=>hQ _ _ _ (by omega) (hd.mono (by omega))
theorem zSj {es:List D} (I:∀ d∈es,∃ n:Int,d=.lit (.int .u8 n)) (J:es.length<=1073741824) (a:Option Addr) (c:Nat) (N:Nat) (Q:QT [.ag 9,.i])
  (O:∀ d n N',N<=N'->Some 2100000 d->Q d n N'):ACalls prog 18 [.ag 9,.i] [.sv a 0 es c] N Q:=
 tL N a es c Q λ_ N1 U=>zIR I J a c N1 _ λd n N2 Y hd _ _ N3 aa=>O _ _ _ (by omega) hd
theorem zCY {r:Int × Tm × Nat} {d e:D} (hd:zOF r d) (I:zOF r e):uo 20 [.dg 11 d,.dg 11 e] true:=λN Q J=>by
 obtain ⟨y0,y1,y2,y3,y4,y5,y6,y7,y8,rfl,O⟩:=Rs.cells hd
 obtain ⟨z0,z1,z2,z3,z4,z5,z6,z7,z8,rfl,U⟩:=Rs.cells I
 exact t7 N _ _ Q λ_ _=>⟨_,rfl,_,rfl,Br.beq (λ_=>⟨_,rfl,_,rfl,Br.beq (λ_ N2 Y=>tn r.2.1 _ _ O U N2 _ λN3 aa _ N4 ab=>J _ (by omega)) λh=>absurd rfl h⟩) λh=>absurd rfl h⟩
def stats:List ByteArray:=[bytes [98,97,100],bytes [100,111,110,101],bytes [102,117,101,108],bytes [108,97,114,103,101],bytes [115,116,117,99,107]]
def zMe (k:Int):ByteArray:=if inB k 0 4=true then stats.getD k.toNat (bytes []) else bytes [63]
theorem zNY {k:Int} (J:0<=k) (O:k<=4):(zA stats).getD (0+k.toNat) default=D.t (stats.getD k.toNat (bytes [])):=by
 have I:k.toNat<stats.length:=by show _<5;omega
 rw [oe]
 unfold zA
 rw [oA,oA,oE,oG I]
 rfl
theorem zBg (k:Int):zF8 26 [.j k] (zMe k):=λN Q I=>
 zBd N k Q λN1 Y=>yL k 0 4 N1 _ λN2 aa _=>Br.not (λJ N3 O=>by rw [zMe,if_neg (by rw [J];simp)] at I;exact I _ (by omega)) λJ=>by
  rw [zMe,if_pos J] at I
  have U:=yQ.1 J
  exact ⟨⟨by omega,by omega,by omega⟩,by omega,_,zNY U.1 U.2,λN3 O=>I _ (by omega)⟩
theorem zCD (k:Int):zF8 27 [.j k] (zMe k):=λN Q I=>
 zBy N k Q λN1 Y=>xE k 0 4 N1 _ λN2 aa _=>Br.not (λJ N3 O=>by rw [zMe,if_neg (by rw [J];simp)] at I;exact I _ (by omega)) λJ=>by
  rw [zMe,if_pos J] at I
  have U:=yQ.1 J
  exact ⟨⟨by omega,by omega,by omega⟩,by omega,_,zNY U.1 U.2,λN3 O=>I _ (by omega)⟩
theorem zJ7 {es:List D} (hb:∀ d∈es,∃ n:Int,d=.lit (.int .u8 n)) (a:Option Addr) (c:Nat) (N:Nat) :
  ACalls prog 6 [.bool] [.sv a 0 es c] N (λr _=>r=true):=by
 refine zCl N a es c _ λ_ N1 cd=>zLz N1 a es c _ λ_ N2 ce _=>Br.dec (λ_ N3 _=>rfl) λbh N4 cf=>?_
 refine zSj hb (by omega) a c N4 _ λd fu N5 cg hd _ _ N6 ch=>?_
 obtain ⟨t,ht,cj⟩:=hd
 have hc:t.cnt<=4000000:=by omega
 have ah:t.sz<=1048577:=by have:=Tm.sz3 t;omega
 refine zFt ht hc fu N6 _ λx1 N7 ck ai _ _ _ N8 cm=>?_
 refine zFS ht ah hc fu N8 _ λx2 N9 cn aa _ _ _ ak bi=>zFD ht ah hc fu ak _ λx3 co bj al _ _ am bm=>?_
 refine qB am a es c _ λ_ ao bn=>zR6 hb (by omega) a c ao _ λh cp bp aq _ au bq=>xD aq 7 (by omega) a c h au _ λr a1 cq c1 i1 h1 cr bt ct _ _ _ _ _ cw bv _ aw bw=>?_
 refine zFN ht hc fu aw _ λx4 cx bz ax _ _ ay b1=>zCY ai ax ay _ λcy b2 _=>Br.of (λh=>by cases h) λ_=>Br.of (λh=>by simp at h) λ_=>Br.bne (λh=>absurd rfl h) λ_ az b3=>?_
 refine tn _ x2 x3 aa al az _ λcz b4 _=>Br.of (λh=>by cases h) λ_ a6 b5=>zBg _ a6 _ λc2 b6 _ a7 b7=>zCD _ a7 _ λI b8 _=>Br.of (λh=>by simp at h) λ_=>?_
 have ab:=zPk (e:=t) (fu:=fu)
 have U:=zNd (e:=t) (fu:=fu)
 have J:=zOH (e:=t) (fu:=fu)
 obtain ⟨y0,y1,y2,y3,y4,y5,y6,y7,y8,rfl,hy⟩:=Rs.cells ai
 generalize c3:zBN t fu=bo at *
 have last:∀ M,I<=M->Br (bne (xg t fu).1 1) (∀ a8,I<=a8->true=true) (Br bo.2.2 (∃ Y:Int,D.j ((xg t fu).2.2:Nat)=D.j Y/\Br (bo.2.1==Y) (∀ O,I<=O->ACalls prog 14 [.bool] [.dg 9 x2,.dg 9 (.ag [y0,y1,y2,y3,y4,y5,y6,y7,y8])] O (λba ac=>O<=ac->∀ aj,ac<=aj->ba=true)) (∀ bb,I<=bb->false=true)) (∀ bc,I<=bc->false=true)):=λM hM=>by
  refine Br.bne (λ_ _ _=>rfl) λh1=>?_
  have hd:=ab h1
  have e1:bo.1=(xg t fu).2.1:=by rw [hd]
  have e2:bo.2.1=((xg t fu).2.2:Int):=by rw [hd]
  have e3:bo.2.2=true:=by rw [hd]
  rw [e3]
  refine Br.of (λ_=>⟨_,rfl,Br.beq (λ_ O b9=>?_) λh=>absurd e2 h⟩) λh=>by cases h
  rw [e1] at aa
  exact tn _ x2 _ aa hy O _ λac ca _ aj cc=>rfl
 have bd:Br (decide (((xg t fu).2.2:Int)>fu)) (Br (decide (fu≥0)) (∀ bg,I<=bg->false=true) True) True:=Br.dec (λh=>Br.dec (λh0=>by have:=J h0;omega) λ_=>trivial) λ_=>trivial
 refine Br.of (λae=>⟨_,rfl,Br.beq (λh4=>by rw [U h4] at ae;cases ae) λh4=>⟨_,rfl,Br.dec (λh=>Br.dec (λh0=>by have:=J h0;omega) λ_=>⟨_,rfl,last I (oB _)⟩) λ_=>⟨_,rfl,last I (oB _)⟩⟩⟩) λae=>⟨_,rfl,Br.dec (λh=>Br.dec (λh0=>by have:=J h0;omega) λ_=>⟨_,rfl,last I (oB _)⟩) λ_=>⟨_,rfl,last I (oB _)⟩⟩
end Go.Proofs.YtfajiphkncipoaaGreatDoor
