/- Runs (no program in sight): the end of a run is small. -/
import Derived.Test.YtlaniepnglheoaaGreatC1
import Derived.Test.YtlaniepnglheoaaGreatC5
import Derived.Test.YtlaniepnglheoaaGreatKf
import Derived.Test.YtlaniepnglheoaaGreatJh
import Derived.ProofKit
import Derived.ReadAgain
import Derived.ChangeSame
import Derived.Test.YtlaniepnglheoaaGreatRows
import Derived.SizedLaws
set_option linter.unusedVariables false
set_option linter.unusedSimpArgs false
set_option maxRecDepth 100000
namespace Go.Proofs.YtlaniepnglheoaaGreat
open Go Go.Proofs Go.Proofs.Tryz Go.IntWalk
theorem M4:∀(m n:Nat)(x:Tm),Rch x->(Ox m n x).1.1=1->(Ox m n x).1.2.1.ok=true/\(Ox m n x).1.2.1.sz<=400
 | 0,n,x,hx,h=>by
   rw[rC]at h ⊢;by_cases I:x.sz>400
   ·rw[if_pos I]at h;exact absurd h (by show ¬((3:Int)=1);decide)
   rw[if_neg I]at h ⊢;by_cases J:x.res=true
   ·rw[if_pos J];exact⟨hx.o (by omega),by show x.sz<=400;omega⟩
   ·rw[if_neg J]at h;exact absurd h (by show ¬((2:Int)=1);decide)
 | m+1,n,x,hx,h=>by
   rw[rC]at h ⊢;by_cases I:x.sz>400
   ·rw[if_pos I]at h;exact absurd h (by show ¬((3:Int)=1);decide)
   rw[if_neg I]at h ⊢;by_cases J:x.res=true
   ·rw[if_pos J];exact⟨hx.o (by omega),by show x.sz<=400;omega⟩
   rw[if_neg J]at h ⊢;dsimp only at h ⊢;by_cases O:(x.stp x.dp).2=0
   ·rw[if_pos O]at h;exact absurd h (by show ¬((4:Int)=1);decide)
   ·rw[if_neg O]at h ⊢;exact M4 m (n+1) _ (hx.step (by omega)) h
theorem Vx {e:Tm}(hc:e.cnt<=4000000){I:Int}(h:(wa e I).1=1):(wa e I).2.1.ok=true/\(wa e I).2.1.sz<=400:=by
 unfold wa at h ⊢;by_cases J:(s9 e 0&&inB I 0 200)=true
 ·rw[if_pos J]at h ⊢;have hv:s9 e 0=true:=by rw[oE]at J;exact J.1
  have O:e.ok=true:=by unfold s9 at hv;simp at hv;exact hv.1
  exact M4 _ _ _ (Rch.of O hc) h
 ·rw[if_neg J]at h;exact absurd h (by show ¬((0:Int)=1);decide)
theorem JV:∀(m n:Nat)(x:Tm),Rch x->(Ox m n x).1.2.1.cnt<=24400
 | 0,n,x,hx=>by
   rw[rC];by_cases I:x.sz>400
   ·rw[if_pos I];show tm0.cnt<=24400;decide
   have:=TK x (hx.o (by omega))
   rw[if_neg I];by_cases J:x.res=true
   ·rw[if_pos J];show x.cnt<=24400;omega
   ·rw[if_neg J];show x.cnt<=24400;omega
 | m+1,n,x,hx=>by
   rw[rC];by_cases I:x.sz>400
   ·rw[if_pos I];show tm0.cnt<=24400;decide
   have:=TK x (hx.o (by omega))
   rw[if_neg I];by_cases J:x.res=true
   ·rw[if_pos J];show x.cnt<=24400;omega
   rw[if_neg J];dsimp only;by_cases O:(x.stp x.dp).2=0
   ·rw[if_pos O];show x.cnt<=24400;omega
   ·rw[if_neg O];exact JV m (n+1) _ (hx.step (by omega))
theorem Tl {e:Tm}(hc:e.cnt<=4000000)(O:Int):(wa e O).2.1.cnt<=24400:=by
 unfold wa;by_cases I:(s9 e 0&&inB O 0 200)=true
 ·rw[if_pos I];have hv:s9 e 0=true:=by rw[oE]at I;exact I.1
  have J:e.ok=true:=by unfold s9 at hv;simp at hv;exact hv.1
  exact JV _ _ _ (Rch.of J hc)
 ·rw[if_neg I];show tm0.cnt<=24400;decide
end Go.Proofs.YtlaniepnglheoaaGreat
set_option maxRecDepth 100000
namespace Go.Proofs.YtlaniepnglheoaaGreat
open Go Go.Proofs Go.Proofs.Tryz Go.IntWalk
variable {es:List D} {g:List Pm}
theorem Y3 {e1:List D}(U:Pms g e1)(Y:g.length<=1000)(I:∀ x∈g,x.ty.cnt<=1)(a1:Option Addr)(c1:Nat){i:Int}(J:Cu es i)(a:Option Addr)(c:Nat)(h:Int)(N:Nat)(Q:QT [.row 3 0,.sl 0,.i,.i])(hQ:∀ ns c2 a' es' c' i' h' N',N<=N'->Cu es' i'->ns.length<=g.length->Q (yp ns) c2 a' es' c' i' h' N'):BCalls prog 35 [.row 3 0,.sl 0,.i,.i] [.pb 0 0 0 0,.sv a1 4 e1 c1] [.var [.sv a 0 es c,.j i,.j h]] N Q:=by
 have n1:=wy g;refine Fe N a1 e1 c1 a es c i h Q λE _ _ N1 aa=>xC U (by omega) (λx hx=>by have:=I x hx;omega) a1 c1 N1 _ λa3 e3 c3 a4 e4 c4 N2 ab h3 h4 _ _ _ N3 ac=>?_;exact Y0 h3 (by omega) a3 c3 J a c h N3 _ λns c5 a6 ae c6 i6 h6 N4 ah O ai _ _ _=>⟨vN,⟨rfl,rfl⟩,λN6 aj=>hQ ns _ _ _ _ _ _ _ (by omega) O (by omega)⟩
theorem Q0 (hb:∀ d∈es,∃ n:Int,d=.lit (.int .u8 n))(hl:es.length<=1073741824)(a:Option Addr)(c:Nat)(N:Nat)(Q:QT [.sl 4,.ag 9,.sl 0])(O:∀ g a1 e1 c1 d ns U Y N',N<=N'->Pms g e1->g.length<=4->(∀ x∈g,x.ty.cnt<=3)->Some 30000 d->ns.length<=10->Q a1 e1 c1 d U (yp ns) Y N'):ACalls prog 13 [.sl 4,.ag 9,.sl 0] [.sv a 0 es c] N Q:=by
 refine qW N a es c Q λ_ N1 ay=>zAT hb hl a c N1 _ λh N2 az aa _ N3 a0=>?_;refine WP aa a c h N3 _ λg e1 c1 d U a3 Y i2 h2 N4 a9 ab hg g1 g4 gc hd _ _ _ _=>⟨⟨rfl,rfl⟩,⟨rfl,rfl⟩,⟨rfl,rfl⟩,λa1 ba ao _ N5 bb=>?_⟩
 have I:∀ x∈g,x.ty.cnt<=3:=λx hx=>oP (gc x hx) (by omega);refine Y3 hg (by omega) gc a1 c1 ab U Y h2 N5 _ λns c3 a4 bc c4 i4 h4 N6 bg ac bh _ _ _ N7 bi=>?_;have bj:=tg ns;refine xd ac 12 (by omega) a4 c4 h4 N7 _ λx a5 bm c5 i5 h5 N8 bp ae _ _ _ _ _=>Br.beq (λ_ N9 ah=>?_) λ_=>Br.beq (λ_=>?_) λ_=>⟨⟨rfl,rfl⟩,⟨rfl,rfl⟩,⟨rfl,rfl⟩,⟨rfl,rfl⟩,λa6 N9 ah _ ai J=>O g _ _ _ _ ns _ _ _ (by omega) hg g4 I hd (by omega)⟩
 ·exact U2 ae a5 c5 h5 N9 _ λg' a6 e6 c6 d6 a7 bq c7 i7 h7 ai J bt aj ak al am _ _ _ _=>⟨⟨rfl,rfl⟩,⟨rfl,rfl⟩,⟨rfl,rfl⟩,⟨rfl,rfl⟩,λa8 bv aq _ bw au=>O g' _ _ _ _ ns _ _ _ (by omega) aj ak al am (by omega)⟩
 ·have e:yp ns++[D.j 1]=yp (ns++[1]):=by simp[yp]
  refine⟨⟨rfl,rfl⟩,by unfold zA;rw[oK];simp only[oJ,oN];omega,λbz=>⟨⟨rfl,rfl⟩,⟨rfl,rfl⟩,⟨rfl,rfl⟩,⟨rfl,rfl⟩,λb1 b2 aw _ b6 ax=>?_⟩⟩;rw[e];exact O g _ _ _ _ (ns++[1]) _ _ _ (by omega) hg g4 I hd (by simp;omega)
theorem XM (O:∀ d∈es,∃ n:Int,d=.lit (.int .u8 n))(U:es.length<=1073741824)(a:Option Addr)(c:Nat)(N:Nat)(Q:QT [.sl 4,.ag 9,.sl 0])(Y:∀ g a1 e1 c1 d ns I J N',N<=N'->Pms g e1->g.length<=4->(∀ x∈g,x.ty.cnt<=3)->Some 30000 d->ns.length<=10->Q a1 e1 c1 d I (yp ns) J N'):ACalls prog 5 [.sl 4,.ag 9,.sl 0] [.sv a 0 es c] N Q:=
 t9 N a es c Q λ_ N1 aa=>Q0 O U a c N1 _ λg a1 e1 c1 d ns I J N2 ab hg g4 gc hd hn _ _ _ _ N3 ac=>Y g _ _ _ _ ns _ _ _ (by omega) hg g4 gc hd hn
theorem qQ {e X:Tm}(J:g.length<=1000)(I:∀ x∈g,x.ty.cnt<=1000)(hs:tz g e=some X):X.cnt<=3*e.cnt+2004020:=by
 unfold tz at hs;split at hs
 ·cases hs;have O:=Mx (g:=wL g) (m:=1000) λx hx=>I x ((nW.1 hx).1);have U:=Mx (g:=wK g) (m:=1000) λx hx=>I x ((nW.1 hx).1);have Y:=Ga g e;have h4:=wy g;have h5:=wU g;simp only[pY,uO,zG];omega
 ·cases hs
def RA (g:List Pm)(e:Tm)(ns:List Int):Int × Tm × Nat:=if(tz g e).isSome=true/\ns.length=(wL g).length/\uF (wL g) ns=true then wa (Lu ((tz g e).getD (Tm.nod 0 [])) (wL g) ns) 200 else(0,tm0,0)
theorem Bc (h:Pms g es)(hg:g.length<=1000)(O:∀ x∈g,x.ty.cnt<=1000){e:Tm}{d:D}(he:e.Is d)(hc:e.cnt<=500000)(ns:List Int)(hn:ns.length<=1000000)(a a2:Option Addr)(c c2:Nat)(N:Nat)(Q:QT [.ag 11])(hQ:∀ d N',N<=N'->YH (RA g e ns) d->Q d N'):ACalls prog 11 [.ag 11] [.sv a 4 es c,.dg 9 d,.sv a2 0 (yp ns) c2] N Q:=by
 have ab:=tg ns;have no:RA g e ns=(0,tm0,0)->∀ N',N<=N'->Q (D.ag [D.j 0,D.j 0,D.t (bytes []),D.t (bytes []),D.j 0,D.j 0,D.sl none 2 [] 0,D.j 0,D.sl none 2 [] 0,D.sl none 9 [] 0,D.j 0]) N':=λh N' U=>by rw[h]at hQ;exact hQ _ _ U YS
 refine Bv N a es c d a2 _ c2 Q λ_ _ _ N1 ak=>FH h (by omega) (λx hx=>by have:=O x hx;omega) he (by omega) a c N1 _ λx N2 al hx bb _ _ N3 am=>?_;refine xC h (by omega) (λx hx=>by have:=O x hx;omega) a c N3 _ λa3 ao c3 a4 bc c4 N4 aq h3 h4 _ _ _=>Br.not (λhb N5 Y=>?_) λhb=>Br.bne (λbg N5 Y=>?_) λheq=>?_
 ·exact no (by unfold RA;rw[if_neg (by rw[hb];simp)]) _ (by omega)
 ·have:=h3.all.len
  exact no (by unfold RA;rw[if_neg (by intro⟨_,h,_⟩;omega)]) _ (by omega)
 ·have bh:=h3.all.len;have au:ns.length=(wL g).length:=by omega
  have bi:=wy g;obtain⟨X,hX⟩:=mQ.1 hb;have bj:=qQ hg O hX;rw[hX,ob]at hx;refine up h3.all h3.len (λi xs=>∀(t:Tm) (y:D) (N':Nat),N<=N'->t.Is y->t.cnt<=3504100+6*i->uF (wL g) ns=uF xs (ns.drop i)->Lu t xs (ns.drop i)=Lu X (wL g) ns ->
   xA Q N a2 (yp ns) c2 a3 ao c3 i 0 0 (bytes []) (bytes []) 0 0 none [] 0 0 none [] 0 none [] 0 0 y N') ?_ ?_ X x N4 (by omega) hx (by omega) (by rw[List.drop_zero]) (by rw[List.drop_zero])
  ·intro i aw hi t y N' U ht ax I heq;refine uc ?_;rw[aw];have e0:Lu t [] (ns.drop i)=t:=by cases ns.drop i<;>rfl
   rw[e0]at heq;have ac:uF (wL g) ns=true:=by rw[I];rfl
   have ay:RA g e ns=wa t 200:=by unfold RA;rw[if_pos ⟨hb,au,ac⟩,hX,ob,heq]
   rw[ay]at hQ;exact λN5 Y=>IE ht (by omega) 200 N5 _ λd' N6 az aa _ _ N7 a0=>hQ _ _ (by omega) aa
  ·intro i p ps J _ ih t y N' U ht ax I heq;have bm:=J.b;obtain⟨t0,t1,aa,bp,ae⟩:=J.r;have ah:i<ns.length:=by omega
   have ai:=Gn (oF ah);have a6:ns.drop i=ns[i]::ns.drop (i+1):=by rw[mi]
   rw[a6]at heq I;simp only[uF]at I;have bq:=Kj p.ty ns[i];refine uc ?_;rw[J.lt,J.w,oI,aa];refine⟨⟨by omega,by omega⟩,⟨by omega,by rw[ab];omega⟩,_,ai,λN1 ak=>BQ ae _ N1 _ λN2 al _=>Br.not (λhx N3 am=>?_) λhx=>⟨⟨by omega,by omega⟩,⟨by omega,by rw[ab];omega⟩,_,ai,λN4 aq=>rL (t:=p.ty) ae _ N4 _ λx2 N5 Y a7 _ _ _=>⟨⟨rfl,rfl⟩,λa5 _ N6 az a8=>?_⟩⟩⟩
   ·refine no ?_ _ (by omega);unfold RA;rw[if_neg];intro⟨_,_,aj⟩;rw[I,hx]at aj;simp at aj
   refine uW 7 (J4 ht a7) (by simp) (by intro z hz;simp only[oH,oh,mK]at hz;rcases hz with rfl | rfl<;>omega) a5 2 N6 _ λd5 N7 a0 a9 ba _=>⟨xI a8 ba,λ_=>?_⟩
   exact ih _ d5 N7 (by omega) a9 (by simp only[Tm.cnt,Ty.cnt,zN,zG];omega) (by rw[I,hx,lB]) heq
end Go.Proofs.YtlaniepnglheoaaGreat
set_option maxRecDepth 100000
namespace Go.Proofs.YtlaniepnglheoaaGreat
open Go Go.Proofs Go.Proofs.Tryz Go.IntWalk
def Tm.rs (t:Tm):Bool:=t.ok&&t.res
theorem Qv {e:Tm}{d:D}(O:e.Is d)(hc:e.cnt<=1073741824):vM 31 [.dg 9 d] e.rs:=λN Q U=>by have Y:=Tm.dp_cnt e;refine Hk N d Q λ_ N1 aa=>CY e d O hc N1 _ λN2 ab _=>Br.of (λI N3 J=>zi O I (by omega) N3 _ λN4 ac _ N5 ae=>Qb (U _ (by omega)) (by rw[Tm.rs,I,lB])) λI N3 J=>Qb (U _ (by omega)) (by rw[Tm.rs,I,Bool.false_and])
def Tm.cpt (e:Tm):Tm × Bool:=if e.kd=10/\e.rs=true then(e.pt 0,true)else(tm0,false)
theorem zAo {k n0:Int}{nm ot:ByteArray}{ty re:Ty}{l:List Tm}(h:(Tm.mk k nm ot n0 ty re l).rs=true)(hk:k=10):l.length=1:=by simp only[Tm.rs,oE]at h;exact(rA h.1).1 (by omega)
theorem MF {e:Tm}{d:D}(Y:e.Is d)(hc:e.cnt<=1073741824):Z6 12 [.dg 9 d] e.cpt:=λN Q J=>by
 have hR:=Qv Y hc;cases e with
 | mk k nm ot n0 ty re l=>
 have hG:=Tm.G_cnt _ hc;obtain⟨t0,t1,r0,r1,a,es,c,rfl,hh,aa,O⟩:=Tm.is_mk.1 Y;have hl:=O.len;refine Hi N _ Q λ_ N2 ab=>hR N2 _ λN3 ac _=>Br.not (λhv N4 ae=>?_) λhv=>⟨_,rfl,Br.bne (λI N1 ah=>?_) λI=>?_⟩
 ·rw[Tm.cpt,if_neg (λh=>by rw[hv]at h;exact absurd h.2 (by decide))]at J;exact J _ _ (by omega) UB
 ·rw[Tm.cpt,if_neg (λh=>I h.1)]at J;exact J _ _ (by omega) UB
 ·rw[Tm.cpt,if_pos ⟨I,hv⟩]at J;have ai:=zAo hv I;refine⟨_,_,_,rfl,⟨by omega,by omega⟩,λN5 aj=>?_⟩;exact PX r8 (u9 O (j:=0) (by omega)) (yb hG.2.2.2 (zk (by omega))) (N0:=N) (by omega) (λd N=>Q d true N) λd' N7 ak U _=>J _ _ (by omega) U
end Go.Proofs.YtlaniepnglheoaaGreat
set_option maxRecDepth 100000
namespace Go.Proofs.YtlaniepnglheoaaGreat
open Go Go.Proofs Go.Proofs.Tryz Go.IntWalk
theorem Do:∀(t:Tm)(d e:D),t.Is d->t.Is e->vM 10 [.dg 9 d,.dg 9 e] true:=by
 refine Tm.ind λk nm ot m ty re l ih d e hd he N Q hQ=>?_;obtain⟨t0,t1,r0,r1,a,es,c,rfl,hh,O,U⟩:=Tm.is_mk.1 hd;obtain⟨u0,u1,v0,v1,a',es',c',rfl,Y,aa,J⟩:=Tm.is_mk.1 he;have hl:=U.len;have ai:=J.len;refine FX N _ _ Q λ_ _=>⟨k,rfl,k,rfl,Br.bne (λh=>absurd rfl h) λ_=>⟨nm,rfl,nm,rfl,Br.of (λh=>by simp at h) λ_=>⟨ot,rfl,ot,rfl,Br.of (λh=>by simp at h) λ_=>⟨m,rfl,m,rfl,Br.bne (λh=>absurd rfl h) λ_ N1 aj=>?_⟩⟩⟩⟩
 refine yv ty ty _ _ hh.ty Y.ty N1 _ λN2 ak _=>Br.of (λh=>by rw[DH]at h;cases h) λ_ N3 al=>yv re re _ _ hh.re Y.re N3 _ λN4 am _=>Br.of (λh=>by rw[DH]at h;cases h) λ_=>⟨_,_,_,rfl,_,_,_,rfl,Br.bne (λh=>by omega) λ_=>?_⟩
 refine up U O (λi xs=>∀(N':Nat),N<=N'->xu Q N i _ _ N') ?_ ?_ N4 (by omega)
 ·intro i ab hi N' ac;exact sZ ⟨_,_,_,rfl,Br.of (λh=>by rw[ab]at h;cases h) λ_ N5 ae=>hQ _ (by omega)⟩
 ·intro i x xs I _ ah N' ac;have hb:=I.b;refine sZ ⟨_,_,_,rfl,Br.of (λ_=>⟨_,_,_,rfl,hb,_,_,_,rfl,⟨by omega,by omega⟩,λN5 ae=>?_⟩) λh=>by rw[I.lt]at h;cases h⟩;rw[oI,I.w];exact ih x I.m _ _ I.r (J.get I.g) N5 _ λN6 ao _=>Br.of (λh=>by cases h) λ_=>ah N6 (by omega)
theorem Kh {es:List D} (hb:∀ d∈es,∃ n:Int,d=.lit (.int .u8 n)) (a:Option Addr) (c:Nat) (N:Nat) :
  ACalls prog 3 [.bool] [.sv a 0 es c] N (λr _=>r=true):=by
 refine DP N a es c _ λ_ N1 bw=>Rc N1 a es c _ λ_ N2 bz _=>Br.dec (λ_ N3 _=>rfl) λa4 N4 b1=>?_;refine XM hb (by omega) a c N4 _ λg a1 e1 c1 d ns Y c2 N5 b2 hg g4 gc hd hn _ _ _ _ N6 b6=>?_;obtain⟨t,ht,ah⟩:=hd;have b7:t.cnt<=30000:=oP t.cnt_wt ah;have J:∀ x∈g,x.ty.cnt<=1000:=λx hx=>by have:=gc x hx;omega
 have aa:∀ x∈g,x.ty.cnt<=2000000:=λx hx=>by have:=gc x hx;omega
 have ab:∀ x∈g,x.ty.cnt<=1073741824:=λx hx=>by have:=gc x hx;omega
 refine qA hg (by omega) aa ht (by omega) ns (by omega) a1 Y c1 c2 N6 _ λx1 N7 b9 O _ _ _ N8 ca=>?_;refine qD hg (by omega) aa ht (by omega) ns (by omega) a1 Y c1 c2 N8 _ λx2 N9 cc ai _ _ _ aj a5=>?_;refine rH hg (by omega) ab ht (by omega) ns (by omega) a1 Y c1 c2 aj _ λx3 cd a6 ak _ _ _ al a7=>?_;refine rJ hg (by omega) ab ht (by omega) ns (by omega) a1 Y c1 c2 al _ λx4 ce a8 am _ _ _=>?_;refine Br.not (λh=>by simp at h) λ_ ao a9=>Do _ x1 x2 O ai ao _ λcf ba _=>Br.of (λh=>by simp at h) λ_=>Br.not (λh=>by simp at h) λ_ aq bb=>Do _ x3 x4 ak am aq _ λcg bc _=>Br.of (λh=>by simp at h) λ_=>?_;have ac:(Eu g t ns).isSome=(ya g t ns).isSome:=by unfold Eu;rw[Option.isSome_map]
 refine Br.not (λh=>by rw[ac]at h;simp at h) λ_ au bg=>?_;refine Bc hg (by omega) J ht (by omega) ns (by omega) a1 Y c1 c2 au _ λx5 ch bh aw _ _ ax bi=>?_;obtain⟨y0,y1,y2,y3,y4,y5,y6,y7,y8,rfl,hy⟩:=Rs.cells aw;have ci:(RA g t ns).2.1.cnt<=24400:=by
  unfold RA;split
  ·rename_i hk;obtain⟨X,U⟩:=mQ.1 hk.1;have ay:=qQ (by omega) J U;rw[U,ob];exact Tl (by have:=J7 (wL g) ns X;have:=wy g;omega) 200
  ·show tm0.cnt<=24400;decide
 refine MF hy (by omega) ax _ λx6 cj bj ae _ _=>Br.not (λ_ ck bm=>rfl) λaz=>⟨_,rfl,Br.bne (λ_ cm bp=>rfl) λh1=>?_⟩
 obtain⟨r,hr⟩:=mQ.1 (ac ▸ az:(ya g t ns).isSome=true);have I:=h1;unfold RA at I;split at I
 ·rename_i hk;obtain⟨X,U⟩:=mQ.1 hk.1;have ay:=qQ (by omega) J U;rw[U,ob]at I;have a0:(Lu X (wL g) ns).cnt<=4000000:=by have:=J7 (wL g) ns X;have:=wy g;omega
  obtain⟨k1,k2,k3⟩:=Xa (by omega) hr U I;have k4:=(Vx a0 I).1;have e1:RA g t ns=wa (Lu X (wL g) ns) 200:=by unfold RA;rw[if_pos hk,U,ob]
  have e2:(RA g t ns).2.1.cpt=(yV (wK g) r,true):=by rw[e1,Tm.cpt,if_pos ⟨k1,by rw[Tm.rs,k4,k2];rfl⟩,k3]
  have e3:(Eu g t ns).getD (Tm.nod 0 [])=yV (wK g) r:=by unfold Eu;rw[hr];rfl
  rw[e2]at ae ⊢;rw[e3]at O;exact Br.of (λ_ a3 bq=>Do _ x6 x1 ae O a3 _ λcn bt _ co bv=>rfl) λh=>by cases h
 ·exact absurd I (by decide)
open Go
def Ht (P:Program)(e:TypeId):Nat:=match P.underlying e with | some (.struct _)=>P.cellsOf e | _=>0
def Ek (P:Program):List Field->Nat->Nat->Bool
 | [],o,n=>o==n
 | f::fs,o,n=>f.offset==o&&Ek P fs (o+P.cellsOf f.type) n
def P7 (P:Program)(T:List TypeId)(t:TypeId):Bool:=
 match P.underlying t with
 | some .bool=>true
 | some (.int _)=>true
 | some .string=>true
 | some (.slice e)=>T.contains e&&(P.cellsOf e==ez (Ht P e))&&decide (0<P.bytesOf e)
 | some (.struct fs)=>Ek P fs.toList 0 (P.cellsOf t)&&fs.toList.all λf=>T.contains f.type
 | _=>false
def Z7 (R:TypeId->List D->Prop):List TypeId->List D->Prop
 | [],xs=>xs=[]
 | t::I,xs=>∃ a b,xs=a++b/\R t a/\Z7 R I b
def Shp (P:Program):Nat->TypeId->List D->Prop
 | 0,_,_=>False
 | n+1,t,xs=>match P.underlying t with
   | some .bool=>∃ v,xs=[.lit (.bool v)]
   | some (.int k)=>∃ m,xs=[.lit (.int k m)]/\(Lit.int k m).wf=true
   | some .string=>∃ s:ByteArray,xs=[.t s]/\s.size<=reachBytes
   | some (.slice e)=>∃ a es c,xs=[.sl a (Ht P e) es c]/\es.length<=reachBytes/\∀ x∈es,Shp P n e x.cells
   | some (.struct fs)=>Z7 (Shp P n) (fs.toList.map (·.type)) xs
   | _=>False
theorem Ze {P:Program}{n:Nat}{t:TypeId}{xs:List D}{k:IntKind}(I:P.underlying t=some (.int k))(h:Shp P n t xs):∃ m,xs=[.lit (.int k m)]:=by
 cases n with
 | zero=>exact h.elim
 | succ n=>unfold Shp at h;rw[I]at h;obtain⟨m,rfl,_⟩:=h;exact⟨m,rfl⟩
theorem TD:reachBytes<=4611686018427387904:=by decide
theorem QG {P:Program}{n:Nat}{t e:TypeId}{xs:List D}(I:P.underlying t=some (.slice e))(h:Shp P n t xs):∃ m a es c,n=m+1/\xs=[.sl a (Ht P e) es c]/\es.length<=4611686018427387904/\∀ x∈es,Shp P m e x.cells:=by
 cases n with
 | zero=>exact h.elim
 | succ n=>unfold Shp at h;rw[I]at h;obtain⟨a,es,c,rfl,J,hx⟩:=h;exact⟨n,a,es,c,rfl,rfl,oP J TD,hx⟩
structure Snap (w:World) (cs:List Value) (xs:List D):Prop where
 cv:xs.map D.cv=cs
 cell:∀ x∈xs,x.isCell
 hold:∀ x∈xs,Holds w x
theorem Snap.one {w:World}{v:Value}{x:D}(I:x.cv=v)(J:x.isCell)(O:Holds w x):Snap w [v] [x]:=⟨by simp[I],by simpa using J,by simpa using O⟩
theorem Snap.app {w:World}{us bs:List Value}{xs ys:List D}(h:Snap w us xs)(I:Snap w bs ys):Snap w (us++bs) (xs++ys):=
 ⟨by rw[mF,h.cv,I.cv],λx hx=>(oM.1 hx).elim (h.cell x) (I.cell x),λx hx=>(oM.1 hx).elim (h.hold x) (I.hold x)⟩
theorem Gz {α β γ:Type}{f:α->Option β}{Q:α->γ->Prop}:∀ {l:List α}{r:List β},l.mapM f=some r->(∀ i∈l,∀ y∈r,f i=some y->∃ x,Q i x)->∃ xs:List γ,xs.length=l.length/\∀(k:Nat)(i:α),l[k]?=some i->∃ x,xs[k]?=some x/\Q i x
 | [],r,h,J=>⟨[],rfl,λk i hk=>by simp at hk⟩
 | a :: l,r,h,J=>by
   rw[List.mapM_cons]at h;cases hx:f a with
   | none=>simp[hx]at h
   | some y=>
     cases I:l.mapM f with
     | none=>simp[hx,I]at h
     | some ys=>
       have hr:r=y::ys:=by simpa [hx,I]using h.symm
       subst hr;obtain⟨x,O⟩:=J a (by simp) y (by simp) hx;obtain⟨xs,U,Y⟩:=Gz I λi hi y hy=>J i (by simp[hi]) y (by simp[hy]);refine⟨x::xs,by simp[U],λk i hk=>?_⟩;cases k with
       | zero=>simp at hk;subst hk;exact⟨x,rfl,O⟩
       | succ k=>simp at hk;simpa using Y k i hk
variable {H:Type} {enc:TypeId × Value->H} {P:Program} {w:World} {base:Nat} {spare:Nat->Bool} {held:Bool} {T:List TypeId}
theorem MM:∀ {L:List Field}{o n:Nat},Ek P L o n=true->o<=n
 | [],o,n,h=>by simp[Ek]at h;omega
 | f::L,o,n,h=>by
   simp only[Ek,oE]at h
   have:=MM h.2
   omega
theorem HH {g:TypeId->List Value->Option (DataW H × List MemPlace)} {R:TypeId->List D->Prop} {cs:List Value}:∀ {L:List Field} {o N:Nat} {r:List (DataW H × List MemPlace)},Ek P L o N=true->N<=cs.length ->
  (L.mapM λf=>g f.type ((cs.drop f.offset).take (P.cellsOf f.type)))=some r->(∀ x∈DataW.weightsEach P (L.map (·.type)) (r.map (·.1)),x<=reachBytes)->(∀ f∈L,∀ vs y,g f.type vs=some y->(∀ x∈y.1.weights P f.type,x<=reachBytes)->∃ xs,Snap w vs xs/\R f.type xs)->∃ xs,Snap w ((cs.drop o).take (N - o)) xs/\Z7 R (L.map (·.type)) xs
 | [],o,N,r,hc,hN,h,O,U=>by simp[Ek]at hc;subst hc;exact⟨[],⟨by simp,by simp,by simp⟩,rfl⟩
 | f :: L,o,N,r,hc,hN,h,O,U=>by
   simp only[Ek,oE,nF]at hc;obtain⟨Y,J⟩:=hc;rw[List.mapM_cons]at h;cases hx:g f.type ((cs.drop f.offset).take (P.cellsOf f.type))with
   | none=>simp[hx]at h
   | some y=>
     cases I:(L.mapM λf=>g f.type ((cs.drop f.offset).take (P.cellsOf f.type)))with
     | none=>simp[hx,I]at h
     | some ys=>
       have hr:r=y::ys:=by simpa [hx,I]using h.symm
       subst hr;simp only[oZ,DataW.weightsEach,oM]at O;obtain⟨us,h1,h2⟩:=U f (by simp) _ y hx λx hx=>O x (.inl hx);obtain⟨bs,h3,h4⟩:=HH J hN I (λx hx=>O x (.inr hx)) λf hf=>U f (by simp[hf]);have aa:=MM J;refine⟨us++bs,?_,us,bs,rfl,h2,h4⟩
       have:=h1.app h3
       rw[Y]at this;have e:(cs.drop o).take (N - o)=(cs.drop o).take (P.cellsOf f.type)++(cs.drop (o+P.cellsOf f.type)).take (N - (o+P.cellsOf f.type)):=by rw[show N - o=P.cellsOf f.type+(N - (o+P.cellsOf f.type)) by omega,List.take_add,List.drop_drop]
       rw[e];exact this
theorem X5 {n:Nat}{t:TypeId}{xs:List D}(h:Shp P n t xs)(hc:∀ x∈xs,x.isCell)(hs:Ht P t=0)(I:∀ fs,P.underlying t≠some (.struct fs)):∃ x,xs=[x]:=by
 cases n with
 | zero=>exact h.elim
 | succ n=>
   unfold Shp at h;split at h
   ·obtain⟨v,rfl⟩:=h;exact⟨_,rfl⟩
   ·obtain⟨v,rfl,_⟩:=h;exact⟨_,rfl⟩
   ·obtain⟨v,rfl,_⟩:=h;exact⟨_,rfl⟩
   ·obtain⟨a,es,c,rfl,_⟩:=h;exact⟨_,rfl⟩
   ·rename_i fs J;exact absurd J (I fs)
   ·exact h.elim
theorem XQ {n:Nat} {e:TypeId} {cs:List Value} {xs:List D} (hs:Snap w cs xs) (h:Shp P n e xs) (hl:cs.length=P.cellsOf e) (Y:P.cellsOf e=ez (Ht P e)) :
  ∃ x,x.cells=xs/\eOk (Ht P e) x/\Holds w x:=by
 have aa:xs.length=cs.length:=by rw[<-hs.cv];simp
 by_cases I:∃ fs,P.underlying e=some (.struct fs)
 ·obtain⟨fs,I⟩:=I;have J:Ht P e=P.cellsOf e:=by unfold Ht;rw[I]
  have O:P.cellsOf e≠0:=by intro h0;rw[J,h0]at Y;simp[ez]at Y
  refine⟨.ag xs,rfl,?_,.ag hs.hold⟩;unfold eOk;rw[J,if_neg O];exact⟨xs,rfl,by omega,hs.cell⟩
 ·have J:Ht P e=0:=by
   unfold Ht;split
   ·rename_i fs U;exact absurd ⟨fs,U⟩ I
   ·rfl
  obtain⟨x,rfl⟩:=X5 h hs.cell J λfs U=>I ⟨fs,U⟩;have hc:=hs.cell x (by simp);refine⟨x,?_,?_,hs.hold x (by simp)⟩
  ·cases x<;>first | exact hc.elim | rfl
  ·unfold eOk;rw[J,if_pos rfl];exact hc
theorem SN {a:Addr}{n:Nat}{cs:List Value}(h:w.cells? base a n=some cs):cs.length=n/\∀ j u,cs[j]?=some u->w.cell? (a.add j)=some u:=by
 unfold World.cells? at h;split at h
 ·refine⟨by have:=mapM_some_length h;simpa using this,λj u J=>?_⟩;have I:j<n:=by
   have:=mapM_some_length h
   have O:=(oC.1 J).1;simp at this;omega
  have:=mapM_some_get h j j (by simp[I])
  rw[this];exact J
 ·cases h
theorem SM {a:Addr}{u:Value}(h:w.cell? a=some u):a.spot=none/\∃ c t fz,w.heap[a.block]?=some (.cells c t fz):=by
 refine⟨World.cell?_spot h,?_⟩;unfold World.cell? at h;split at h
 ·rename_i c t fz I;exact⟨_,_,_,I⟩
 ·cases h
theorem Zc {a:Addr}{z:Nat}{es:List D}(Y:∀ x∈es,eOk z x)(h:∀(k:Nat)(x:D),es[k]?=some x->∀(j:Nat)(u:D),x.cells[j]?=some u->w.cell? ((a.add (k*ez z)).add j)=some u.cv):Row w a (flat es)/\(es≠[]->a.spot=none):=by
 by_cases J:es=[]
 ·subst J;exact⟨.inl rfl,λh=>absurd rfl h⟩
 obtain⟨x,l,rfl⟩:∃ x l,es=x::l:=by cases es with | nil=>exact absurd rfl J | cons x l=>exact⟨x,l,rfl⟩
 have hx:=xT (Y x (by simp));have hp:=Cj z;obtain⟨u0,aa⟩:∃ u,x.cells[0]?=some u:=⟨_,oF (by omega)⟩
 have h0:=h 0 x (by simp) 0 u0 aa;have e0:(a.add (0*ez z)).add 0=a:=by simp[Addr.add]
 rw[e0]at h0;obtain⟨hs,c,t,fz,hb⟩:=SM h0;refine⟨.inr ⟨c,t,fz,hb,λi u hu=>?_⟩,λ_=>hs⟩;have ab:=zW Y;have hi:i<(x::l).length*ez z:=by rw[<-ab];exact(oC.1 hu).1
 have hk:i / ez z<(x::l).length:=(Nat.div_lt_iff_lt_mul hp).2 hi;have hj:i % ez z<ez z:=Nat.mod_lt _ hp;have hy:=oF hk;have ae:=xT (Y _ (oA hy));have hv:=oF (l:=((x::l)[i / ez z]).cells) (i:=i % ez z) (by omega);have O:=Af Y hy hv;have U:i / ez z*ez z+i % ez z=i:=by rw[Nat.mul_comm];exact Nat.div_add_mod i (ez z)
 rw[U,hu]at O;have I:=h _ _ hy _ _ hv;have ac:=oU O;rw[<-ac]at I;obtain⟨b,o,s⟩:=a;simp only at hs hb ⊢;subst hs;rw[wA,wA,mP,U]at I
 have:=GX (w:=w) (ad:=⟨b,o,none⟩) rfl hb i
 rw[wA]at this;rw[this]at I;exact I
theorem BY {e:TypeId}{d:DataW H}:∀ {l:List (DataW H)},d∈l->∀ {x:Nat},x∈d.weights P e->x∈DataW.weightsAll P e l
 | d'::l,h,x,hx=>by
   simp only[DataW.weightsAll,oM];rcases oH.1 h with rfl | h
   ·exact .inl hx
   ·exact .inr (BY h hx)
theorem NB (hT:T.all (P7 P T)=true):∀(n:Nat)(t:TypeId)(cs:List Value)(y:DataW H × List MemPlace),t∈T->DataW.trod enc P w base spare held n t cs=some y->(∀ x∈y.1.weights P t,x<=reachBytes)->∃ xs,Snap w cs xs/\Shp P n t xs:=by
 intro n
 induction n with
 | zero=>intro t cs y _ h _;simp[DataW.trod]at h
 | succ n ih=>
   intro t cs y ht h hw;have J:=oa.1 hT t ht;unfold P7 at J;unfold Shp;unfold DataW.trod at h;split at h
   ·rename_i I;rw[I];exact⟨[.lit _],.one rfl rfl .lit,_,rfl⟩
   ·rename_i I;rw[I];split at h
    ·rename_i hk;obtain⟨rfl,hk⟩:=hk;exact⟨[.lit _],.one rfl rfl .lit,_,rfl,hk⟩
    ·cases h
   ·rename_i I;rw[I]at J;simp at J
   ·rename_i I;rw[I];split at h
    ·cases h;exact⟨[.lit _],.one rfl rfl .lit,_,rfl,hw _ (by simp only[DataW.weights,oW];exact ny.symm)⟩
    ·cases h
   ·rename_i I;rw[I]at J;simp at J
   ·rename_i I;rw[I]at J;simp at J
   ·rename_i e I;rw[I];exact⟨_,.one (x:=.sl none (Ht P e) [] 0) rfl trivial .nil,_,_,_,rfl,Nat.zero_le _,λx hx=>absurd hx (by simp)⟩
   ·rename_i e a len cap I;rw[I]at J ⊢;simp only[oE,nF,List.contains_iff_mem]at J;obtain⟨⟨ah,hz⟩,ab⟩:=J;have ab:=lU ab;simp only at h;split at h
    rotate_left
    ·cases h
    rename_i hb;obtain⟨ax,ay,az⟩:=hb;cases hm:(List.range len).mapM λi=>(w.cells? base (a.add (i*P.cellsOf e)) (P.cellsOf e)).bind (DataW.trod enc P w base spare held n e)with
    | none=>rw[hm]at h;simp at h
    | some elems=>
      have ai:=hm;rw[hm]at h;simp only[lJ]at h;obtain⟨rest,_,Y⟩:=lV.1 h;subst Y;simp only[DataW.weights,I,oH,oM]at hw;have a0:elems.length=len:=by simpa using mapM_some_length hm
      have a2:len<=reachBytes:=by have h1:=hw _ (.inl rfl);have h2:((elems.map (·.1)).length+(rest.map (·.1)).length)*1<=((elems.map (·.1)).length+(rest.map (·.1)).length)*P.bytesOf e:=mw _ ab;simp only[om,Nat.mul_one]at h1 h2;omega
      have aj:∀ y∈elems,∀ x∈y.1.weights P e,x<=reachBytes:=λy Y x hx=>hw x (.inr (.inl (BY (oT.2 ⟨y,Y,rfl⟩) hx)));obtain⟨es,O,ak⟩:=Gz (Q:=λi (x:D)=>Shp P n e x.cells/\eOk (Ht P e) x/\Holds w x/\∀(j:Nat) (u:D),x.cells[j]?=some u->w.cell? ((a.add (i*ez (Ht P e))).add j)=some u.cv) ai λi _ y al Y=>by
       cases hc:w.cells? base (a.add (i*P.cellsOf e)) (P.cellsOf e)with
       | none=>rw[hc]at Y;simp at Y
       | some vs=>rw[hc]at Y;simp only[lJ]at Y;obtain⟨xs,h1,h2⟩:=ih e vs y ah Y (aj y al);obtain⟨am,ao⟩:=SN hc;obtain⟨x,rfl,h3,h4⟩:=XQ h1 h2 am hz;refine⟨x,h2,h3,h4,λj u I=>?_⟩;rw[<-hz];refine ao j _ ?_;rw[<-h1.cv,oG,I];rfl
      have O:es.length=len:=by simpa using O
      have aa:∀ k x,es[k]?=some x->Shp P n e x.cells/\eOk (Ht P e) x/\Holds w x/\∀(j:Nat) (u:D),x.cells[j]?=some u->w.cell? ((a.add (k*ez (Ht P e))).add j)=some u.cv:=λk x hk=>by
       have aq:k<len:=by rw[<-O];exact(oC.1 hk).1
       obtain⟨x',h1,h2⟩:=ak k k (by simp[aq]);rw[hk]at h1;cases h1;exact h2
      have U:∀ x∈es,Shp P n e x.cells/\eOk (Ht P e) x/\Holds w x:=λx hx=>by obtain⟨k,hk⟩:=oQ.1 hx;obtain⟨h1,h2,h3,_⟩:=aa k x hk;exact⟨h1,h2,h3⟩
      obtain⟨ae,ac⟩:=Zc (a:=a) (λx hx=>(U x hx).2.1) λk x hk=>(aa k x hk).2.2.2;refine⟨[.sl (some a) (Ht P e) es cap],.one (by simp[D.cv,O]) trivial (.sl ac (by omega) (λx hx=>(U x hx).2.1) (λx hx=>(U x hx).2.2) ae),_,_,_,rfl,by omega,λx hx=>(U x hx).1⟩
   ·rename_i cs _ cs' fs I;rw[I]at J ⊢;simp only[oE,oa,List.contains_iff_mem]at J;obtain⟨hc,au⟩:=J;split at h
    rotate_left
    ·cases h
    rename_i hl;cases hm:fs.toList.mapM λf=>DataW.trod enc P w base spare held n f.type ((cs.drop f.offset).take (P.cellsOf f.type))with
    | none=>rw[hm]at h;simp at h
    | some r=>rw[hm]at h;simp only[oe,nL]at h;subst h;simp only[DataW.weights,I]at hw;obtain⟨xs,h1,h2⟩:=HH (R:=Shp P n) hc (by omega) hm hw λf hf vs y Y aw=>ih f.type vs y (au f hf) Y aw;refine⟨xs,?_,h2⟩;simpa [<-hl]using h1
   all_goals(rename_i I;first | (rw[I]at J;simp at J;done) | (exfalso;simp_all;done))
open Go Go.ChangeShapes Go.WideShapes Go.ChangeAt Go.RowKit
structure Ret1 (W W':World) (e:Ending):Prop where
 e:e=.returned (.bool true)
 old:∀ b,b<W.heap.size->W'.heap[b]?=W.heap[b]?
 size:W.heap.size<=W'.heap.size
 ku:KU W W'
theorem Xv {av:Nat->Prop}{W W':World}{e:Ending}(h:Fin [.bool] (λr _=>r=true) av W e W'):Ret1 W W' e:=by
 cases e with
 | returned v=>
   obtain⟨ps,rows,e',hd⟩:=h;have I:=hd.q;have hv:=hd.v;refine⟨?_,hd.old,hd.size,hd.ku⟩;cases ps with
   | nil=>simp[QT.app]at I
   | cons p ps=>
     cases p<;>simp[QT.app]at I
     cases ps<;>cases rows<;>simp[QT.app]at I
     subst I;rw[hv];rfl
 | _=>exact h.elim
theorem TU {H:Type} {enc:TypeId × Value->H} {P:Program} {fn:Func} {s:ChangeSpec} {apart fresh I:Bool} {W W':World} {args:Array Value} {ds gs:List (DataW H)} {J:List MemPlace} {tb:TypeId} {e:Ending}
  (K:Kids P (·<P.types.size)) (full:∀ t e,t<P.types.size->P.underlying t=some (.slice e)->0<P.cellsOf e)
  (U:∀ t∈fn.params.toList,t<P.types.size) (hv:s.vars=[]) (ab:fn.resultTypes=#[tb]) (ac:P.underlying tb=some .bool)
  (hs:s.fn H (ds++gs)={ results:=[.lit (.bool true)],args:=ds })
  (hW:DataW.Whole enc P fn.params.toList s.vars apart W args.toList ds gs J) (hr:Ret1 W W' e) :
  ∃ v,e=.returned v/\s.post enc P fn apart fresh I false W args v W':=by
 refine⟨_,hr.e,?_⟩;have Y:=hW;obtain⟨p,q,hA,hV,rfl,ah,_⟩:=hW;rw[hv]at hV;obtain⟨rfl,rfl⟩:=trodVars_none hV;have aa:∀ x∈p++[],x.block<W.heap.size:=Y.lt;have O:∀ {ts:List TypeId} {vs:List Value} {ds:List (DataW H)} {ps:List MemPlace},DataW.TrodAll enc P W 0 (λ_=>true) true ts vs ds ps->(∀ x∈ps,x.block<W.heap.size)->DataW.TrodAll enc P W' 0 (λ_=>true) true ts vs ds ps:=by
  intro ts
  induction ts with
  | nil=>intro vs ds ps h _;obtain⟨rfl,rfl,rfl⟩:=trodAll_nil h;exact trodAll_mk0
  | cons t ts ih=>
    intro vs ds ps h hl;obtain⟨v,ai,d,ds1,a,b,rfl,rfl,rfl,⟨n,h1⟩,h2⟩:=trodAll_cons h;refine⟨a,b,⟨n,DataW.trod_carry n _ _ _ h1 λx hx=>?_⟩,ih h2 λx hx=>hl x (by simp[hx]),rfl⟩;have hb:=hr.old _ (hl x (by simp[hx]));cases x with
    | cell b off=>simp only[World.sameAt,World.cell?,MemPlace.block]at hb ⊢;rw[hb]
    | map b=>exact hb
 have ae:=O hA λx hx=>aa x (by simp[hx]);refine⟨ds,[],p++[],[],p,[],Y,?_,?_,?_,⟨hr.ku.os,hr.ku.out,λi hi=>?_⟩,λh=>by cases h⟩
 ·rw[hs,ab];exact trodAll_mk1 ⟨1,by simp[DataW.trod,Value.cells,ac]⟩
 ·rw[hs];exact DataW.TrodAll.respare K full U ae λx hx=>by simpa using aa x (by simp[hx])
 ·rw[hs,hv];rfl
 ·rw[hr.old i hi];cases hb:W.heap[i]? with
  | none=>rfl
  | some o=>
    cases o with
    | cells c t fr=>exact⟨rfl,rfl,rfl,λ_ _=>rfl⟩
    | map es clock=>exact .inr ⟨rfl,rfl⟩
    | _=>rfl
open Go Go.Proofs Go.Proofs.Tryz Go.ChangeShapes Go.WideShapes Go.ChangeAt Go.RowKit
theorem zBH:Kids prog (·<prog.types.size):=kids_rows (by kernel_rfl) (by kernel_rfl)
theorem full:∀ t e,t<prog.types.size->prog.underlying t=some (.slice e)->0<prog.cellsOf e:=slices_full_of prog (by kernel_rfl)
def TT:List TypeId:=[9,3,4,31,22,5]
theorem Vl:TT.all (P7 prog TT)=true:=by kernel_rfl
theorem Mu:ownKnob prog.godebug=none:=by kernel_rfl
theorem Rd {H:Type}{P:Program}{I:List TypeId}{ds:List (DataW H)}(h:(DataW.weightsEach P I ds).all (·<=reachBytes)=true){j:Nat}{t:TypeId}{d:DataW H}(J:I[j]?=some t)(hd:ds[j]?=some d):∀ n∈d.weights P t,n<=reachBytes:=λn hn=>by
 have:=oa.1 h _ (DataW.weights_mem_each J hd n hn)
 simpa using this
theorem V1 {H:Type} {enc:TypeId × Value->H} {P:Program} {T:List TypeId} (O:T.all (P7 P T)=true) {W:World} {r:Reach} {b:Nat} {t e:TypeId} {v:Value} {d:DataW H} {ps:List MemPlace} (U:t∈T) (J:P.underlying t=some (.slice e))
  (I:Value.okWide P W r b t v) (h:DataW.Trod enc P W 0 (λ_=>true) true t v d ps) (Y:∀ n∈d.weights P t,n<=reachBytes):∃(n:Nat) (a:Option Addr) (es:List D) (c:Nat),(PV.sv a (Ht P e) es c).val []=v/\Holds W (.sl a (Ht P e) es c)/\Shp P n t [.sl a (Ht P e) es c]:=by
 obtain⟨n,h⟩:=h;obtain⟨a0,len,cap,rfl⟩:=okWide_slice J I;obtain⟨xs,s,k⟩:=NB O n t _ _ U h Y;obtain⟨m,a,es,c,rfl,rfl,_,_⟩:=QG J k;have e0:(D.sl a (Ht P e) es c).cv=.slice a0 len cap:=by
  have:=s.cv
  simpa [Value.cells]using this
 exact⟨_,a,es,c,e0,s.hold _ (by simp),k⟩
end Go.Proofs.YtlaniepnglheoaaGreat
set_option maxRecDepth 100000
namespace Go.Proofs.YtlaniepnglheoaaGreat
open Go Go.Proofs Go.Proofs.Tryz
theorem ez5:Ht prog 5=0:=by kernel_rfl
theorem Ul {W:World}{n:Nat}{a:Option Addr}{es:List D}{c:Nat}(O:Holds W (.sl a 0 es c))(h:Shp prog n 22 [.sl a 0 es c]):∀ d∈es,∃ k:Int,d=.lit (.int .u8 k):=by
 obtain⟨m,a',es',c',e,hs,hl,hx⟩:=QG underlying22 h;have U:es'=es:=by cases hs;rfl
 subst U;have I:∀ x∈es',x.isCell:=by
  cases O with
  | nil=>intro x hx;simp at hx
  | sl h1 h2 Y h4 h5=>intro x hx;exact Y x hx
 intro x J;obtain⟨k,hk⟩:=Ze underlying5 (hx x J);have hc:=I x J;refine⟨k,?_⟩;cases x<;>simp[D.isCell,D.cells]at hc hk ⊢<;>exact hk
open Go Go.Proofs Go.Proofs.Tryz Go.ChangeShapes Go.WideShapes Go.ChangeAt Go.RowKit
set_option maxHeartbeats 1600000 in
set_option maxRecDepth 100000 in
theorem Cm (os:Os) (I:os.Started) (H:Type) (enc:TypeId × Value->H) :
  ReturnsInHanded {} checked os 3 .any (Rows.fnGeneratedSpec.pre6 enc prog Tryz.f3 Rows.fnGeneratedRow.domain false) (Rows.fnGeneratedSpec.post enc prog Tryz.f3 false true false false):=by
 refine returnsInHanded_of_change_sized (C:=checked) Mu I (by kernel_rfl) func3
  (ChangeSpec.witness6 (enc:=enc) (C:=checked) false ⟨#[],#[.slice none 0 0],[]⟩ 8 (by kernel_rfl) (by kernel_rfl) (by kernel_rfl) (by kernel_rfl)) ?_
 intro W base args ds gs ab U hW _ J _;have O:∀(j:Nat) t v,Tryz.f3.params[j]?=some t->args[j]?=some v->Value.okWide prog W .any base t v:=U;have ac:=hW;obtain⟨p,q,ae,hV,rfl,ai,_⟩:=hW;have hA:DataW.TrodAll enc prog W 0 (λ_=>true) true Tryz.f3.params.toList args.toList ds p:=ae;have J:(DataW.weightsEach prog (Tryz.f3.params.toList++[]) (ds++gs)).all (·<=reachBytes)=true:=J;rw[params3]at hA O J;obtain⟨v0,aj,d0,ds1,p0,p1,ha,rfl,rfl,h0,hr⟩:=trodAll_cons hA;obtain⟨rfl,rfl,rfl⟩:=trodAll_nil hr;obtain rfl:args=#[v0]:=by rw[<-np,ha]
 obtain⟨rfl,rfl⟩:=trodVars_none hV;obtain⟨n0,aC,ah,cC,e0,Y,k0⟩:=V1 Vl (by decide) underlying22 (O 0 22 v0 rfl rfl) h0 (Rd J (j:=0) rfl rfl);rw[ez5]at e0 Y k0;have hc:=(Kh (Ul Y k0) aC cC W.heap.size).h (λ_=>False) W rfl ⟨λ_ h=>h.elim,⟨λx hx=>by simp[glob]at hx,λx hx=>by simp[RB]at hx⟩,λb hb=>by obtain⟨x,hx,_⟩:=hb;simp[glob]at hx,λb hb=>by obtain⟨x,hx,_⟩:=hb;simp[glob]at hx,λx hx=>by simp⟩ (λp hp=>by simp only[oH,oh,mK]at hp;subst hp;exact⟨⟨Y,λ_ _=>id⟩,rfl⟩);have aa:([PV.sv aC 0 ah cC].map (PV.val [])).toArray=#[v0]:=by simp only[oZ,lI,e0]
 rw[aa]at hc;refine hc.mono λe W' hf=>?_;exact TU zBH full (by rw[params3];decide) rfl (by kernel_rfl) underlying4 rfl ac (Xv hf)
theorem fnGenerated_holds:Rows.FnGeneratedSaid:=
 OpenClaim.holds_of_wide 3 Tryz.f3 rfl rfl rfl rfl rfl rfl rfl ⟨rfl,rfl,rfl,rfl,rfl⟩ rfl rfl rfl rfl rfl (by kernel_rfl) func3 (by kernel_rfl)
  (lU (by kernel_rfl)) (by unfold Func.isWrapper;first | (rw[if_pos (by decide +kernel)];kernel_rfl) | (rw[if_neg (by decide +kernel)];exact⟨rfl,rfl⟩))
  (λos I H enc _=>Cm os I H enc)
#print axioms fnGenerated_holds
end Go.Proofs.YtlaniepnglheoaaGreat
