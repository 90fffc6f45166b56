/- Simplify: the reference's. -/
import Derived.Test.YtligajflgjpdnaaGreatDoorB6
import Derived.Test.YtligajflgjpdnaaGreatDoorKf
import Derived.Maps.OwnSet
import Derived.Test.YtligajflgjpdnaaGreatDoorC5
import Derived.Test.YtligajflgjpdnaaGreatDoorA5
import Derived.Test.YtligajflgjpdnaaGreatDoorC1
import Derived.Test.YtligajflgjpdnaaGreatDoorB2
import Derived.Test.YtligajflgjpdnaaGreatDoorKd
import Derived.Test.YtligajflgjpdnaaGreatDoorJh
import Derived.ProofKit
import Derived.ReadAgain
import Derived.ChangeSame
import Derived.Test.YtligajflgjpdnaaGreatDoorRows
import Derived.SizedLaws
import Derived.Test.YtligajflgjpdnaaGreatDoorA1
import Derived.Lib.LaidTab
import Derived.Lib.ItoaNum
import Derived.Stop.LaidErr
import Derived.LaidMore
import Derived.OpenShut
import Derived.MakeChecks
import Derived.Test.YtligajflgjpdnaaGreatDoorCards
import Derived.Test.YtligajflgjpdnaaGreatDoorTie
import Derived.SevenTiedAt
set_option linter.unusedVariables false
set_option linter.unusedSimpArgs false
namespace Go.Proofs.YtligajflgjpdnaaGreatDoor
open Go Go.Proofs Go.Proofs.Tryz Go.IntWalk
def Ld (f:FuncId)(args:List PV)(t:Tm):Prop:=∀(N:Nat) (Q:QT [.ag 9]),(∀ d N',N<=N'->t.Is d->Q d N')->ACalls prog f [.ag 9] args N Q
theorem Pe (s:ByteArray):HX (zR s)=true:=by rcases D1 s with h | h<;>rw[h]<;>rfl
theorem OZ {nm:ByteArray}{l:List Tm}(h:(Hu nm l).2=true):∀ x∈l,HX x.kd=true:=λx I=>by
 unfold Hu at h;split at h
 ·rename_i J
  have:=oY.1 J x I
  rw[nM]at this;rw[this];exact Pe nm
 ·cases h
theorem WV {n0:Int}{nm ot:ByteArray}{ty re:Ty}{l:List Tm}{d:D}(hd:(Tm.mk 4 nm ot n0 ty re l).Is d)(hW:(Tm.mk 4 nm ot n0 ty re l).W):Ld 97 [.dg 9 d] (Ax (.mk 4 nm ot n0 ty re l) nm l):=λN Q hQ=>by
 have al:=hd;have hG:=hW.z.g;have a7:=hW.k.1.o rfl;have a8:=hW.k.1.ar.2.2.2.2.2 rfl;have ba:=KF nm;have hS:∀ y∈l,∀ dy,y.Is dy->HI 36 [.dg 9 dy]:=λy hy dy h=>PO y dy h (hW.mem y hy);have ai:=Nz al hW hS;obtain⟨t0,t1,r0,r1,a,es,c,rfl,hh,a6,U⟩:=Tm.is_mk.1 hd;have hl:=U.len;have ab:=zO U (j:=0) (by omega);have au:∀ s,(s=bytes [43]\/s=bytes [42]\/s=bytes [45])->rU s=2:=by rintro s (rfl | rfl | rfl)<;>decide +kernel
 have ac:(nm=bytes [43]\/nm=bytes [42]\/nm=bytes [45])->l.length=2:=λh=>by have:=au nm h;omega
 have g1:∀ i,i<l.length->(l.getD i tm0).G:=λi hi=>zh hG.2.2.2 (zB hi);unfold Ax at hQ;have j4:¬(Hu nm l).2=true->∀ N',N<=N'->wV Q N (.ag [.j 4,.t nm,.t ot,.j n0,t0,t1,r0,r1,.sl a 9 es c]) 0 (bytes []) (bytes []) 0 0 none [] 0 0 none [] 0 none [] 0 N':=λaw N' aa=>by
  rw[if_neg aw]at hQ;have j5:(nm=bytes [43]/\(l.getD 0 tm0).isI 0=true)\/(nm=bytes [42]/\(l.getD 0 tm0).isI 1=true)->∀ N',N<=N'->wS Q N (.ag [.j 4,.t nm,.t ot,.j n0,t0,t1,r0,r1,.sl a 9 es c]) 0 (bytes []) (bytes []) 0 0 none [] 0 0 none [] 0 none [] 0 N':=λhc N' aa=>by rw[if_pos hc]at hQ;have h2:=ac (hc.elim (λh=>.inl h.1) λh=>.inr (.inl h.1));refine G1 ?_;exact⟨_,_,_,rfl,⟨by omega,by omega⟩,λN1 O=>qn wr (zO U (j:=1) (by omega)) (g1 1 (by omega)) (N0:=N) (by omega) (λd N=>Q d N) λd' N2 Y aj _=>hQ _ _ (by omega) aj⟩
  have j6:¬((nm=bytes [43]/\(l.getD 0 tm0).isI 0=true)\/(nm=bytes [42]/\(l.getD 0 tm0).isI 1=true))->∀ N',N<=N'->xW Q N (.ag [.j 4,.t nm,.t ot,.j n0,t0,t1,r0,r1,.sl a 9 es c]) 0 (bytes []) (bytes []) 0 0 none [] 0 0 none [] 0 none [] 0 N':=λhc N' aa=>by
   rw[if_neg hc]at hQ;have j7:(nm=bytes [43]/\(l.getD 1 tm0).isI 0=true)\/(nm=bytes [42]/\(l.getD 1 tm0).isI 1=true)\/(nm=bytes [45]/\(l.getD 1 tm0).isI 0=true)->∀ N',N<=N'->yF Q N (.ag [.j 4,.t nm,.t ot,.j n0,t0,t1,r0,r1,.sl a 9 es c]) 0 (bytes []) (bytes []) 0 0 none [] 0 0 none [] 0 none [] 0 N':=λhc N' aa=>by rw[if_pos hc]at hQ;refine Gu ?_;exact⟨_,_,_,rfl,⟨by omega,by omega⟩,λN1 O=>qn wr ab (g1 0 (by omega)) (N0:=N) (by omega) (λd N=>Q d N) λd' N2 Y aj _=>hQ _ _ (by omega) aj⟩
   have fin:¬((nm=bytes [43]/\(l.getD 1 tm0).isI 0=true)\/(nm=bytes [42]/\(l.getD 1 tm0).isI 1=true)\/(nm=bytes [45]/\(l.getD 1 tm0).isI 0=true))->∀ N',N<=N'->Q (.ag [.j 4,.t nm,.t ot,.j n0,t0,t1,r0,r1,.sl a 9 es c]) N':=λhc N' aa=>by rw[if_neg hc]at hQ;exact hQ _ _ aa al
   refine HY ?_;refine⟨_,rfl,Br.str (λe=>?_) λe=>⟨_,rfl,Br.str (λJ=>?_) λJ=>⟨_,rfl,Br.str (λe3=>?_) λe3 N1 O=>fin ?_ _ (by omega)⟩⟩⟩
   ·have h2:=ac (.inl e);exact⟨_,_,_,rfl,⟨by omega,by omega⟩,λN1 O=>ui _ _ (zO U (j:=1) (by omega)) _ N1 _ λN2 Y _=>Br.of (λI=>j7 (.inl ⟨e,I⟩) _ (by omega)) λI=>⟨_,rfl,Br.str (λJ=>absurd (e.symm.trans J) (by decide)) λJ=>⟨_,rfl,Br.str (λe3=>absurd (e.symm.trans e3) (by decide)) λe3 N3 ak=>fin (by
     rintro(⟨h,g⟩ | ⟨h,g⟩ | ⟨h,g⟩)
     ·rw[I]at g;cases g
     ·exact J h
     ·exact e3 h) _ (by omega)⟩⟩⟩
   ·have h2:=ac (.inr (.inl J));exact⟨_,_,_,rfl,⟨by omega,by omega⟩,λN1 O=>ui _ _ (zO U (j:=1) (by omega)) _ N1 _ λN2 Y _=>Br.of (λI=>j7 (.inr (.inl ⟨J,I⟩)) _ (by omega)) λI=>⟨_,rfl,Br.str (λe3=>absurd (J.symm.trans e3) (by decide)) λe3 N3 ak=>fin (by
     rintro(⟨h,g⟩ | ⟨h,g⟩ | ⟨h,g⟩)
     ·exact e h
     ·rw[I]at g;cases g
     ·exact e3 h) _ (by omega)⟩⟩
   ·have h2:=ac (.inr (.inr e3));exact⟨_,_,_,rfl,⟨by omega,by omega⟩,λN1 O=>ui _ _ (zO U (j:=1) (by omega)) _ N1 _ λN2 Y _=>Br.of (λI=>j7 (.inr (.inr ⟨e3,I⟩)) _ (by omega)) λI N3 ak=>fin (by
     rintro(⟨h,g⟩ | ⟨h,g⟩ | ⟨h,g⟩)
     ·exact e h
     ·exact J h
     ·rw[I]at g;cases g) _ (by omega)⟩
   ·rintro(⟨h,g⟩ | ⟨h,g⟩ | ⟨h,g⟩)
    ·exact e h
    ·exact J h
    ·exact e3 h
  refine Gs ?_;refine⟨_,rfl,Br.str (λe=>?_) λe=>⟨_,rfl,Br.str (λJ=>?_) λJ=>j6 (λh=>h.elim (λh=>e h.1) λh=>J h.1) _ aa⟩⟩
  ·exact⟨_,_,_,rfl,⟨by omega,by omega⟩,λN1 O=>ui _ _ ab _ N1 _ λN2 Y _=>Br.of (λI=>j5 (.inl ⟨e,I⟩) _ (by omega)) λI=>⟨_,rfl,Br.str (λJ=>absurd (e.symm.trans J) (by decide)) λJ=>j6 (λh=>h.elim (λh=>by rw[I]at h;cases h.2) λh=>J h.1) _ (by omega)⟩⟩
  ·exact⟨_,_,_,rfl,⟨by omega,by omega⟩,λN1 O=>ui _ _ ab _ N1 _ λN2 Y _=>Br.of (λI=>j5 (.inr ⟨J,I⟩) _ (by omega)) λI=>j6 (λh=>h.elim (λh=>e h.1) λh=>by rw[I]at h;cases h.2) _ (by omega)⟩
 have ax:=hW.mem _ (zB (l:=l) (i:=0) (by omega));have ay:=hW.mem _ (zB (l:=l) (i:=l.length - 1) (by omega));have az:IntKind.i64.wrap ((es.length:Int) - 1)=((l.length - 1:Nat):Int):=by rw[i64_in _ (by omega)];omega
 refine Lu N _ Q λ_ N1 O=>ai N1 _ λx n N2 Y hx am _ _=>⟨_,_,_,rfl,⟨by omega,by omega⟩,λN3 ak=>H8 ab ax.k N3 _ λN4 bc _=>Br.of (λae=>⟨_,_,_,rfl,_,_,_,rfl,?_⟩) λae=>j4 (λh=>by rw[OZ h _ (zB (by omega))]at ae;cases ae) _ (by omega)⟩
 rw[az,oH];refine⟨⟨by omega,by omega⟩,λN5 bg=>H8 (zO U (j:=l.length - 1) (by omega)) ay.k N5 _ λN6 bh _=>Br.of (λah=>?_) λah=>j4 (λh=>by rw[OZ h _ (zB (by omega))]at ah;cases ah) _ (by omega)⟩;have ao:∀ x∈l,HX x.kd=true:=λx hx=>by
  obtain⟨i,hi⟩:=oQ.1 hx;have bi:=(oD.1 hi).1;have aq:l.getD i tm0=x:=by rw[oA,hi];rfl
  by_cases h0:i=0
  ·subst h0;rw[<-aq];exact ae
  ·have h3:i=l.length - 1:=by omega
   subst h3;rw[<-aq];exact ah
 obtain⟨q1,q2⟩:=am ao;rw[TX]at q1 q2;refine Br.beq (λh1 N7 bj=>?_) λh1=>j4 (λh=>?_) _ (by omega)
 ·have hT:(Hu nm l).2=true:=by
   cases h:(Hu nm l).2 with
   | true=>rfl
   | false=>rw[h]at q2;simp at q2;omega
  rw[if_pos hT]at q1 hQ;exact hQ _ _ (by omega) q1
 ·rw[if_pos h]at q2;exact h1 q2
theorem TO {k n0:Int}{nm ot:ByteArray}{ty re:Ty}{l:List Tm}{d:D}(hd:(Tm.mk k nm ot n0 ty re l).Is d)(hW:(Tm.mk k nm ot n0 ty re l).W):Ld 56 [.dg 9 d] (L4 (.mk k nm ot n0 ty re l)):=λN Q I=>by
 have U:=hd;have hG:=hW.z.g;obtain⟨_,_,a2,a3,_,_⟩:=hW.k.1.ar;obtain⟨t0,t1,r0,r1,a,es,c,rfl,hh,a7,J⟩:=Tm.is_mk.1 hd;have hl:=J.len;have g1:∀ i,i<l.length->(l.getD i tm0).G:=λi hi=>zh hG.2.2.2 (zB hi);have w1:∀ i,i<l.length->(l.getD i tm0).W:=λi hi=>hW.mem _ (zB hi);simp only[L4]at I;have j9:k≠4->(k=5->¬(l.getD 0 tm0).kd=3)->(k=7->¬((l.getD 0 tm0).kd=6/\(l.getD 1 tm0).atm=true))->(k=8->¬(l.getD 0 tm0).atm=true)->∀ N',N<=N'->xr Q N (.ag [.j k,.t nm,.t ot,.j n0,t0,t1,r0,r1,.sl a 9 es c]) 0 (bytes []) (bytes []) 0 0 none [] 0 0 none [] 0 none [] 0 N':=λh4 h5 h7 O N' ah=>by
  rw[if_neg h4]at I;refine Fk ?_;refine⟨_,rfl,Br.beq (λhk=>?_) λhk N1 ac=>?_⟩
  ·subst hk;have h2:=a2 (.inr rfl);rw[if_neg (by decide),if_neg (by decide),if_pos rfl,if_neg (O rfl)]at I;have ba:(l.getD 1 tm0).vc<=1333333:=by have:=Tm.vc_cnt (l.getD 1 tm0);have:=(w1 1 (by omega)).c;omega
   have bc:=Tm.fv_len (l.getD 1 tm0);refine⟨_,_,_,rfl,⟨by omega,by omega⟩,λN1 ac=>Aq _ _ (zO J (j:=0) (by omega)) N1 _ λN2 ai _=>Br.of (λhq=>?_) λhq N3 ae=>?_⟩
   ·refine⟨_,_,_,rfl,⟨by omega,by omega⟩,_,rfl,λN3 ae=>FK _ _ (zO J (j:=1) (by omega)) (by omega) N3 _ λa8 c8 N4 aq _ _ _ N5 au=>yw _ (by omega) a8 c8 nm N5 _ λN6 az _=>?_⟩;have aj:=KP nm (l.getD 1 tm0).fv;refine Br.dec (λbg=>?_) λbh N7 aw=>?_
    ·have ak:nm∉(l.getD 1 tm0).fv:=λhc=>by rw[mI hc,nf]at aj;omega
     rw[if_pos ⟨hq,ak⟩]at I;exact⟨_,_,_,rfl,⟨by omega,by omega⟩,λN7 aw=>qn wr (zO J (j:=1) (by omega)) (g1 1 (by omega)) (N0:=N) (by omega) (λd N=>Q d N) λd' N8 bi al _=>I _ _ (by omega) al⟩
    ·have ak:nm∈(l.getD 1 tm0).fv:=by rw[mI (by omega)]at aj;exact mi aj.symm
     rw[if_neg (λh=>h.2 ak)]at I;exact I _ _ (by omega) U
   ·rw[if_neg (λh=>by rw[hq]at h;cases h.1)]at I;exact I _ _ (by omega) U
  ·refine I _ _ (by omega) ?_;by_cases h:k=5
   ·rw[if_pos h,if_neg (h5 h)];exact U
   rw[if_neg h];by_cases h:k=7
   ·rw[if_pos h,if_neg (h7 h)];exact U
   rw[if_neg h,if_neg hk];exact U
 have j7:k≠4->(k=5->¬(l.getD 0 tm0).kd=3)->(k=8->¬(l.getD 0 tm0).atm=true)->∀ N',N<=N'->xC Q N (.ag [.j k,.t nm,.t ot,.j n0,t0,t1,r0,r1,.sl a 9 es c]) 0 (bytes []) (bytes []) 0 0 none [] 0 0 none [] 0 none [] 0 N':=λh4 h5 O N' ah=>by
  refine Fp ?_;refine⟨_,rfl,Br.beq (λhk=>?_) λhk=>j9 h4 h5 (λh=>absurd h hk) O _ ah⟩;subst hk;have h2:=a2 (.inl rfl);have aa:=zO J (j:=0) (by omega);have Y:=w1 0 (by omega);have ax:=w1 1 (by omega);rw[if_neg (by decide),if_neg (by decide),if_pos rfl]at I;have am:=zO J (j:=1) (by omega);generalize l.getD 0 tm0=p at aa Y I h5 O j9;generalize l.getD 1 tm0=q at ax am I j9;cases p with
  | mk pk pn po pm pt pr pl=>
  obtain⟨u0,u1,v0,v1,a',ay,c2,heq,a6,ao,ab⟩:=Tm.is_mk.1 aa;have bj:=ab.len;refine⟨_,_,_,rfl,⟨by omega,by omega⟩,pk,by rw[heq];rfl,Br.beq (λh6=>?_) λh6=>j9 h4 h5 (λ_ h=>h6 h.1) O _ ah⟩;refine⟨_,_,_,rfl,⟨by omega,by omega⟩,λN1 ac=>ru _ _ am N1 _ λN2 ai _=>Br.of (λhv=>?_) λhv=>j9 h4 h5 (λ_ h=>by rw[hv]at h;cases h.2) O _ (by omega)⟩;rw[if_pos ⟨h6,hv⟩]at I;have bm:=Y.k.1.ar.2.1 (.inl h6);refine⟨_,_,_,rfl,⟨by omega,by omega⟩,a',ay,c2,by rw[heq];rfl,⟨by omega,by omega⟩,_,_,_,rfl,⟨by omega,by omega⟩,pn,by rw[heq];rfl,_,_,_,rfl,⟨by omega,by omega⟩,λN3 ae=>?_⟩;exact uF (zO ab (j:=0) (by omega)) am pn (Y.mem _ (zB (l:=pl) (i:=0) (by omega))).z ax.z N3 _ λdx N4 aq hx _ _ _ N5 au=>I _ _ (by omega) hx
 refine JC N _ Q λ_=>⟨_,rfl,Br.beq (λh4 N1 ac=>?_) λh4=>⟨_,rfl,Br.beq (λh5=>?_) λh5=>⟨_,rfl,Br.beq (λO=>?_) λO=>j7 h4 (λh=>absurd h h5) (λh=>absurd h O) _ (oC _)⟩⟩⟩
 ·subst h4;rw[if_pos rfl]at I;exact WV U hW N1 _ λx N2 ai hx _ _ N3 ae=>I _ _ (by omega) hx
 ·subst h5;have bp:=a3 rfl;rw[if_neg (by decide),if_pos rfl]at I;have aa:=zO J (j:=0) (by omega);have Y:=w1 0 (by omega);generalize l.getD 0 tm0=p at aa Y I j7;cases p with
  | mk pk pn po pm pt pr pl=>
  obtain⟨u0,u1,v0,v1,a',ay,c2,heq,a6,ao,ab⟩:=Tm.is_mk.1 aa;refine⟨_,_,_,rfl,⟨by omega,by omega⟩,pk,by rw[heq];rfl,Br.beq (λh3=>?_) λh3=>⟨_,rfl,Br.beq (λO=>absurd O (by decide)) λO=>j7 h4 (λ_=>h3) (λh=>absurd h O) _ (oC _)⟩⟩;rw[if_pos (show(Tm.mk pk pn po pm pt pr pl).kd=3 from h3)]at I;have hn:=Y.k.1.b h3;have hw:IntKind.i64.wrap (2 - pm)=2 - pm:=i64_in _ (by omega);simp only[Tm.no]at I;refine⟨_,_,_,rfl,_,_,_,rfl,⟨by omega,by omega⟩,pm,by rw[heq];rfl,?_⟩;rw[hw];refine⟨⟨by omega,by omega⟩,λN6 az=>?_⟩;exact qn wr (zO J (j:=(2 - pm).toNat) (by omega)) (g1 _ (by omega)) (N0:=N) (by omega) (λd N=>Q d N) λd' N7 aw al _=>I _ _ (by omega) al
 ·have h2:=a2 (.inr O);refine⟨_,_,_,rfl,⟨by omega,by omega⟩,λN1 ac=>ru _ _ (zO J (j:=0) (by omega)) N1 _ λN2 ai _=>Br.of (λhv=>?_) λhv=>j7 h4 (λh=>absurd h h5) (λ_ h=>by rw[hv]at h;cases h) _ (by omega)⟩;subst O;rw[if_neg (by decide),if_neg (by decide),if_neg (by decide),if_pos rfl,if_pos hv]at I;refine⟨_,_,_,rfl,⟨by omega,by omega⟩,_,rfl,_,_,_,rfl,⟨by omega,by omega⟩,λN3 ae=>?_⟩;exact uF (zO J (j:=1) (by omega)) (zO J (j:=0) (by omega)) nm (w1 1 (by omega)).z (w1 0 (by omega)).z N3 _ λdx N4 aq hx _ _ _ N5 au=>I _ _ (by omega) hx
theorem Ux {k n0:Int}{nm ot:ByteArray}{ty re:Ty}{l:List Tm}(h:(Tm.mk k nm ot n0 ty re l).W):(Tm.mk k nm ot n0 ty re (l.map Tm.sim)).W:=by
 have J:=λx I=>h.mem x I;refine⟨⟨by rw[oW];exact h.k.1,zU.2 λx I=>?_⟩,?_⟩
 ·obtain⟨z,O,rfl⟩:=oP.1 I;exact(J z O).sim.k
 ·have hc:=h.c;simp only[Tm.cnt]at hc ⊢;have:zj (l.map Tm.sim)<=zj l:=by
   clear hc h
   induction l with
   | nil=>exact oC _
   | cons t Y U=>have h1:=(Gf t (J t (by simp)).k).1.n;have h2:=U λx I=>J x (by simp[I]);simp only[oh,zj];omega
  omega
theorem Sn:∀(e:Tm)(d:D),e.Is d->e.W->Ld 28 [.dg 9 d] e.sim:=by
 refine Tm.ind λk nm ot n0 ty re l ih d hd Y N Q hQ=>?_;have al:=Y.z.g.2.2.1;have aa:=Ux Y;have O:(Tm.mk k nm ot n0 ty re l).sim=L4 (.mk k nm ot n0 ty re (l.map Tm.sim)):=by simp only[Tm.sim,zZ]
 rw[O]at hQ;refine In N _ Q λ_ N1 am=>?_;refine wr _ d hd Y.z.g N1 _ ?_;simp only[sF];intro y4 y5 y6 y7 r q N2 ao hH hA hO _ _;have aq:=hA.len;refine up hA (by omega) (λi xs=>∀(r':List D) (q N':Nat),N<=N'->All2 Tm.Is ((l.map Tm.sim).take i++l.drop i) r'->r'.length=r.length ->
  vZ Q N i 0 (bytes []) (bytes []) 0 0 none [] 0 0 none [] 0 none [] 0 k nm ot n0 y4 y5 y6 y7 r.length q r' q N') ?_ ?_ r q N2 (by omega) (by simpa using hA) rfl
 ·intro i ab hi r' q N' ac J U;rw[ou (by rw[oW];omega),mG (by omega),nH]at J;refine pR ?_;rw[ab];exact⟨⟨by omega,rfl⟩,⟨by omega,rfl⟩,⟨by omega,rfl⟩,λa2 N5 ae hf N6 ah=>TO (Tm.is_mk.2 ⟨_,_,_,_,_,_,_,rfl,hH,by omega,J⟩) aa N6 _ λx N7 au hx _ _ N8 aw=>hQ _ _ (by omega) hx⟩
 ·intro i y xs I _ ai r' q N' ac J U;have ax:=I.b;have aj:i<l.length:=(oD.1 I.g).1;have ak:y.Is (r'.getD i default):=by refine J.get ?_;rw[oR (by rw[nF,oW];omega),nF,oW,show i - min i l.length=0 by omega,nQ];exact I.g
  refine pR ?_;rw[I.lt,oH,I.w,ow];refine⟨⟨by omega,by omega,by omega⟩,by omega,λN5 ae=>ih y I.m _ ak (Y.mem y I.m) N5 _ λdx N6 ah hx _ _=>⟨⟨by omega,by omega,by omega⟩,by omega,?_⟩⟩;have h2:=sM (j:=i) J hx;rw[Mr (by simp) aj (Id I.g)]at h2;exact ai (r'.set i dx) q N6 (by omega) h2 (by simpa using U)
theorem Fc {e:Tm}{d:D}(O:e.Is d)(hc:e.cnt<=4000000):Ld 9 [.dg 9 d] e.simplify:=λN Q J=>by
 unfold Tm.simplify at J;refine F6 N _ Q λ_ N1 ab=>Hc e d O (by omega) N1 _ λN2 ac _=>Br.not (λI N3 U=>?_) λI N3 U=>?_
 ·rw[if_neg (by rw[I];decide)]at J;exact qn wr O (Tm.G_cnt e (by omega)) (N0:=N) (by omega) (λd N=>Q d N) λd' N4 Y aa _=>J _ _ (by omega) aa
 ·rw[if_pos I]at J;simp only[Tm.isPl,oG]at I;exact Sn e d O ⟨SG e I.1 I.2,hc⟩ N3 _ λx N4 Y hx _ _ N5 ae=>J _ _ (by omega) hx
def OpC:Prop:=∀ {n0:Int} {nm ot:ByteArray} {ty re:Ty} {l:List Tm} {d:D},(Tm.mk 4 nm ot n0 ty re l).Is d->(Tm.mk 4 nm ot n0 ty re l).W->Ld 91 [.dg 9 d] (Ax (.mk 4 nm ot n0 ty re l) nm l)
theorem LK (aq:OpC){k n0:Int}{nm ot:ByteArray}{ty re:Ty}{l:List Tm}{d:D}(hd:(Tm.mk k nm ot n0 ty re l).Is d)(hW:(Tm.mk k nm ot n0 ty re l).W):Ld 52 [.dg 9 d] (L4 (.mk k nm ot n0 ty re l)):=λN Q I=>by
 have U:=hd;obtain⟨_,_,a2,a3,_,_⟩:=hW.k.1.ar;obtain⟨t0,t1,r0,r1,a,es,c,rfl,hh,ay,J⟩:=Tm.is_mk.1 hd;have hl:=J.len;have w1:∀ i,i<l.length->(l.getD i tm0).W:=λi hi=>hW.mem _ (zB hi);simp only[L4]at I;refine DP N _ Q λ_=>⟨_,rfl,Br.beq (λh4 N1 O=>?_) λh4=>Br.beq (λh5=>?_) λh5=>Br.beq (λh7=>?_) λh7=>Br.beq (λh8=>?_) λh8 N1 O=>?_⟩
 ·subst h4;rw[if_pos rfl]at I;exact aq U hW N1 _ λx N2 aj hx _ _ N3 ac=>I _ _ (by omega) hx
 ·subst h5;have az:=a3 rfl;rw[if_neg (by decide),if_pos rfl]at I;have aa:=zO J (j:=0) (by omega);have Y:=w1 0 (by omega);generalize l.getD 0 tm0=p at aa Y I;cases p with
  | mk pk pn po pm pt pr pl=>
  obtain⟨u0,u1,v0,v1,a',ak,c2,heq,au,ae,ab⟩:=Tm.is_mk.1 aa;refine⟨_,_,_,rfl,⟨by omega,by omega⟩,pk,by rw[heq];rfl,Br.beq (λh3=>?_) λh3 N1 O=>?_⟩
  ·rw[if_pos (show(Tm.mk pk pn po pm pt pr pl).kd=3 from h3)]at I;have hn:=Y.k.1.b h3;have hw:IntKind.i64.wrap (2 - pm)=2 - pm:=i64_in _ (by omega);simp only[Tm.no]at I;refine⟨_,_,_,rfl,_,_,_,rfl,⟨by omega,by omega⟩,pm,by rw[heq];rfl,?_⟩;rw[hw];exact⟨⟨by omega,by omega⟩,λN6 aw=>I _ _ (by omega) (zO J (j:=(2 - pm).toNat) (by omega))⟩
  ·rw[if_neg (show ¬(Tm.mk pk pn po pm pt pr pl).kd=3 from h3)]at I;exact I _ _ O U
 ·subst h7;have h2:=a2 (.inl rfl);have aa:=zO J (j:=0) (by omega);have Y:=w1 0 (by omega);have al:=w1 1 (by omega);rw[if_neg (by decide),if_neg (by decide),if_pos rfl]at I;have ah:=zO J (j:=1) (by omega);generalize l.getD 0 tm0=p at aa Y I;generalize l.getD 1 tm0=q at al ah I;cases p with
  | mk pk pn po pm pt pr pl=>
  obtain⟨u0,u1,v0,v1,a',ak,c2,heq,au,ae,ab⟩:=Tm.is_mk.1 aa;have a6:=ab.len;refine⟨_,_,_,rfl,⟨by omega,by omega⟩,pk,by rw[heq];rfl,Br.beq (λh6=>?_) λh6 N1 O=>?_⟩
  ·refine⟨_,_,_,rfl,⟨by omega,by omega⟩,λN1 O=>r7 _ _ ah N1 _ λN2 aj _=>Br.of (λhv=>?_) λhv N3 ac=>?_⟩
   ·rw[if_pos ⟨h6,hv⟩]at I;have a7:=Y.k.1.ar.2.1 (.inl h6);refine⟨a',ak,c2,by rw[heq];rfl,⟨by omega,by omega⟩,pn,by rw[heq];rfl,_,_,_,rfl,⟨by omega,by omega⟩,λN3 ac=>?_⟩;exact Nn (zO ab (j:=0) (by omega)) ah pn (Y.mem _ (zB (l:=pl) (i:=0) (by omega))).z al.z N3 _ λdx N4 am hx _ _ _ N5 ai=>I _ _ (by omega) hx
   ·rw[if_neg (λh=>by rw[hv]at h;cases h.2)]at I;exact I _ _ (by omega) U
  ·rw[if_neg (λh=>h6 h.1)]at I;exact I _ _ O U
 ·subst h8;have h2:=a2 (.inr rfl);rw[if_neg (by decide),if_neg (by decide),if_neg (by decide),if_pos rfl]at I;refine⟨_,_,_,rfl,⟨by omega,by omega⟩,λN1 O=>r7 _ _ (zO J (j:=0) (by omega)) N1 _ λN2 aj _=>Br.of (λhv=>?_) λhv=>?_⟩
  ·rw[if_pos hv]at I;refine⟨_,_,_,rfl,⟨by omega,by omega⟩,_,rfl,_,_,_,rfl,⟨by omega,by omega⟩,λN3 ac=>?_⟩;exact Nn (zO J (j:=1) (by omega)) (zO J (j:=0) (by omega)) nm (w1 1 (by omega)).z (w1 0 (by omega)).z N3 _ λdx N4 am hx _ _ _ N5 ai=>I _ _ (by omega) hx
  ·rw[if_neg (by rw[hv];decide)]at I;have a8:(l.getD 1 tm0).vc<=1333333:=by have:=Tm.vc_cnt (l.getD 1 tm0);have:=(w1 1 (by omega)).c;omega
   have ba:=Tm.fv_len (l.getD 1 tm0);have bc:=(w1 0 (by omega)).c;refine⟨_,_,_,rfl,⟨by omega,by omega⟩,λN3 ac=>AP _ _ (zO J (j:=0) (by omega)) (by omega) N3 _ λN4 am _=>Br.of (λhq=>?_) λhq N5 ai=>?_⟩
   ·refine⟨_,_,_,rfl,⟨by omega,by omega⟩,_,rfl,λN5 ai=>FX _ _ (zO J (j:=1) (by omega)) (by omega) N5 _ λc8 N6 aw _ _=>⟨⟨rfl,rfl⟩,λa9 _ N7 bg _=>yV _ (by omega) a9 c8 nm N7 _ λN8 bh _=>?_⟩⟩;have ao:((l.getD 1 tm0).fv.any λx=>decide (nm=x))=decide (nm∈(l.getD 1 tm0).fv):=A6 nm _;rw[ao];refine Br.not (λhn=>?_) λhn N9 ax=>?_
    ·rw[if_pos ⟨hq,of_decide_eq_false hn⟩]at I;exact⟨_,_,_,rfl,⟨by omega,by omega⟩,λN9 ax=>I _ _ (by omega) (zO J (j:=1) (by omega))⟩
    ·rw[if_neg (λh=>h.2 (mi hn))]at I;exact I _ _ (by omega) U
   ·rw[if_neg (λh=>by rw[hq]at h;cases h.1)]at I;exact I _ _ (by omega) U
 ·rw[if_neg h4,if_neg h5,if_neg h7,if_neg h8]at I;exact I _ _ O U
theorem RG {k n0:Int} {nm ot:ByteArray} {ty re:Ty} {l:List Tm} {d:D} (hd:(Tm.mk k nm ot n0 ty re l).Is d) (hG:(Tm.mk k nm ot n0 ty re l).G) (hS:∀ y∈l,∀ dy,y.Is dy->Ld 25 [.dg 9 dy] y.sim) (N:Nat) (Q:QT [.pk,.i,.str,.str,.i,.dc,.dc,.dc,.dc,.row 29 9])
  (hQ:∀ J O U Y aa c' N',N<=N'->Tm.Hd nm ot ty re J O U Y->All2 Tm.Is (l.map Tm.sim) aa->Q k nm ot n0 J O U Y aa c' N') :
  ACalls prog 51 [.pk,.i,.str,.str,.i,.dc,.dc,.dc,.dc,.row 29 9] [.dg 9 d,.fn 25 []] N Q:=by
 obtain⟨t0,t1,r0,r1,a,es,c,rfl,hh,ab,ac⟩:=Tm.is_mk.1 hd;have hl:=ac.len;obtain⟨q1,q2,q3,_⟩:=hG;refine qX N _ Q λ_=>⟨_,_,_,rfl,?_⟩
 refine up ac ab (λi xs=>∀(done:List D) (q N':Nat),N<=N'->All2 Tm.Is ((l.map Tm.sim).take i) done->done.length=i ->
  yr Q N done.length q a es c es.length i (.ag [.j k,.t nm,.t ot,.j n0,t0,t1,r0,r1,.sl a 9 es c]) 0 (bytes []) (bytes []) 0 0 none [] 0 0 none [] 0 none [] 0 done q N') ?_ ?_ [] 0 N (oC _) rfl rfl
 ·intro i ai hi done q N' aj hd ae;refine ub ?_;rw[ou (by simp;omega)]at hd;rw[ai];refine⟨⟨rfl,rfl⟩,λa1 aw _ N4 ax ah=>?_⟩;refine MF hh q1 q2 a1 done q N4 _ λJ O U Y N5 ak al am _=>⟨rfl,?_⟩
  have off:∀ y∈[J,O,U,Y],Off [a1] y:=λy hy a' ao ad aq hc=>by have h1:=ah a' ao ad aq;have h2:=am.lo _ (zQ.2 ⟨y,hy,hc⟩);omega
  exact⟨off J (by simp),off O (by simp),off U (by simp),off Y (by simp),⟨rfl,rfl⟩,λN6 ay=>hQ _ _ _ _ _ _ _ (by omega) al hd⟩
 ·intro i y xs I _ au done q N' aj hd ae;have az:=I.b;refine ub ?_;rw[I.lt,oH,I.w];refine⟨⟨by omega,by omega⟩,λN5 ak=>hS y I.m _ I.r N5 _ λdx N7 a6 hx _ _=>⟨⟨rfl,rfl⟩,by unfold zC;rw[oJ];simp only[oO,oU];omega,λc3=>?_⟩⟩;exact au _ _ _ (by omega) (by rw[wj (Id I.g)];exact hd.snoc hx) (by simp[ae])
theorem PZ (U:OpC):∀(e:Tm)(d:D),e.Is d->e.W->Ld 25 [.dg 9 d] e.sim:=by
 refine Tm.ind λk nm ot n0 ty re l ih d hd O N Q hQ=>?_;have ac:=O.z.g.2.2.1;have J:(Tm.mk k nm ot n0 ty re l).sim=L4 (.mk k nm ot n0 ty re (l.map Tm.sim)):=by simp only[Tm.sim,zZ]
 rw[J]at hQ;refine Gd N _ Q λ_ N1 ae=>RG hd O.z.g (λy hy dy Y=>ih y hy dy Y (O.mem y hy)) N1 _ λx4 x5 x6 x7 ah c' N2 ai aa I _ _=>⟨⟨rfl,rfl⟩,λa N3 aj _ N4 ak=>?_⟩
 have ab:=I.len;rw[oW]at ab;exact LK U (Tm.is_mk.2 ⟨_,_,_,_,_,_,_,rfl,aa,by omega,I⟩) (Ux O) N4 _ λx N5 al hx _ _ N6 am=>hQ _ _ (by omega) hx
theorem Fu (U:OpC){e:Tm}{d:D}(Y:e.Is d)(hc:e.cnt<=4000000):TF 6 [.dg 9 d] e.simplify:=λN Q O=>by
 have aa:=GV e;have hG:=aa.g (Tm.G_cnt e (by omega));unfold Tm.simplify at O hG;refine Fj N _ Q λ_ N1 ae=>HP e d Y (by omega) N1 _ λN2 ah _=>Br.not (λJ N3 ab=>?_) λJ N3 ab=>?_
 ·rw[if_neg (by rw[J];decide)]at O;exact qn IM Y (Tm.G_cnt e (by omega)) (N0:=N) (by omega) (λd N=>Q d N) λd' N4 ac I ho=>O _ _ (by omega) I ho
 ·rw[if_pos J]at O hG;simp only[Tm.isPl,oG]at J;exact PZ U e d Y ⟨SG e J.1 J.2,hc⟩ N3 _ λx N4 ac hx _ _ N5 ai=>qn IM hx hG (N0:=N) (by omega) (λd N=>Q d N) λd' N6 aj I ho=>O _ _ (by omega) I ho
open Go Go.Proofs Go.Proofs.Tryz Go.IntWalk Go.Maps Go.RowKit Go.ChangeMaps Go.WideMaps
theorem qN {P:Program}{ops:Array Oper}{Q:Exit->Act->World->Prop}{rest:List Nat}{i:Nat}{a:Act}{w w':World}{o:Oper}{v:Value}(I:ops[i]?=some o)(J:o.guard=none)(O:(execOp a.eval o).run P w=.ok (.value v) w')(h:wpOps P ops Q rest (a.put o.dst v) w'):wpOps P ops Q (i::rest) a w:=by simp only[wpOps,I,Region.wanted,J,mU];refine .inl ?_;unfold Oper.wp;rw[O,Oper.upon_value];exact h
theorem Me {P:Program}{ops:Array Oper}{Q:Exit->Act->World->Prop}{rest:List Nat}{i:Nat}{a:Act}{w w':World}{o:Oper}(I:ops[i]?=some o)(J:o.guard=none)(O:(execOp a.eval o).run P w=.ok .skip w')(h:wpOps P ops Q rest (a.put o.dst undef) w'):wpOps P ops Q (i::rest) a w:=by simp only[wpOps,I,Region.wanted,J,mU];refine .inl ?_;unfold Oper.wp;rw[O,Oper.upon_skip];exact h
theorem u7 {a:Act}{d:Nat}{v:Value}(h:d<a.tmps.size):(a.put (some d) v).eval (.tmp d)=v:=by simp[Act.put,Act.eval,nG,h]
theorem tK {a:Act}{d t:Nat}{v:Value}(h:t≠d):(a.put (some d) v).eval (.tmp t)=a.eval (.tmp t):=by simp[Act.put,Act.eval,nG,Array.getElem?_setIfInBounds,Ne.symm h]
theorem Jc {a:Act}{v:Value}:a.put none v=a:=rfl
theorem uQ {a:Act}{d:Option Nat}{v:Value}:(a.put d v).tmps.size=a.tmps.size:=by cases d<;>simp[Act.put]
structure Mid where
 o4:Array Oper
 o5:Array Oper
 x:Code
 y:Code
 z:Code
 k:List Item
def O6:List Item->Option Mid
 | .code (.region 4 o4 false)::.code (.seq (.region 5 o5 false) (.seq (.block 0 (.seq x y)) z))::k=>some ⟨o4,o5,x,y,z,k⟩
 | _=>none
theorem Pf {l:List Item}{m:Mid}(h:O6 l=some m):l=.code (.region 4 m.o4 false)::.code (.seq (.region 5 m.o5 false) (.seq (.block 0 (.seq m.x m.y)) m.z))::m.k:=by
 unfold O6 at h;split at h
 ·cases h;rfl
 ·cases h
def opD (o:Oper):Op × Option Nat × Bool × TypeId:=(o.op,o.dst,o.guard.isNone,o.type)
def ops4:List (Op × Option Nat × Bool × TypeId):=[(.makeMap 111 none,some 15,true,111),(.insert 111 (.tmp 15) (.const (.string (bytes [43]))) (.const (.int .i64 0)),none,true,0),
 (.insert 111 (.tmp 15) (.const (.string (bytes [42]))) (.const (.int .i64 1)),none,true,0),(.insert 111 (.tmp 15) (.const (.string (bytes [45]))) (.const (.int .i64 0)),none,true,0),(.move (.tmp 15),some 16,true,111),(.assign (.tmp 16),some 5,true,111)]
def ops5:List (Op × Option Nat × Bool × TypeId):=[(.move (.tmp 5),some 18,true,111),(.fieldAddr 29 (.tmp 1) 1,some 19,true,0),(.load 9 (.tmp 19),some 20,true,9),(.lookup 111 (.tmp 18) (.tmp 20) true,some 21,true,100),(.move (.tmp 21),some 17,true,100),
 (.extract (.tmp 17) 0,some 22,true,3),(.extract (.tmp 17) 1,some 23,true,4),(.assign (.tmp 22),some 6,true,3),(.assign (.tmp 23),some 7,true,4)]
theorem T1:(O6 (wG prog 91 4)).isSome=true:=by kernel_rfl
theorem WU:(O6 (wG prog 91 4)).map (λm=>.code m.x::.code m.y::.inBlock 0::.code m.z::m.k)=some (wG prog 91 6):=by kernel_rfl
theorem Sx:(O6 (wG prog 91 4)).map (λm=>(m.o4.toList.map opD))=some ops4:=by kernel_rfl
theorem Ts:(O6 (wG prog 91 4)).map (λm=>(m.o5.toList.map opD))=some ops5:=by kernel_rfl
theorem tn {ops:Array Oper}{l:List (Op × Option Nat × Bool × TypeId)}(h:ops.toList.map opD=l){i:Nat}{op:Op}{d:Option Nat}{t:TypeId}(hi:l[i]?=some (op,d,true,t)):∃ o,ops[i]?=some o/\o.op=op/\o.dst=d/\o.guard=none/\o.type=t:=by
 subst h;rw[oE,nY]at hi;cases I:ops[i]? with
 | none=>rw[I]at hi;cases hi
 | some o=>rw[I]at hi;simp only[oa,nB,opD,Prod.mk.injEq]at hi;exact⟨o,rfl,hi.1,hi.2.1,Option.isNone_iff_eq_none.1 hi.2.2.1,hi.2.2.2⟩
theorem ul9:prog.underlying 9=some .string:=by kernel_rfl
theorem ul3:prog.underlying 3=some (.int .i64):=by kernel_rfl
theorem ulM:prog.underlying 111=some (.map 9 3):=by kernel_rfl
theorem Zh (w:World):(zeroValue 3).run prog w=.ok (.int .i64 0) w:=by kernel_rfl
abbrev DU:=DataW Unit
def neutD:DU:=(((DataW.map []).put (.string (bytes [43]).data.toList) (.lit (.int .i64 0))).put (.string (bytes [42]).data.toList) (.lit (.int .i64 1))).put (.string (bytes [45]).data.toList) (.lit (.int .i64 0))
def wF (s:ByteArray):Int:=if s=bytes [42]then 1 else 0
def wl (s:ByteArray):Bool:=decide (s=bytes [42])||(decide (s=bytes [43])||decide (s=bytes [45]))
theorem NU:neutD=.map [(.string [42],.lit (.int .i64 1)),(.string [43],.lit (.int .i64 0)),(.string [45],.lit (.int .i64 0))]:=by rfl
theorem Rp (s:ByteArray)(n:UInt8):([n]==s.data.toList)=decide (s=⟨#[n]⟩):=by
 rw[nj,nM,nf];constructor
 ·intro h;cases s with
  | mk d=>
  cases d with
  | mk l=>simp at h;subst h;rfl
 ·rintro rfl;rfl
theorem TQ (s:ByteArray):Maps.has neutD (.string s.data.toList)=wl s:=by rw[NU];simp only[Maps.has,mw,List.any_nil,Lit.sameKey,Rp,Bool.or_false];rfl
theorem V3 (s:ByteArray):neutD.atKey (.string s.data.toList) (.lit (.int .i64 0))=.lit (.int .i64 (wF s)):=by
 rw[NU];simp only[DataW.atKey,List.find?_cons,List.find?_nil,Lit.sameKey,Rp];unfold wF;by_cases I:s=bytes [42]
 ·subst I;rfl
 ·have e1:decide (s=(⟨#[42]⟩:ByteArray))=false:=mK I;rw[e1,if_neg I];by_cases J:s=bytes [43]
  ·subst J;rfl
  ·have U:decide (s=(⟨#[43]⟩:ByteArray))=false:=mK J;rw[U];by_cases O:s=bytes [45]
   ·subst O;rfl
   ·have Y:decide (s=(⟨#[45]⟩:ByteArray))=false:=mK O;rw[Y]
theorem Kn {w w':World}{b:Nat}(Y:w.heap[b]?=some (.map #[] 0))(h:w.mapTurned w' b):w'.heap.size=w.heap.size/\w'.os=w.os/\w'.output=w.output/\(∀ k,k≠b->w'.heap[k]?=w.heap[k]?)/\∃ es c,w'.heap[b]?=some (.map es c):=by obtain⟨es,clock,O,I,J,rfl⟩:=h;exact⟨by simp[setBlock],rfl,rfl,λk U=>heap_setBlock_other J _ U,_,_,heap_setBlock_same J _⟩
theorem RL {Q:QT [.ag 9]} {N0:Nat} {v0:Value} {s:ByteArray} {x2 x3 x4 x5 x6 x7 x8:D} (hs:s.size<=4611686018427387904) (N:Nat)
  (h:∀ N',N<=N'->uU Q N0 (.ag [.lit v0,.lit (.string s),x2,x3,x4,x5,x6,x7,x8]) 0 (bytes []) (bytes []) 0 0 none [] 0 0 none [] 0 none [] 0 (wF s) (wl s) N') :
  xn Q N0 (.ag [.lit v0,.lit (.string s),x2,x3,x4,x5,x6,x7,x8]) 0 (bytes []) (bytes []) 0 0 none [] 0 0 none [] 0 none [] 0 N:=by
 unfold xn;refine⟨fun av w0 a w e hN hr=>?_⟩;obtain⟨m,hm⟩:=Option.isSome_iff_exists.1 T1;have h6:=WU;have h4:=Sx;have h5:=Ts;rw[hm,oa,nB]at h6 h4 h5;rw[Pf hm];have hsz:55<=a.tmps.size:=hr.sz;have hlen4:m.o4.size=6:=by have:=nV List.length h4;simpa [ops4]using this
 have hlen5:m.o5.size=9:=by have:=nV List.length h5;simpa [ops5]using this
 have own1:=World.ownsMap_made w prog 9 (plainElem (H:=Unit) prog 3);have hB:(w.alloc (.map #[] 0)).heap[w.heap.size]?=some (.map #[] 0):=(MapKept.heap_alloc w _).1;obtain⟨w2,r2,own2,t2⟩:=own1.store (string_keyed ul9) ulM (by unfold maxLen;omega) (keyOf_string_mk ul9 (s:=bytes [43]) (by decide)) (plainElem_int ul3 (a:=0) (by decide));obtain⟨w3,r3,own3,t3⟩:=own2.store (string_keyed ul9) ulM (by unfold maxLen;omega) (keyOf_string_mk ul9 (s:=bytes [42]) (by decide)) (plainElem_int ul3 (a:=1) (by decide));obtain⟨w4,r4,own4,t4⟩:=own3.store (string_keyed ul9) ulM (by unfold maxLen;omega) (keyOf_string_mk ul9 (s:=bytes [45]) (by decide)) (plainElem_int ul3 (a:=0) (by decide));obtain⟨z1,z2,z3,z4,z5⟩:=Kn hB ((t2.trans t3).trans t4);have hold:∀ k,k<w.heap.size->w4.heap[k]?=w.heap[k]?:=fun k hk=>(z4 k (by omega)).trans ((MapKept.heap_alloc w _).2 k hk);have hsz4:w4.heap.size=w.heap.size+1:=by rw[z1];simp
 have hR:=(Pp hr (w':=w4) (e':=[]) (rows:=[]) (av':=fun b=>za av [] e [.vd (.ag [.lit v0,.lit (.string s),x2,x3,x4,x5,x6,x7,x8]) 9,.var [.int .i64 0,.str (bytes []),.str (bytes []),.int .i64 0,.int .i64 0,.sv none 2 [] 0,.int .i64 0,.sv none 2 [] 0,.sv none 9 [] 0]] b) (bb:=[]) (by simp) (fun b hb=>.inl hb) (by omega) hold
  ⟨rfl,by simp,by simp,by simp,fun k j b hk=>by simp[Lives]at hk⟩ (by simp) (fun k b hk=>by simp[Env.at]at hk) (by simp)
  (fun b c t z hb hc=>by
   by_cases hb2:b=w.heap.size
   ·subst hb2;obtain⟨es,cl,hz⟩:=z5;rw[hz]at hc;cases hc
   ·rw[Array.getElem?_eq_none (by omega)]at hc;cases hc) ⟨z2,z3⟩).1
 rw[nH,nH]at hR;have ev:∀(a:Act) (v:Value),a.eval (.const v)=v:=fun _ _=>rfl;refine CJ (wp_region ?_);rw[hlen4];show wpOps prog m.o4 _ [0,1,2,3,4,5] a w;obtain⟨o0,q0,p0,d0,g0,y0⟩:=tn h4 (i:=0) rfl;obtain⟨o1,q1,p1,d1,g1,y1⟩:=tn h4 (i:=1) rfl;obtain⟨o2,q2,p2,d2,g2,y2⟩:=tn h4 (i:=2) rfl;obtain⟨o3,q3,p3,d3,g3,y3⟩:=tn h4 (i:=3) rfl;obtain⟨o4,q4,p4,d4,g4,y4⟩:=tn h4 (i:=4) rfl;obtain⟨o5,q5,p5,d5,g5,y5⟩:=tn h4 (i:=5) rfl;refine qN q0 g0 (v:=.map (some w.heap.size)) (w':=w.alloc (.map #[] 0)) (by simp[execOp,p0,run_makeMap,Result.andThen]) ?_;rw[d0];have hR1:=zu (dst:=some 15) (v:=.map (some w.heap.size)) (p:=.any) hR xJ (fun i hi _=>hi);have e15:(a.put (some 15) (.map (some w.heap.size))).eval (.tmp 15)=.map (some w.heap.size):=u7 (by omega);have s1:55<=(a.put (some 15) (.map (some w.heap.size))).tmps.size:=by rw[uQ];exact hsz
 generalize a.put (some 15) (.map (some w.heap.size))=a1 at hR1 e15 s1;refine Me q1 g1 (w':=w2) (by simp[execOp,p1,e15,ev,r2,Result.andThen]) ?_;rw[d1,Jc];refine Me q2 g2 (w':=w3) (by simp[execOp,p2,e15,ev,r3,Result.andThen]) ?_;rw[d2,Jc];refine Me q3 g3 (w':=w4) (by simp[execOp,p3,e15,ev,r4,Result.andThen]) ?_;rw[d3,Jc];refine qN q4 g4 (v:=.map (some w.heap.size)) (w':=w4) (by simp[execOp,p4,e15]) ?_;rw[d4];have hR2:=zu (dst:=some 16) (v:=.map (some w.heap.size)) (p:=.any) hR1 xJ (fun i hi _=>hi);have e16:(a1.put (some 16) (.map (some w.heap.size))).eval (.tmp 16)=.map (some w.heap.size):=u7 (by omega);have s2:55<=(a1.put (some 16) (.map (some w.heap.size))).tmps.size:=by rw[uQ];exact s1
 generalize a1.put (some 16) (.map (some w.heap.size))=a2 at hR2 e16 s2;refine qN q5 g5 (v:=.map (some w.heap.size)) (w':=w4) (by simp[execOp,p5,e16]) ?_;rw[d5];have hR3:=zu (dst:=some 5) (v:=.map (some w.heap.size)) (p:=.any) hR2 xJ (fun i hi _=>hi);have e5:(a2.put (some 5) (.map (some w.heap.size))).eval (.tmp 5)=.map (some w.heap.size):=u7 (by omega);have s3:55<=(a2.put (some 5) (.map (some w.heap.size))).tmps.size:=by rw[uQ];exact s2
 generalize a2.put (some 5) (.map (some w.heap.size))=a3 at hR3 e5 s3;refine⟨rfl,ym (fun cs=>step_seq) (CJ (wp_region ?_))⟩;rw[hlen5];show wpOps prog m.o5 _ [0,1,2,3,4,5,6,7,8] a3 w4;clear q0 q1 q2 q3 q4 q5;obtain⟨o0,q0,p0,d0,g0,y0⟩:=tn h5 (i:=0) rfl;obtain⟨o1,q1,p1,d1,g1,y1⟩:=tn h5 (i:=1) rfl;obtain⟨o2,q2,p2,d2,g2,y2⟩:=tn h5 (i:=2) rfl;obtain⟨o3,q3,p3,d3,g3,y3⟩:=tn h5 (i:=3) rfl;obtain⟨o4,q4,p4,d4,g4,y4⟩:=tn h5 (i:=4) rfl;obtain⟨o5,q5,p5,d5,g5,y5⟩:=tn h5 (i:=5) rfl;obtain⟨o6,q6,p6,d6,g6,y6⟩:=tn h5 (i:=6) rfl;obtain⟨o7,q7,p7,d7,g7,y7⟩:=tn h5 (i:=7) rfl;obtain⟨o8,q8,p8,d8,g8,y8⟩:=tn h5 (i:=8) rfl;refine qN q0 g0 (v:=.map (some w.heap.size)) (w':=w4) (by simp[execOp,p0,e5]) ?_;rw[d0];have hR4:=zu (dst:=some 18) (v:=.map (some w.heap.size)) (p:=.any) hR3 xJ (fun i hi _=>hi);have e18:(a3.put (some 18) (.map (some w.heap.size))).eval (.tmp 18)=.map (some w.heap.size):=u7 (by omega);have s4:55<=(a3.put (some 18) (.map (some w.heap.size))).tmps.size:=by rw[uQ];exact s3
 generalize a3.put (some 18) (.map (some w.heap.size))=a4 at hR4 e18 s4;have hS:Rel av w0 [] [] [] a4 w4 e ⟨an 1 (.pb 0 0 0 0::.pb 1 0 0 0::an 52 []),[.vd (.ag [.lit v0,.lit (.string s),x2,x3,x4,x5,x6,x7,x8]) 9,.var [.int .i64 0,.str (bytes []),.str (bytes []),.int .i64 0,.int .i64 0,.sv none 2 [] 0,.int .i64 0,.sv none 2 [] 0,.sv none 9 [] 0]],w4.heap.size,none⟩:=hR4;clear hR hR1 hR2 hR3 hR4;have ef:nev prog (opd (an 1 (.pb 0 0 0 0::.pb 1 0 0 0::an 52 []))) (fun k=>([.vd (.ag [.lit v0,.lit (.string s),x2,x3,x4,x5,x6,x7,x8]) 9,.var [.int .i64 0,.str (bytes []),.str (bytes []),.int .i64 0,.int .i64 0,.sv none 2 [] 0,.int .i64 0,.sv none 2 [] 0,.sv none 9 [] 0]]:List Bx)[k]?) (.fieldAddr 29 (.tmp 1) 1) 0 (fun r=>r=Res.v (.pb 0 0 0 1))=(Res.v (.pb 0 0 0 1)=Res.v (.pb 0 0 0 1)):=by kernel_rfl
 rcases BJ hS (o:=o1) (R:=fun r=>r=Res.v (.pb 0 0 0 1)) (by simp) (by rw[p1,y1,ef])with⟨vf,pf,k1,k2,k3⟩ | ⟨vf,c,t,B,f,k1,k2,k3⟩
 rotate_left
 ·cases k2
 cases k2;refine qN q1 g1 k1 ?_;rw[d1];have hF:Rel av w0 [] [] [] (a4.put (some 19) vf) w4 e ⟨an 1 (.pb 0 0 0 0::.pb 1 0 0 0::an 16 (.pb 0 0 0 1::an 35 [])),[.vd (.ag [.lit v0,.lit (.string s),x2,x3,x4,x5,x6,x7,x8]) 9,.var [.int .i64 0,.str (bytes []),.str (bytes []),.int .i64 0,.int .i64 0,.sv none 2 [] 0,.int .i64 0,.sv none 2 [] 0,.sv none 9 [] 0]],w4.heap.size,none⟩:=zu (dst:=some 19) hS k3 (fun i hi _=>hi);have hR5:Rel av w0 [] [] [] (a4.put (some 19) vf) w4 e ⟨an 1 (.pb 0 0 0 0::.pb 1 0 0 0::an 52 []),[.vd (.ag [.lit v0,.lit (.string s),x2,x3,x4,x5,x6,x7,x8]) 9,.var [.int .i64 0,.str (bytes []),.str (bytes []),.int .i64 0,.int .i64 0,.sv none 2 [] 0,.int .i64 0,.sv none 2 [] 0,.sv none 9 [] 0]],w4.heap.size,none⟩:=zu (dst:=some 19) (p:=.any) hS xJ (fun i hi _=>hi);have e18b:(a4.put (some 19) vf).eval (.tmp 18)=.map (some w.heap.size):=by rw[tK (by decide)];exact e18
 have s5:55<=(a4.put (some 19) vf).tmps.size:=by rw[uQ];exact s4
 generalize a4.put (some 19) vf=a5 at hF hR5 e18b s5;have el:nev prog (opd (an 1 (.pb 0 0 0 0::.pb 1 0 0 0::an 16 (.pb 0 0 0 1::an 35 [])))) (fun k=>([.vd (.ag [.lit v0,.lit (.string s),x2,x3,x4,x5,x6,x7,x8]) 9,.var [.int .i64 0,.str (bytes []),.str (bytes []),.int .i64 0,.int .i64 0,.sv none 2 [] 0,.int .i64 0,.sv none 2 [] 0,.sv none 9 [] 0]]:List Bx)[k]?) (.load 9 (.tmp 19)) 9 (fun r=>r=Res.v (.str s))=(∃ v,D.lit (.string s)=D.lit (.string v)/\Res.v (.str v)=Res.v (.str s)):=by kernel_rfl
 rcases BJ hF (o:=o2) (R:=fun r=>r=Res.v (.str s)) (by simp) (by rw[p2,y2,el];exact⟨s,rfl,rfl⟩)with⟨vs,ps,k4,k5,k6⟩ | ⟨vs,c,t,B,f,k4,k5,k6⟩
 rotate_left
 ·cases k5
 cases k5;obtain rfl:vs=.string s:=k6.1.resolve_left (by simp);refine qN q2 g2 k4 ?_;rw[d2];have hR6:=zu (dst:=some 20) (v:=.string s) (p:=.any) hR5 xJ (fun i hi _=>hi);have e20:(a5.put (some 20) (.string s)).eval (.tmp 20)=.string s:=u7 (by omega);have e18c:(a5.put (some 20) (.string s)).eval (.tmp 18)=.map (some w.heap.size):=by rw[tK (by decide)];exact e18b
 have s6:55<=(a5.put (some 20) (.string s)).tmps.size:=by rw[uQ];exact s5
 generalize a5.put (some 20) (.string s)=a6 at hR6 e20 e18c s6;have own5:w4.ownsMap prog 9 (plainElem (H:=Unit) prog 3) w.heap.size 3 neutD:=own4;obtain⟨vl,ps,rl,hl⟩:=own5.look_ok (string_keyed ul9) ulM (Zh w4) (plainElem_int ul3 (a:=0) (by decide)) (keyOf_string_mk ul9 (s:=s) (by unfold maxLen;omega));rw[V3]at hl;rw[TQ]at rl;obtain⟨cv,rfl,hc,_⟩:=plainElem_int_inv ul3 hl;obtain rfl:wF s=cv:=by
  have:=nV Prod.fst hc
  simpa using this
 refine qN q3 g3 (v:=.tuple #[.int .i64 (wF s),.bool (wl s)]) (w':=w4) (by simp[execOp,p3,e18c,e20,rl,Result.andThen]) ?_;rw[d3];have hR7:=zu (dst:=some 21) (v:=.tuple #[.int .i64 (wF s),.bool (wl s)]) (p:=.any) hR6 xJ (fun i hi _=>hi);have e21:(a6.put (some 21) (.tuple #[.int .i64 (wF s),.bool (wl s)])).eval (.tmp 21)=.tuple #[.int .i64 (wF s),.bool (wl s)]:=u7 (by omega);have s7:55<=(a6.put (some 21) (.tuple #[.int .i64 (wF s),.bool (wl s)])).tmps.size:=by rw[uQ];exact s6
 generalize a6.put (some 21) (.tuple #[.int .i64 (wF s),.bool (wl s)])=a7 at hR7 e21 s7;refine qN q4 g4 (v:=.tuple #[.int .i64 (wF s),.bool (wl s)]) (w':=w4) (by simp[execOp,p4,e21]) ?_;rw[d4];have hR8:=zu (dst:=some 17) (v:=.tuple #[.int .i64 (wF s),.bool (wl s)]) (p:=.any) hR7 xJ (fun i hi _=>hi);have e17:(a7.put (some 17) (.tuple #[.int .i64 (wF s),.bool (wl s)])).eval (.tmp 17)=.tuple #[.int .i64 (wF s),.bool (wl s)]:=u7 (by omega);have s8:55<=(a7.put (some 17) (.tuple #[.int .i64 (wF s),.bool (wl s)])).tmps.size:=by rw[uQ];exact s7
 generalize a7.put (some 17) (.tuple #[.int .i64 (wF s),.bool (wl s)])=a8 at hR8 e17 s8;refine qN q5 g5 (v:=.int .i64 (wF s)) (w':=w4) (by simp[execOp,p5,e17,Instr.extract,Result.andThen]) ?_;rw[d5];have hR9:=zu (dst:=some 22) (v:=.int .i64 (wF s)) (p:=.any) hR8 xJ (fun i hi _=>hi);have e22:(a8.put (some 22) (.int .i64 (wF s))).eval (.tmp 22)=.int .i64 (wF s):=u7 (by omega);have e17b:(a8.put (some 22) (.int .i64 (wF s))).eval (.tmp 17)=.tuple #[.int .i64 (wF s),.bool (wl s)]:=by rw[tK (by decide)];exact e17
 have s9:55<=(a8.put (some 22) (.int .i64 (wF s))).tmps.size:=by rw[uQ];exact s8
 generalize a8.put (some 22) (.int .i64 (wF s))=a9 at hR9 e22 e17b s9;refine qN q6 g6 (v:=.bool (wl s)) (w':=w4) (by simp[execOp,p6,e17b,Instr.extract,Result.andThen]) ?_;rw[d6];have hR10:=zu (dst:=some 23) (v:=.bool (wl s)) (p:=.any) hR9 xJ (fun i hi _=>hi);have e23:(a9.put (some 23) (.bool (wl s))).eval (.tmp 23)=.bool (wl s):=u7 (by omega);have e22b:(a9.put (some 23) (.bool (wl s))).eval (.tmp 22)=.int .i64 (wF s):=by rw[tK (by decide)];exact e22
 have s10:55<=(a9.put (some 23) (.bool (wl s))).tmps.size:=by rw[uQ];exact s9
 generalize a9.put (some 23) (.bool (wl s))=a10 at hR10 e23 e22b s10;refine qN q7 g7 (v:=.int .i64 (wF s)) (w':=w4) (by simp[execOp,p7,e22b]) ?_;rw[d7];have hR11:=zu (dst:=some 6) (v:=.int .i64 (wF s)) (p:=.int .i64 (wF s)) hR10 zl (fun i hi _=>hi);have e23b:(a10.put (some 6) (.int .i64 (wF s))).eval (.tmp 23)=.bool (wl s):=by rw[tK (by decide)];exact e23
 generalize a10.put (some 6) (.int .i64 (wF s))=a11 at hR11 e23b;refine qN q8 g8 (v:=.bool (wl s)) (w':=w4) (by simp[execOp,p8,e23b]) ?_;rw[d8];have hR12:=zu (dst:=some 7) (v:=.bool (wl s)) (p:=.bool (wl s)) hR11 zg (fun i hi _=>hi);generalize a11.put (some 7) (.bool (wl s))=a12 at hR12;refine⟨rfl,ym (fun cs=>step_seq) (ym (fun cs=>step_block) (ym (fun cs=>step_seq) ?_))⟩;rw[h6];have hNN:N<=w4.heap.size:=by have:N<=w.heap.size:=hr.hN;omega
 exact(h w4.heap.size hNN).h av w0 a12 w4 e hN hR12
theorem TU {s:ByteArray}(h:¬s=bytes [42]):wF s=0:=if_neg h
theorem Gm:OpC:=by
 intro n0 nm ot ty re l d hd hW N Q I;have aa:=hd;have al:=hW.k.1.o rfl;have ax:=hW.k.1.ar.2.2.2.2.2 rfl;have ay:=KF nm;have ab:=Pc aa al (by omega) (λx hx h=>by
  have hw:=(zU.1 hW.k.2 x hx)
  cases x with
  | mk k nm ot n ty re l=>
  rcases h with h | h
  ·exact hw.1.i h
  ·have:=hw.1.b h
   simp only[Tm.no];omega)
 have am:∀ s,(s=bytes [43]\/s=bytes [42]\/s=bytes [45])->rU s=2:=by rintro s (rfl | rfl | rfl)<;>decide +kernel
 have aj:(nm=bytes [43]\/nm=bytes [42]\/nm=bytes [45])->l.length=2:=λh=>by have:=am nm h;omega
 obtain⟨t0,t1,r0,r1,a,es,c,rfl,hh,aw,ac⟩:=Tm.is_mk.1 hd;have hl:=ac.len;unfold Ax at I;refine BD N _ Q λ_ N1 az=>ab N1 _ λx N2 a6 hx _ _=>Br.of (λhv N3 ao=>?_) λhv=>RL hh.nm N2 λN3 ao=>?_
 ·rw[if_pos hv]at I;exact I _ _ (by omega) hx
 rw[if_neg (by rw[hv];decide)]at I;refine qk ?_;have p0:l.length=2->(l.getD 0 tm0).Is (es.getD 0 default):=λh=>zO ac (by omega);have p1:l.length=2->(l.getD 1 tm0).Is (es.getD 1 default):=λh=>zO ac (by omega);refine Br.not (λO N4 ak=>?_) λO=>⟨_,rfl,Br.nstr (λJ=>?_) λJ=>?_⟩
 ·simp only[wl,Bool.or_eq_false_iff,decide_eq_false_iff_not]at O;rw[if_neg (λh=>h.elim (λh=>O.2.1 h.1) λh=>O.1 h.1),if_neg (λh=>h.elim (λh=>O.2.1 h.1) λh=>h.elim (λh=>O.1 h.1) λh=>O.2.2 h.1)]at I;exact I _ _ (by omega) aa
 ·have h2:l.length=2:=aj (by
   simp only[wl,nI,nf]at O;rcases O with h | h | h
   ·exact .inr (.inl h)
   ·exact .inl h
   ·exact .inr (.inr h))
  have ae:((nm=bytes [43]/\(l.getD 0 tm0).isI 0=true)\/(nm=bytes [42]/\(l.getD 0 tm0).isI 1=true))↔(l.getD 0 tm0).isI (wF nm)=true:=by
   by_cases U:nm=bytes [42]
   ·rw[U];exact⟨λh=>h.elim (λh=>absurd h.1 (by decide)) (·.2),λh=>.inr ⟨rfl,h⟩⟩
   ·have ah:nm=bytes [43]:=by simp only[wl,nI,nf]at O;exact(O.resolve_left U).resolve_right J
    rw[ah];exact⟨λh=>h.elim (·.2) (λh=>absurd h.1 (by decide)),λh=>.inl ⟨rfl,h⟩⟩
  have Y:((nm=bytes [43]/\(l.getD 1 tm0).isI 0=true)\/(nm=bytes [42]/\(l.getD 1 tm0).isI 1=true)\/(nm=bytes [45]/\(l.getD 1 tm0).isI 0=true))↔(l.getD 1 tm0).isI (wF nm)=true:=by
   by_cases U:nm=bytes [42]
   ·rw[U];exact⟨λh=>by
     rcases h with h | h | h
     ·exact absurd h.1 (by decide)
     ·exact h.2
     ·exact absurd h.1 (by decide),λh=>.inr (.inl ⟨rfl,h⟩)⟩
   ·have ah:nm=bytes [43]:=by simp only[wl,nI,nf]at O;exact(O.resolve_left U).resolve_right J
    rw[ah];exact⟨λh=>by
     rcases h with h | h | h
     ·exact h.2
     ·exact absurd h.1 (by decide)
     ·exact absurd h.1 (by decide),λh=>.inl ⟨rfl,h⟩⟩
  refine⟨_,_,_,rfl,⟨by omega,by omega⟩,λN4 ak=>M6 _ _ (p0 h2) _ N4 _ λN5 aq _=>Br.of (λhi=>⟨_,_,_,rfl,⟨by omega,by omega⟩,λN6 ai=>?_⟩) λhi=>⟨_,_,_,rfl,⟨by omega,by omega⟩,λN6 ai=>M6 _ _ (p1 h2) _ N6 _ λN7 a7 _=>Br.of (λhj=>⟨_,_,_,rfl,⟨by omega,by omega⟩,λN8 au=>?_⟩) λhj N8 au=>?_⟩⟩
  ·rw[if_pos (ae.2 hi)]at I;exact I _ _ (by omega) (p1 h2)
  ·rw[if_neg (λh=>by rw[ae.1 h]at hi;cases hi),if_pos (Y.2 hj)]at I;exact I _ _ (by omega) (p0 h2)
  ·rw[if_neg (λh=>by rw[ae.1 h]at hi;cases hi),if_neg (λh=>by rw[Y.1 h]at hj;cases hj)]at I;exact I _ _ (by omega) aa
 ·have h2:l.length=2:=aj (.inr (.inr J));have hn:wF nm=0:=TU (by rw[J];decide);rw[hn];rw[if_neg (by rintro(⟨h,_⟩ | ⟨h,_⟩)<;>exact absurd (h.symm.trans J) (by decide))]at I;have Y:((nm=bytes [43]/\(l.getD 1 tm0).isI 0=true)\/(nm=bytes [42]/\(l.getD 1 tm0).isI 1=true)\/(nm=bytes [45]/\(l.getD 1 tm0).isI 0=true))↔(l.getD 1 tm0).isI 0=true:=by
   rw[J];exact⟨λh=>by
    rcases h with h | h | h
    ·exact absurd h.1 (by decide)
    ·exact absurd h.1 (by decide)
    ·exact h.2,λh=>.inr (.inr ⟨rfl,h⟩)⟩
  refine⟨_,_,_,rfl,⟨by omega,by omega⟩,λN4 ak=>M6 _ _ (p1 h2) _ N4 _ λN5 aq _=>Br.of (λhi=>⟨_,_,_,rfl,⟨by omega,by omega⟩,λN6 ai=>?_⟩) λhi N6 ai=>?_⟩
  ·rw[if_pos (Y.2 hi)]at I;exact I _ _ (by omega) (p0 h2)
  ·rw[if_neg (λh=>by rw[Y.1 h]at hi;cases hi)]at I;exact I _ _ (by omega) aa
end Go.Proofs.YtligajflgjpdnaaGreatDoor
set_option maxRecDepth 100000
namespace Go.Proofs.YtligajflgjpdnaaGreatDoor
open Go Go.Proofs Go.Proofs.Tryz Go.IntWalk
def Zs (f:FuncId)(args:List PV)(t:Ty):Prop:=∀(N:Nat) (Q:QT [.ag 2]),(∀ d N',N<=N'->t.Is d->Q d N')->ACalls prog f [.ag 2] args N Q
def Yy (f:FuncId)(args:List PV)(t:Tm):Prop:=∀(N:Nat) (Q:QT [.ag 9]),(∀ d N',N<=N'->t.Is d->Q d N')->ACalls prog f [.ag 9] args N Q
theorem Cc {α β:Type}{R:α->D->Prop}{f:β->α}{l:List β}{i:Nat}{x:β}{r:List D}{d:D}(h:l[i]?=some x)(I:All2 R ((l.take i).map f) r)(hd:R (f x) d):All2 R ((l.take (i+1)).map f) (r++[d]):=by rw[wj h,mX,List.map_singleton];exact I.snoc hd
theorem qE:∀(t:Ty)(d:D),t.Is d->t.cnt<=1073741824->Zs 74 [.dg 2 d] t.er:=by
 refine Ty.ind λk l ih d hd hc N Q U=>?_;obtain⟨a,es,c,rfl,aa,O⟩:=Ty.is_mk.1 hd;have hl:=O.len;simp only[Ty.cnt]at hc;have am:=r6 l;simp only[Ty.er,Fe]at U;have key:=up O aa (λi xs=>∀(N':Nat),N<=N'->¬(k=4/\l.length=1)->(i=0->xc Q N i (.ag [.j k,.sl a 2 es c]) 0 none [] 0 k none [] 0 N') /\
  ∀(q:Nat) (r:List D),All2 Ty.Is ((l.take i).map Ty.er) r->yk Q N i (.ag [.j k,.sl a 2 es c]) 0 none [] 0 k r.length q r q N') ?_ ?_
 ·refine ES N _ Q λ_=>⟨k,rfl,Br.beq (λh4=>⟨a,es,c,rfl,Br.beq (λh1=>⟨a,es,c,rfl,⟨by omega,by omega⟩,λN1 ab=>?_⟩) λh1=>⟨k,rfl,(key N (oC _) (λh=>h1 (by omega))).1 rfl⟩⟩) λh4=>⟨k,rfl,(key N (oC _) (λh=>h4 h.1)).1 rfl⟩⟩
  clear key;obtain⟨x,rfl⟩:∃ x,l=[x]:=by
   match l,(by omega:l.length=1)with
   | [x],_=>exact⟨x,rfl⟩
  obtain⟨d0,ds,rfl,aj,rfl⟩:=O;simp only[zL]at hc;rw[if_pos ⟨h4,rfl⟩]at U;exact ih x (by simp) d0 aj (by omega) N1 _ λd' N2 ac J _ _ N3 ae=>U d' _ (by omega) J
 ·intro i ah hi N' ak hk;rw[if_neg hk]at U;refine⟨λh0=>?_,λq r Y=>?_⟩
  ·refine sY ⟨a,es,c,rfl,?_⟩;rw[ah];have:l=[]:=oM (by omega);subst this;exact λN3 ae=>U _ _ (by omega) (tS _)
  ·refine uj ⟨a,es,c,rfl,?_⟩;rw[ah];rw[ou (by omega)]at Y;exact⟨⟨rfl,rfl⟩,⟨rfl,rfl⟩,⟨rfl,rfl⟩,λa2 N3 ae _ N4 ao=>U _ _ (by omega) (Ty.is_mk.2 ⟨_,_,_,rfl,by have:=Y.len;rw[oW]at this;omega,Y⟩)⟩
 ·intro i x xs I _ ai N' ak hk;have hb:=I.b;have aq:=xl I.m;refine⟨λh0=>?_,λq r Y=>?_⟩
  ·refine sY ⟨a,es,c,rfl,?_⟩;rw[I.lt];refine⟨a,es,c,rfl,hb,λN1 ab=>?_⟩;rw[oH];refine ih x I.m _ I.r (by omega) N1 _ λd' N2 ac J _ _=>⟨trivial,by unfold zC;simp,λc2=>?_⟩
   rw[I.w];subst h0;exact(ai _ (by omega) hk).2 c2 [d'] (Cc I.g (r:=[]) (by rfl) J)
  ·refine uj ⟨a,es,c,rfl,?_⟩;rw[I.lt];refine⟨a,es,c,rfl,hb,λN1 ab=>?_⟩;rw[oH];have al:=Y.len;rw[oW,nF]at al;refine ih x I.m _ I.r (by omega) N1 _ λd' N2 ac J _ _=>⟨⟨rfl,rfl⟩,by unfold zC;simp only[oJ,nZ];omega,λc2=>?_⟩
   rw[I.w];exact(ai _ (by omega) hk).2 c2 _ (Cc I.g Y J)
theorem SN (k:Int):inB k 10 13=decide (10<=k/\k<=13):=by rw[nj,zw];simp
theorem Bs:∀(t:Tm)(d:D),t.Is d->t.cnt<=1073741824->Yy 43 [.dg 9 d] t.er:=by
 refine Tm.ind λk nm ot n ty re l ih d hd hc N Q hQ=>?_;obtain⟨t0,t1,r0,r1,a,es,c,rfl,hh,aa,O⟩:=Tm.is_mk.1 hd;have hl:=O.len;simp only[Tm.cnt]at hc;simp only[Tm.er,CD]at hQ;have go:¬((10<=k/\k<=13)/\l.length=1)->∀ N6,N<=N6->ACalls prog 74 [.ag 2] [.dg 2 (.ag [t0,t1])] N6 (λU N7=>N6<=N7->Bel N7 U->∀ N8,N7<=N8->ACalls prog 74 [.ag 2] [.dg 2 (.ag [r0,r1])] N8 (λY N9=>N8<=N9->Bel N9 Y ->
   yS Q N 0 (.ag [.j k,.t nm,.t ot,.j n,t0,t1,r0,r1,.sl a 9 es c]) 0 (bytes []) (bytes []) 0 0 none [] 0 0 none [] 0 none [] 0 k nm ot n (U.cell 0) (U.cell 1) (Y.cell 0) (Y.cell 1) none [] 0 N9)):=λhk N6 ab=>by
  rw[if_neg hk]at hQ;refine qE ty _ hh.ty (by omega) N6 _ λd1 N7 aw ac _ _ N8 ax=>qE re _ hh.re (by omega) N8 _ λd2 N9 ay ae _ _=>?_;have key:=up O aa (λi xs=>∀(N':Nat),N<=N'->(i=0->yS Q N i (.ag [.j k,.t nm,.t ot,.j n,t0,t1,r0,r1,.sl a 9 es c]) 0 (bytes []) (bytes []) 0 0 none [] 0 0 none [] 0 none [] 0 k nm ot n (d1.cell 0) (d1.cell 1) (d2.cell 0) (d2.cell 1) none [] 0 N') /\
   ∀(q:Nat) (r:List D),All2 Tm.Is ((l.take i).map Tm.er) r->yU Q N i (.ag [.j k,.t nm,.t ot,.j n,t0,t1,r0,r1,.sl a 9 es c]) 0 (bytes []) (bytes []) 0 0 none [] 0 0 none [] 0 none [] 0 k nm ot n (d1.cell 0) (d1.cell 1) (d2.cell 0) (d2.cell 1) r.length q r q N') ?_ ?_
  ·exact(key N9 (by omega)).1 rfl
  ·intro i ah hi N' am;refine⟨λh0=>?_,λq r hr=>?_⟩
   ·refine uu ⟨a,es,c,rfl,?_⟩;rw[ah];have:l=[]:=oM (by omega);subst this;exact λN3 ai=>hQ _ _ (by omega) (Tm.is_mk.2 ⟨_,_,_,_,_,_,_,rfl,⟨hh.nm,hh.ot,Ty.is_cells ac,Ty.is_cells ae⟩,by simp,rfl⟩)
   ·refine vR ⟨a,es,c,rfl,?_⟩;rw[ah];rw[ou (by omega)]at hr;exact⟨⟨rfl,rfl⟩,⟨rfl,rfl⟩,⟨rfl,rfl⟩,λa2 N3 ai _ N4 ao=>hQ _ _ (by omega) (Tm.is_mk.2 ⟨_,_,_,_,_,_,_,rfl,⟨hh.nm,hh.ot,Ty.is_cells ac,Ty.is_cells ae⟩,by have:=hr.len;rw[oW]at this;omega,hr⟩)⟩
  ·intro i x xs I _ aj N' am;have hb:=I.b;have az:=xz I.m;have a6:=v7 l;refine⟨λh0=>?_,λq r hr=>?_⟩
   ·refine uu ⟨a,es,c,rfl,?_⟩;rw[I.lt];refine⟨a,es,c,rfl,hb,λN1 ak=>?_⟩;rw[oH];refine ih x I.m _ I.r (by omega) N1 _ λd' N2 al J _ _=>⟨trivial,by unfold zC;simp,λc2=>?_⟩
    rw[I.w];subst h0;exact(aj _ (by omega)).2 c2 [d'] (Cc I.g (r:=[]) (by rfl) J)
   ·refine vR ⟨a,es,c,rfl,?_⟩;rw[I.lt];refine⟨a,es,c,rfl,hb,λN1 ak=>?_⟩;rw[oH];have aq:=hr.len;rw[oW,nF]at aq;refine ih x I.m _ I.r (by omega) N1 _ λd' N2 al J _ _=>⟨⟨rfl,rfl⟩,by unfold zC;simp only[oJ,nZ];omega,λc2=>?_⟩
    rw[I.w];exact(aj _ (by omega)).2 c2 _ (Cc I.g hr J)
 refine Ce N _ Q λ_=>⟨k,rfl,λN1 ak=>yx k 10 13 N1 _ λN2 al _=>?_⟩
 rw[SN];refine Br.dec (λhk=>⟨a,es,c,rfl,Br.beq (λh1=>⟨a,es,c,rfl,⟨by omega,by omega⟩,λN3 ai=>?_⟩) λh1=>⟨k,rfl,nm,rfl,ot,rfl,n,rfl,λN6 ab=>go (λh=>h1 (by omega)) N6 (by omega)⟩⟩) λhk=>⟨k,rfl,nm,rfl,ot,rfl,n,rfl,λN6 ab=>go (λh=>hk h.1) N6 (by omega)⟩
 clear go;obtain⟨x,rfl⟩:=len1 (by omega:l.length=1);obtain⟨d0,ds,rfl,au,rfl⟩:=O;simp only[zj]at hc;rw[if_pos ⟨hk,rfl⟩]at hQ;exact ih x (by simp) d0 au (by omega) N3 _ λd' N4 ao J _ _ N5 a7=>hQ d' _ (by omega) J
end Go.Proofs.YtligajflgjpdnaaGreatDoor
set_option maxRecDepth 100000
namespace Go.Proofs.YtligajflgjpdnaaGreatDoor
open Go Go.Proofs Go.Proofs.Tryz Go.IntWalk
theorem IQ:∀(t:Tm)(d e:D),t.Is d->t.Is e->ws 8 [.dg 9 d,.dg 9 e] true:=by
 refine Tm.ind λk nm ot m ty re l ih d e hd he N Q hQ=>?_;obtain⟨t0,t1,r0,r1,a,es,c,rfl,hh,O,U⟩:=Tm.is_mk.1 hd;obtain⟨u0,u1,v0,v1,a',ai,c',rfl,Y,aa,J⟩:=Tm.is_mk.1 he;have hl:=U.len;have aj:=J.len;refine EV N _ _ Q λ_ _=>⟨k,rfl,k,rfl,Br.bne (λh=>absurd rfl h) λ_=>⟨nm,rfl,nm,rfl,Br.of (λh=>by simp at h) λ_=>⟨ot,rfl,ot,rfl,Br.of (λh=>by simp at h) λ_=>⟨m,rfl,m,rfl,Br.bne (λh=>absurd rfl h) λ_ N1 ak=>?_⟩⟩⟩⟩
 refine yN ty ty _ _ hh.ty Y.ty N1 _ λN2 al _=>Br.of (λh=>by rw[qu]at h;cases h) λ_ N3 am=>yN re re _ _ hh.re Y.re N3 _ λN4 ao _=>Br.of (λh=>by rw[qu]at h;cases h) λ_=>⟨_,_,_,rfl,_,_,_,rfl,Br.bne (λh=>by omega) λ_=>?_⟩
 refine up U O (λi xs=>∀(N':Nat),N<=N'->xe Q N i _ _ N') ?_ ?_ N4 (by omega)
 ·intro i ab hi N' ac;exact sa ⟨_,_,_,rfl,Br.of (λh=>by rw[ab]at h;cases h) λ_ N5 ae=>hQ _ (by omega)⟩
 ·intro i x xs I _ ah N' ac;have hb:=I.b;refine sa ⟨_,_,_,rfl,Br.of (λ_=>⟨_,_,_,rfl,hb,_,_,_,rfl,⟨by omega,by omega⟩,λN5 ae=>?_⟩) λh=>by rw[I.lt]at h;cases h⟩;rw[oH,I.w];exact ih x I.m _ _ I.r (J.get I.g) N5 _ λN6 aq _=>Br.of (λh=>by cases h) λ_=>ah N6 (by omega)
end Go.Proofs.YtligajflgjpdnaaGreatDoor
set_option maxRecDepth 100000
namespace Go.Proofs.YtligajflgjpdnaaGreatDoor
open Go Go.Proofs Go.Proofs.Tryz Go.IntWalk
theorem P8 {t:Tm}{d:D}(h:t.Is d):ws 18 [.dg 9 d] (t.kd==2||t.kd==3):=λN Q O=>by
 cases t with
 | mk k nm ot n ty re l=>
 obtain⟨t0,t1,r0,r1,a,es,c,rfl,hh,U,Y⟩:=Tm.is_mk.1 h;refine HF N _ Q λ_=>⟨k,rfl,Br.of (λh N1 I=>Qb (O _ I) ?_) λh=>⟨k,rfl,λN2 J=>Qb (O _ J) ?_⟩⟩
 ·show(k==2||k==3)=true;rw[h];rfl
 ·show(k==2||k==3)=(k==3);rw[h];rfl
theorem Ab:∀(t:Tm)(d:D),t.Is d->t.cnt<=1073741824->Dx 14 [.dg 9 d] t.sz:=by
 refine Tm.ind λk nm ot n0 ty re l ih d hd hc N Q hQ=>?_;obtain⟨t0,t1,r0,r1,a,es,c,rfl,hh,J,O⟩:=Tm.is_mk.1 hd;simp only[Tm.cnt]at hc;have ac:=F3 l;refine Bg N _ Q λ_=>?_;refine up O J (λi xs=>∀(m:Nat) (N':Nat),N<=N'->m+yB xs=1+yB l->xt Q N m i (.ag [.j k,.t nm,.t ot,.j n0,t0,t1,r0,r1,.sl a 9 es c]) N') ?_ ?_ 1 N (oC _) rfl
 ·intro i U _ m N' Y hm;refine w9 ⟨_,_,_,rfl,?_⟩;simp only[yB]at hm;rw[U];exact λN2 aa=>Qi (hQ _ (by omega)) (by simp only[Tm.sz];omega)
 ·intro i x xs I _ ab m N' Y hm;have hb:=I.b;have ae:=xz I.m;simp only[yB]at hm;refine w9 ⟨_,_,_,rfl,?_⟩;rw[I.lt,I.w,oH];refine⟨_,_,_,rfl,⟨by omega,by omega⟩,λN1 ah=>ih x I.m _ I.r (by omega) N1 _ λN2 aa _=>?_⟩;rw[i64_in _ (by omega)]
  have:=ab (m+x.sz) N2 (by omega) (by omega)
  simpa using this
theorem V2 {es:List D} {i:Int} (J:Cu es i) (a:Option Addr) (c:Nat) (h:Int) (N:Nat) (Q:QT [.ag 9,.sl 0,.i,.i])
  (hQ:∀ d' a' I c' i' h' N',N<=N'->Cu I i'->SomB 1000000 d'->Q d' a' I c' i' h' N'):BCalls prog 22 [.ag 9,.sl 0,.i,.i] [.pb 0 0 0 0] [.var [.sv a 0 es c,.j i,.j h]] N Q:=by
 refine Bj N a es c i h Q λE _ N1 ab=>ww N1 _ λx N2 ac hx _ _ _ N3 ae=>xo J 3 (by omega) a c h N3 _ λq a3 ah c3 i3 Y N4 ai O q0 q3 _ _ _=>⟨⟨rfl,rfl⟩,λa4 N5 aj _ N6 ak=>?_⟩
 have q3:=q3 (by omega);have e:IntKind.i64.wrap (3+q)=((3+q).toNat:Int):=by rw[i64_in _ (by omega)];omega
 rw[e];have h1:tInt.cnt=1:=rfl;refine ZW (k:=(3+q).toNat) (by omega) (by omega) tInt .int (by omega) hx (g:=[]) ⟨by simp,rfl⟩ (by simp;omega) (by simp) 0 a4 0 O a3 c3 Y N6 _ λd a5 al c5 i5 h5 N7 am U hd _ _ _ N8 ao=>?_;obtain⟨t,ht,hc,hb⟩:=hd.b (by omega);have h2:=Xv t;have Y:=Yq t;exact Bs t d ht (by omega) N8 _ λdy N9 aq hy _ _=>⟨wK,λau aa=>hQ _ _ _ _ _ _ _ (by omega) U ⟨_,hy,by omega,by omega⟩⟩
theorem Ou {es:List D}(hb:∀ d∈es,∃ n:Int,d=.lit (.int .u8 n))(hl:es.length<=1073741824)(a:Option Addr)(c:Nat)(N:Nat)(Q:QT [.ag 9])(hQ:∀ d N',N<=N'->SomB 1000000 d->Q d N'):ACalls prog 5 [.ag 9] [.sv a 0 es c] N Q:=
 BC N a es c Q λ_ N1 ae=>YH hb hl a c N1 _ λh N2 ah J _ N3 ai=>Ap J 6 (by omega) a c h N3 _ λb a1 aj c1 i1 h1 N4 ak I _ _=>Br.of (λ_ O U=>Rd I a1 c1 h1 O _ λd a2 Y c2 i2 h2 N6 aa ab hd _ _ _ N7 ac=>hQ _ _ (by omega) ((hd.b (by omega)).mono (by omega))) λ_ O U=>V2 I a1 c1 h1 O _ λd a2 Y c2 i2 h2 N6 aa ab hd _ _ _ N7 ac=>hQ _ _ (by omega) hd
theorem WO {es:List D}(J:∀ d∈es,∃ n:Int,d=.lit (.int .u8 n))(O:es.length<=1073741824)(a:Option Addr)(c:Nat)(N:Nat)(Q:QT [.ag 9])(U:∀ d N',N<=N'->SomB 30000 d->Q d N'):ACalls prog 7 [.ag 9] [.sv a 0 es c] N Q:=
 BT N a es c Q λ_ N1 Y=>YH J O a c N1 _ λh N2 aa I _ N3 ab=>Rd I a c h N3 _ λd a2 ac c2 i2 h2 N6 ae ah hd _ _ _ N7 ai=>U _ _ (by omega) (hd.b (by omega))
theorem HM {es:List D} (hb:∀ d∈es,∃ n:Int,d=.lit (.int .u8 n)) (a:Option Addr) (c:Nat) (N:Nat) :
  ACalls prog 3 [.bool] [.sv a 0 es c] N (λr _=>r=true):=by
 refine BE N a es c _ λ_ N1 cw=>Oj N1 a es c _ λ_ N2 cx _=>Br.dec (λ_ N3 _=>rfl) λba N4 cy=>?_;refine Ou hb (by omega) a c N4 _ λd N5 cz hd _ _ N6 c0=>?_;obtain⟨t,J,hc,c2⟩:=hd;have U:=GV t;have c3:=U.n;have c4:=U.s;have c5:=t.dp_cnt;have bc:=t.simplify.dp_cnt;refine Fu Gm J (by omega) N6 _ λdx N7 c6 Y _ _ _ N8 c7=>WO hb (by omega) a c N8 _ λdq N9 c8 O _ _ ae bg=>Fc J (by omega) ae _ λdy c9 bh hy _ _ ah bi=>?_;obtain⟨q,O,da,_⟩:=O;refine IQ _ dx dy Y hy ah _ λdb bj _=>Br.of (λh=>by cases h) λ_ ai bm=>?_;refine AP q dq O (by omega) ai _ λde bp _ aj bq=>Aq q dq O aj _ λdf bt _=>Br.of (λh=>by simp at h) λ_ ak bv=>?_;refine r7 q dq O ak _ λdh bw _ al bz=>ru q dq O al _ λdi b1 _=>Br.of (λh=>by simp at h) λ_ am b2=>?_;refine Ab _ dx Y (by omega) am _ λdj b3 _ ao b4=>Ab t d J (by omega) ao _ λdk b5 _=>Br.dec (λh=>by omega) λ_=>⟨⟨rfl,rfl⟩,λa1 dl b6 _ aq b7=>?_⟩
 refine AN (g:=[]) ⟨by simp,rfl⟩ (by simp) J (Tm.G_cnt t (by omega)) (by omega) a1 0 0 aq _ λy dm b8 aa _ _=>⟨⟨rfl,rfl⟩,λa2 dn b9 _ au ca=>?_⟩
 refine AN (g:=[]) ⟨by simp,rfl⟩ (by simp) Y (Tm.G_cnt _ (by omega)) (by omega) a2 0 0 au _ λz dr cc ab _ _=>?_;cases I:rD [] t 0 with
 | none=>refine Br.of (λh=>by cases h) λ_ aw cd=>uH J (by omega) 200 aw _ λd8 dt ce h8 _ _ ax cf=>uH Y (by omega) 200 ax _ λd9 du cg h9 _ _=>Br.not (λ_ dv _=>rfl) λh=>by cases h
 | some u=>
   have ac:=JR I (by omega);rw[I]at aa;rw[ac]at ab ⊢;refine Br.of (λ_=>Br.of (λh=>by cases h) λ_ ay ch=>yN u u y z aa ab ay _ λdw cj _=>Br.of (λh=>by rw[qu]at h;cases h) λ_ az ck=>?_) λh=>by cases h
   refine uH J (by omega) 200 az _ λd8 dz cm h8 _ _ a6 cn=>uH Y (by omega) 200 a6 _ λd9 ea co h9 _ _=>Br.not (λh=>by cases h) λ_=>?_;obtain⟨y0,y1,y2,y3,y4,y5,y6,y7,y8,rfl,k8⟩:=Rs.cells h8;obtain⟨z0,z1,z2,z3,z4,z5,z6,z7,z8,rfl,k9⟩:=Rs.cells h9;refine⟨_,rfl,Br.bne (λ_ eb _=>rfl) λg1 a7 cp=>P8 k8 a7 _ λee cq _=>Br.not (λ_ ef _=>rfl) λhl=>⟨_,rfl,?_⟩⟩;have hl:(xX t 200).2.1.kd=2\/(xX t 200).2.1.kd=3:=by simpa using hl
   rcases LS I (by omega) g1 hl with h3 | ⟨h3,h4,h5⟩
   ·exact Br.beq (λ_ eg _=>rfl) λh=>absurd h3 h
   ·refine Br.beq (λh=>by rw[h3]at h;cases h) λ_=>⟨_,rfl,Br.beq (λ_ a8 cr=>?_) λh=>absurd h3 h⟩
    exact IQ _ _ _ k8 (h4 ▸ k9) a8 _ λei ct _=>Br.of (λ_=>⟨_,rfl,_,rfl,λej _=>mI (by omega)⟩) λh=>by cases h
open Go
def Gl (P:Program)(e:TypeId):Nat:=match P.underlying e with | some (.struct _)=>P.cellsOf e | _=>0
def Du (P:Program):List Field->Nat->Nat->Bool
 | [],o,n=>o==n
 | f::fs,o,n=>f.offset==o&&Du P fs (o+P.cellsOf f.type) n
def Np (P:Program)(T:List TypeId)(t:TypeId):Bool:=
 match P.underlying t with
 | some .bool=>true
 | some (.int _)=>true
 | some .string=>true
 | some (.slice e)=>T.contains e&&(P.cellsOf e==ez (Gl P e))&&decide (0<P.bytesOf e)
 | some (.struct fs)=>Du P fs.toList 0 (P.cellsOf t)&&fs.toList.all λf=>T.contains f.type
 | _=>false
def ZF (R:TypeId->List D->Prop):List TypeId->List D->Prop
 | [],xs=>xs=[]
 | t::I,xs=>∃ a b,xs=a++b/\R t a/\ZF R I b
def Shp (P:Program):Nat->TypeId->List D->Prop
 | 0,_,_=>False
 | n+1,t,xs=>match P.underlying t with
   | some .bool=>∃ v,xs=[.lit (.bool v)]
   | some (.int k)=>∃ m,xs=[.lit (.int k m)]/\(Lit.int k m).wf=true
   | some .string=>∃ s:ByteArray,xs=[.t s]/\s.size<=reachBytes
   | some (.slice e)=>∃ a es c,xs=[.sl a (Gl P e) es c]/\es.length<=reachBytes/\∀ x∈es,Shp P n e x.cells
   | some (.struct fs)=>ZF (Shp P n) (fs.toList.map (·.type)) xs
   | _=>False
theorem YB {P:Program}{n:Nat}{t:TypeId}{xs:List D}{k:IntKind}(I:P.underlying t=some (.int k))(h:Shp P n t xs):∃ m,xs=[.lit (.int k m)]:=by
 cases n with
 | zero=>exact h.elim
 | succ n=>unfold Shp at h;rw[I]at h;obtain⟨m,rfl,_⟩:=h;exact⟨m,rfl⟩
theorem Ro:reachBytes<=4611686018427387904:=by decide
theorem NV {P:Program}{n:Nat}{t e:TypeId}{xs:List D}(I:P.underlying t=some (.slice e))(h:Shp P n t xs):∃ m a es c,n=m+1/\xs=[.sl a (Gl P e) es c]/\es.length<=4611686018427387904/\∀ x∈es,Shp P m e x.cells:=by
 cases n with
 | zero=>exact h.elim
 | succ n=>unfold Shp at h;rw[I]at h;obtain⟨a,es,c,rfl,J,O⟩:=h;exact⟨n,a,es,c,rfl,rfl,oL J Ro,O⟩
structure Snap (w:World) (cs:List Value) (xs:List D):Prop where
 cv:xs.map D.cv=cs
 cell:∀ x∈xs,x.isCell
 hold:∀ x∈xs,Holds w x
theorem Snap.one {w:World}{v:Value}{x:D}(I:x.cv=v)(J:x.isCell)(O:Holds w x):Snap w [v] [x]:=⟨by simp[I],by simpa using J,by simpa using O⟩
theorem Snap.app {w:World}{us bs:List Value}{xs ys:List D}(h:Snap w us xs)(I:Snap w bs ys):Snap w (us++bs) (xs++ys):=
 ⟨by rw[mX,h.cv,I.cv],λx J=>(oK.1 J).elim (h.cell x) (I.cell x),λx J=>(oK.1 J).elim (h.hold x) (I.hold x)⟩
theorem GL {α β γ:Type}{f:α->Option β}{Q:α->γ->Prop}:∀ {l:List α}{r:List β},l.mapM f=some r->(∀ i∈l,∀ y∈r,f i=some y->∃ x,Q i x)->∃ xs:List γ,xs.length=l.length/\∀(k:Nat)(i:α),l[k]?=some i->∃ x,xs[k]?=some x/\Q i x
 | [],r,h,U=>⟨[],rfl,λk i J=>by simp at J⟩
 | a :: l,r,h,U=>by
   rw[List.mapM_cons]at h;cases O:f a with
   | none=>simp[O]at h
   | some y=>
     cases I:l.mapM f with
     | none=>simp[O,I]at h
     | some ys=>
       have Y:r=y::ys:=by simpa [O,I]using h.symm
       subst Y;obtain⟨x,h1⟩:=U a (by simp) y (by simp) O;obtain⟨xs,h2,h3⟩:=GL I λi hi y hy=>U i (by simp[hi]) y (by simp[hy]);refine⟨x::xs,by simp[h2],λk i J=>?_⟩;cases k with
       | zero=>simp at J;subst J;exact⟨x,rfl,h1⟩
       | succ k=>simp at J;simpa using h3 k i J
variable {H:Type} {enc:TypeId × Value->H} {P:Program} {w:World} {base:Nat} {spare:Nat->Bool} {held:Bool} {T:List TypeId}
theorem LO:∀ {L:List Field}{o n:Nat},Du P L o n=true->o<=n
 | [],o,n,h=>by simp[Du]at h;omega
 | f::L,o,n,h=>by
   simp only[Du,oG]at h
   have:=LO h.2
   omega
theorem Fr {g:TypeId->List Value->Option (DataW H × List MemPlace)} {R:TypeId->List D->Prop} {cs:List Value}:∀ {L:List Field} {o N:Nat} {r:List (DataW H × List MemPlace)},Du P L o N=true->N<=cs.length ->
  (L.mapM λf=>g f.type ((cs.drop f.offset).take (P.cellsOf f.type)))=some r->(∀ x∈DataW.weightsEach P (L.map (·.type)) (r.map (·.1)),x<=reachBytes)->(∀ f∈L,∀ vs y,g f.type vs=some y->(∀ x∈y.1.weights P f.type,x<=reachBytes)->∃ xs,Snap w vs xs/\R f.type xs)->∃ xs,Snap w ((cs.drop o).take (N - o)) xs/\ZF R (L.map (·.type)) xs
 | [],o,N,r,hc,hN,h,U,Y=>by simp[Du]at hc;subst hc;exact⟨[],⟨by simp,by simp,by simp⟩,rfl⟩
 | f :: L,o,N,r,hc,hN,h,U,Y=>by
   simp only[Du,oG,nM]at hc;obtain⟨aa,O⟩:=hc;rw[List.mapM_cons]at h;cases I:g f.type ((cs.drop f.offset).take (P.cellsOf f.type))with
   | none=>simp[I]at h
   | some y=>
     cases J:(L.mapM λf=>g f.type ((cs.drop f.offset).take (P.cellsOf f.type)))with
     | none=>simp[I,J]at h
     | some ys=>
       have hr:r=y::ys:=by simpa [I,J]using h.symm
       subst hr;simp only[oh,DataW.weightsEach,oK]at U;obtain⟨us,h1,h2⟩:=Y f (by simp) _ y I λx I=>U x (.inl I);obtain⟨bs,h3,h4⟩:=Fr O hN J (λx I=>U x (.inr I)) λf hf=>Y f (by simp[hf]);have ab:=LO O;refine⟨us++bs,?_,us,bs,rfl,h2,h4⟩
       have:=h1.app h3
       rw[aa]at this;have e:(cs.drop o).take (N - o)=(cs.drop o).take (P.cellsOf f.type)++(cs.drop (o+P.cellsOf f.type)).take (N - (o+P.cellsOf f.type)):=by rw[show N - o=P.cellsOf f.type+(N - (o+P.cellsOf f.type)) by omega,List.take_add,List.drop_drop]
       rw[e];exact this
theorem Vn {n:Nat}{t:TypeId}{xs:List D}(h:Shp P n t xs)(hc:∀ x∈xs,x.isCell)(hs:Gl P t=0)(I:∀ fs,P.underlying t≠some (.struct fs)):∃ x,xs=[x]:=by
 cases n with
 | zero=>exact h.elim
 | succ n=>
   unfold Shp at h;split at h
   ·obtain⟨v,rfl⟩:=h;exact⟨_,rfl⟩
   ·obtain⟨v,rfl,_⟩:=h;exact⟨_,rfl⟩
   ·obtain⟨v,rfl,_⟩:=h;exact⟨_,rfl⟩
   ·obtain⟨a,es,c,rfl,_⟩:=h;exact⟨_,rfl⟩
   ·rename_i fs J;exact absurd J (I fs)
   ·exact h.elim
theorem WC {n:Nat} {e:TypeId} {cs:List Value} {xs:List D} (hs:Snap w cs xs) (h:Shp P n e xs) (hl:cs.length=P.cellsOf e) (Y:P.cellsOf e=ez (Gl P e)) :
  ∃ x,x.cells=xs/\eOk (Gl P e) x/\Holds w x:=by
 have aa:xs.length=cs.length:=by rw[<-hs.cv];simp
 by_cases I:∃ fs,P.underlying e=some (.struct fs)
 ·obtain⟨fs,I⟩:=I;have J:Gl P e=P.cellsOf e:=by unfold Gl;rw[I]
  have O:P.cellsOf e≠0:=by intro h0;rw[J,h0]at Y;simp[ez]at Y
  refine⟨.ag xs,rfl,?_,.ag hs.hold⟩;unfold eOk;rw[J,if_neg O];exact⟨xs,rfl,by omega,hs.cell⟩
 ·have J:Gl P e=0:=by
   unfold Gl;split
   ·rename_i fs U;exact absurd ⟨fs,U⟩ I
   ·rfl
  obtain⟨x,rfl⟩:=Vn h hs.cell J λfs U=>I ⟨fs,U⟩;have hc:=hs.cell x (by simp);refine⟨x,?_,?_,hs.hold x (by simp)⟩
  ·cases x<;>first | exact hc.elim | rfl
  ·unfold eOk;rw[J,if_pos rfl];exact hc
theorem Qo {a:Addr}{n:Nat}{cs:List Value}(h:w.cells? base a n=some cs):cs.length=n/\∀ j u,cs[j]?=some u->w.cell? (a.add j)=some u:=by
 unfold World.cells? at h;split at h
 ·refine⟨by have:=mapM_some_length h;simpa using this,λj u J=>?_⟩;have I:j<n:=by
   have:=mapM_some_length h
   have O:=(oD.1 J).1;simp at this;omega
  have:=mapM_some_get h j j (by simp[I])
  rw[this];exact J
 ·cases h
theorem Rc {a:Addr}{u:Value}(h:w.cell? a=some u):a.spot=none/\∃ c t fz,w.heap[a.block]?=some (.cells c t fz):=by
 refine⟨World.cell?_spot h,?_⟩;unfold World.cell? at h;split at h
 ·rename_i c t fz I;exact⟨_,_,_,I⟩
 ·cases h
theorem YM {a:Addr}{z:Nat}{es:List D}(Y:∀ x∈es,eOk z x)(h:∀(k:Nat)(x:D),es[k]?=some x->∀(j:Nat)(u:D),x.cells[j]?=some u->w.cell? ((a.add (k*ez z)).add j)=some u.cv):Row w a (yP es)/\(es≠[]->a.spot=none):=by
 by_cases J:es=[]
 ·subst J;exact⟨.inl rfl,λh=>absurd rfl h⟩
 obtain⟨x,l,rfl⟩:∃ x l,es=x::l:=by cases es with | nil=>exact absurd rfl J | cons x l=>exact⟨x,l,rfl⟩
 have hx:=xH (Y x (by simp));have hp:=Dg z;obtain⟨u0,aa⟩:∃ u,x.cells[0]?=some u:=⟨_,oI (by omega)⟩
 have h0:=h 0 x (by simp) 0 u0 aa;have e0:(a.add (0*ez z)).add 0=a:=by simp[Addr.add]
 rw[e0]at h0;obtain⟨hs,c,t,fz,hb⟩:=Rc h0;refine⟨.inr ⟨c,t,fz,hb,λi u hu=>?_⟩,λ_=>hs⟩;have ab:=zY Y;have hi:i<(x::l).length*ez z:=by rw[<-ab];exact(oD.1 hu).1
 have hk:i / ez z<(x::l).length:=(Nat.div_lt_iff_lt_mul hp).2 hi;have hj:i % ez z<ez z:=Nat.mod_lt _ hp;have hy:=oI hk;have ae:=xH (Y _ (oB hy));have hv:=oI (l:=((x::l)[i / ez z]).cells) (i:=i % ez z) (by omega);have O:=pq Y hy hv;have U:i / ez z*ez z+i % ez z=i:=by rw[Nat.mul_comm];exact Nat.div_add_mod i (ez z)
 rw[U,hu]at O;have I:=h _ _ hy _ _ hv;have ac:=oT O;rw[<-ac]at I;obtain⟨b,o,s⟩:=a;simp only at hs hb ⊢;subst hs;rw[xf,xf,ml,U]at I
 have:=Gg (w:=w) (ad:=⟨b,o,none⟩) rfl hb i
 rw[xf]at this;rw[this]at I;exact I
theorem Ai {e:TypeId}{d:DataW H}:∀ {l:List (DataW H)},d∈l->∀ {x:Nat},x∈d.weights P e->x∈DataW.weightsAll P e l
 | d'::l,h,x,I=>by
   simp only[DataW.weightsAll,oK];rcases oF.1 h with rfl | h
   ·exact .inl I
   ·exact .inr (Ai h I)
theorem Kp (hT:T.all (Np P T)=true):∀(n:Nat)(t:TypeId)(cs:List Value)(y:DataW H × List MemPlace),t∈T->DataW.trod enc P w base spare held n t cs=some y->(∀ x∈y.1.weights P t,x<=reachBytes)->∃ xs,Snap w cs xs/\Shp P n t xs:=by
 intro n
 induction n with
 | zero=>intro t cs y _ h _;simp[DataW.trod]at h
 | succ n ih=>
   intro t cs y ht h hw;have J:=oY.1 hT t ht;unfold Np at J;unfold Shp;unfold DataW.trod at h;split at h
   ·rename_i I;rw[I];exact⟨[.lit _],.one rfl rfl .lit,_,rfl⟩
   ·rename_i I;rw[I];split at h
    ·rename_i hk;obtain⟨rfl,hk⟩:=hk;exact⟨[.lit _],.one rfl rfl .lit,_,rfl,hk⟩
    ·cases h
   ·rename_i I;rw[I]at J;simp at J
   ·rename_i I;rw[I];split at h
    ·cases h;exact⟨[.lit _],.one rfl rfl .lit,_,rfl,hw _ (by simp only[DataW.weights,oV];exact ni.symm)⟩
    ·cases h
   ·rename_i I;rw[I]at J;simp at J
   ·rename_i I;rw[I]at J;simp at J
   ·rename_i e I;rw[I];exact⟨_,.one (x:=.sl none (Gl P e) [] 0) rfl trivial .nil,_,_,_,rfl,Nat.zero_le _,λx Y=>absurd Y (by simp)⟩
   ·rename_i e a len cap I;rw[I]at J ⊢;simp only[oG,nM,List.contains_iff_mem]at J;obtain⟨⟨ah,hz⟩,ab⟩:=J;have ab:=mi ab;simp only at h;split at h
    rotate_left
    ·cases h
    rename_i hb;obtain⟨ax,ay,az⟩:=hb;cases hm:(List.range len).mapM λi=>(w.cells? base (a.add (i*P.cellsOf e)) (P.cellsOf e)).bind (DataW.trod enc P w base spare held n e)with
    | none=>rw[hm]at h;simp at h
    | some elems=>
      have ai:=hm;rw[hm]at h;simp only[mn]at h;obtain⟨rest,_,hy⟩:=mv.1 h;subst hy;simp only[DataW.weights,I,oF,oK]at hw;have a6:elems.length=len:=by simpa using mapM_some_length hm
      have a7:len<=reachBytes:=by have h1:=hw _ (.inl rfl);have h2:((elems.map (·.1)).length+(rest.map (·.1)).length)*1<=((elems.map (·.1)).length+(rest.map (·.1)).length)*P.bytesOf e:=mm _ ab;simp only[oW,Nat.mul_one]at h1 h2;omega
      have aj:∀ y∈elems,∀ x∈y.1.weights P e,x<=reachBytes:=λy hy x Y=>hw x (.inr (.inl (Ai (oP.2 ⟨y,hy,rfl⟩) Y)));obtain⟨es,O,ak⟩:=GL (Q:=λi (x:D)=>Shp P n e x.cells/\eOk (Gl P e) x/\Holds w x/\∀(j:Nat) (u:D),x.cells[j]?=some u->w.cell? ((a.add (i*ez (Gl P e))).add j)=some u.cv) ai λi _ y al hy=>by
       cases hc:w.cells? base (a.add (i*P.cellsOf e)) (P.cellsOf e)with
       | none=>rw[hc]at hy;simp at hy
       | some vs=>rw[hc]at hy;simp only[mn]at hy;obtain⟨xs,h1,h2⟩:=ih e vs y ah hy (aj y al);obtain⟨am,ao⟩:=Qo hc;obtain⟨x,rfl,h3,h4⟩:=WC h1 h2 am hz;refine⟨x,h2,h3,h4,λj u I=>?_⟩;rw[<-hz];refine ao j _ ?_;rw[<-h1.cv,oE,I];rfl
      have O:es.length=len:=by simpa using O
      have aa:∀ k x,es[k]?=some x->Shp P n e x.cells/\eOk (Gl P e) x/\Holds w x/\∀(j:Nat) (u:D),x.cells[j]?=some u->w.cell? ((a.add (k*ez (Gl P e))).add j)=some u.cv:=λk x hk=>by
       have aq:k<len:=by rw[<-O];exact(oD.1 hk).1
       obtain⟨x',h1,h2⟩:=ak k k (by simp[aq]);rw[hk]at h1;cases h1;exact h2
      have U:∀ x∈es,Shp P n e x.cells/\eOk (Gl P e) x/\Holds w x:=λx Y=>by obtain⟨k,hk⟩:=oQ.1 Y;obtain⟨h1,h2,h3,_⟩:=aa k x hk;exact⟨h1,h2,h3⟩
      obtain⟨ae,ac⟩:=YM (a:=a) (λx Y=>(U x Y).2.1) λk x hk=>(aa k x hk).2.2.2;refine⟨[.sl (some a) (Gl P e) es cap],.one (by simp[D.cv,O]) trivial (.sl ac (by omega) (λx Y=>(U x Y).2.1) (λx Y=>(U x Y).2.2) ae),_,_,_,rfl,by omega,λx Y=>(U x Y).1⟩
   ·rename_i cs _ cs' fs I;rw[I]at J ⊢;simp only[oG,oY,List.contains_iff_mem]at J;obtain⟨hc,au⟩:=J;split at h
    rotate_left
    ·cases h
    rename_i hl;cases hm:fs.toList.mapM λf=>DataW.trod enc P w base spare held n f.type ((cs.drop f.offset).take (P.cellsOf f.type))with
    | none=>rw[hm]at h;simp at h
    | some r=>rw[hm]at h;simp only[oa,nB]at h;subst h;simp only[DataW.weights,I]at hw;obtain⟨xs,h1,h2⟩:=Fr (R:=Shp P n) hc (by omega) hm hw λf hf vs y hy aw=>ih f.type vs y (au f hf) hy aw;refine⟨xs,?_,h2⟩;simpa [<-hl]using h1
   all_goals(rename_i I;first | (rw[I]at J;simp at J;done) | (exfalso;simp_all;done))
open Go Go.ChangeShapes Go.WideShapes Go.ChangeAt Go.RowKit
structure Ret1 (W W':World) (e:Ending):Prop where
 e:e=.returned (.bool true)
 old:∀ b,b<W.heap.size->W'.heap[b]?=W.heap[b]?
 size:W.heap.size<=W'.heap.size
 ku:KU W W'
theorem Vb {av:Nat->Prop}{W W':World}{e:Ending}(h:Fin [.bool] (λr _=>r=true) av W e W'):Ret1 W W' e:=by
 cases e with
 | returned v=>
   obtain⟨ps,rows,e',hd⟩:=h;have I:=hd.q;have J:=hd.v;refine⟨?_,hd.old,hd.size,hd.ku⟩;cases ps with
   | nil=>simp[QT.app]at I
   | cons p ps=>
     cases p<;>simp[QT.app]at I
     cases ps<;>cases rows<;>simp[QT.app]at I
     subst I;rw[J];rfl
 | _=>exact h.elim
theorem RZ {H:Type} {enc:TypeId × Value->H} {P:Program} {fn:Func} {s:ChangeSpec} {apart fresh I:Bool} {W W':World} {args:Array Value} {ds gs:List (DataW H)} {J:List MemPlace} {tb:TypeId} {e:Ending}
  (K:Kids P (·<P.types.size)) (full:∀ t e,t<P.types.size->P.underlying t=some (.slice e)->0<P.cellsOf e)
  (Y:∀ t∈fn.params.toList,t<P.types.size) (hv:s.vars=[]) (ac:fn.resultTypes=#[tb]) (ae:P.underlying tb=some .bool)
  (hs:s.fn H (ds++gs)={ results:=[.lit (.bool true)],args:=ds })
  (hW:DataW.Whole enc P fn.params.toList s.vars apart W args.toList ds gs J) (hr:Ret1 W W' e) :
  ∃ v,e=.returned v/\s.post enc P fn apart fresh I false W args v W':=by
 refine⟨_,hr.e,?_⟩;have aa:=hW;obtain⟨p,q,hA,hV,rfl,ai,_⟩:=hW;rw[hv]at hV;obtain⟨rfl,rfl⟩:=trodVars_none hV;have ab:∀ x∈p++[],x.block<W.heap.size:=aa.lt;have O:∀ {ts:List TypeId} {vs:List Value} {ds:List (DataW H)} {ps:List MemPlace},DataW.TrodAll enc P W 0 (λ_=>true) true ts vs ds ps->(∀ x∈ps,x.block<W.heap.size)->DataW.TrodAll enc P W' 0 (λ_=>true) true ts vs ds ps:=by
  intro ts
  induction ts with
  | nil=>intro vs ds ps h _;obtain⟨rfl,rfl,rfl⟩:=trodAll_nil h;exact trodAll_mk0
  | cons t ts ih=>
    intro vs ds ps h hl;obtain⟨v,aj,d,ds1,a,b,rfl,rfl,rfl,⟨n,h1⟩,h2⟩:=trodAll_cons h;refine⟨a,b,⟨n,DataW.trod_carry n _ _ _ h1 λx U=>?_⟩,ih h2 λx U=>hl x (by simp[U]),rfl⟩;have hb:=hr.old _ (hl x (by simp[U]));cases x with
    | cell b off=>simp only[World.sameAt,World.cell?,MemPlace.block]at hb ⊢;rw[hb]
    | map b=>exact hb
 have ah:=O hA λx U=>ab x (by simp[U]);refine⟨ds,[],p++[],[],p,[],aa,?_,?_,?_,⟨hr.ku.os,hr.ku.out,λi hi=>?_⟩,λh=>by cases h⟩
 ·rw[hs,ac];exact trodAll_mk1 ⟨1,by simp[DataW.trod,Value.cells,ae]⟩
 ·rw[hs];exact DataW.TrodAll.respare K full Y ah λx U=>by simpa using ab x (by simp[U])
 ·rw[hs,hv];rfl
 ·rw[hr.old i hi];cases hb:W.heap[i]? with
  | none=>rfl
  | some o=>
    cases o with
    | cells c t fr=>exact⟨rfl,rfl,rfl,λ_ _=>rfl⟩
    | map es clock=>exact .inr ⟨rfl,rfl⟩
    | _=>rfl
open Go Go.Proofs Go.Proofs.Tryz Go.ChangeShapes Go.WideShapes Go.ChangeAt Go.RowKit
theorem Z2:Kids prog (·<prog.types.size):=kids_rows (by kernel_rfl) (by kernel_rfl)
theorem full:∀ t e,t<prog.types.size->prog.underlying t=some (.slice e)->0<prog.cellsOf e:=slices_full_of prog (by kernel_rfl)
def TT:List TypeId:=[9,3,4,58,22,5]
theorem Si:TT.all (Np prog TT)=true:=by kernel_rfl
theorem K3:ownKnob prog.godebug=none:=by kernel_rfl
theorem On {H:Type}{P:Program}{I:List TypeId}{ds:List (DataW H)}(h:(DataW.weightsEach P I ds).all (·<=reachBytes)=true){j:Nat}{t:TypeId}{d:DataW H}(J:I[j]?=some t)(hd:ds[j]?=some d):∀ n∈d.weights P t,n<=reachBytes:=λn O=>by
 have:=oY.1 h _ (DataW.weights_mem_each J hd n O)
 simpa using this
theorem S2 {H:Type} {enc:TypeId × Value->H} {P:Program} {T:List TypeId} (O:T.all (Np P T)=true) {W:World} {r:Reach} {b:Nat} {t e:TypeId} {v:Value} {d:DataW H} {ps:List MemPlace} (U:t∈T) (J:P.underlying t=some (.slice e))
  (I:Value.okWide P W r b t v) (h:DataW.Trod enc P W 0 (λ_=>true) true t v d ps) (Y:∀ n∈d.weights P t,n<=reachBytes):∃(n:Nat) (a:Option Addr) (es:List D) (c:Nat),(PV.sv a (Gl P e) es c).val []=v/\Holds W (.sl a (Gl P e) es c)/\Shp P n t [.sl a (Gl P e) es c]:=by
 obtain⟨n,h⟩:=h;obtain⟨a0,len,cap,rfl⟩:=okWide_slice J I;obtain⟨xs,s,k⟩:=Kp O n t _ _ U h Y;obtain⟨m,a,es,c,rfl,rfl,_,_⟩:=NV J k;have e0:(D.sl a (Gl P e) es c).cv=.slice a0 len cap:=by
  have:=s.cv
  simpa [Value.cells]using this
 exact⟨_,a,es,c,e0,s.hold _ (by simp),k⟩
end Go.Proofs.YtligajflgjpdnaaGreatDoor
set_option maxRecDepth 100000
namespace Go.Proofs.YtligajflgjpdnaaGreatDoor
open Go Go.Proofs Go.Proofs.Tryz
end Go.Proofs.YtligajflgjpdnaaGreatDoor
set_option maxRecDepth 100000
namespace Go.Proofs.YtligajflgjpdnaaGreatDoor
open Go Go.Proofs Go.Proofs.Tryz
end Go.Proofs.YtligajflgjpdnaaGreatDoor
set_option maxRecDepth 100000
namespace Go.Proofs.YtligajflgjpdnaaGreatDoor
open Go Go.Proofs Go.Proofs.Tryz Go.ChangeShapes Go.WideShapes Go.ChangeAt Go.RowKit
/-- the list that all rows bear -/
def DA : List (String × DataW Unit) := [("math/bits.deBruijn32tab", Rows.laid_math_bits_deBruijn32tab), ("math/bits.deBruijn64tab", Rows.laid_math_bits_deBruijn64tab), ("internal/strconv.uint64pow10", Rows.laid_internal_strconv_uint64pow10)]
theorem Zq : prog.globalNamed "internal/strconv.uint64pow10" = some 0 := by kernel_rfl
theorem Zw:(prog.globals[0]?).map (·.type)=some 139:=by kernel_rfl
theorem Zr:prog.cellsOf 139=20:=by kernel_rfl
theorem ZT:prog.cellsOf 134=1:=by kernel_rfl
theorem MU {W:World}(h:laidMetH prog DA W):GlobIs W:=by
 rw [MakeChecks.laidMetH_plain _ _ _ (by kernel_rfl)] at h;have U : laidMet prog (("internal/strconv.uint64pow10", Lib.tabData .u64 Lib.pow10Tab) :: []) W := h.tail.tail;have I:=Lib.tabIs_of_head Zq Zw underlying139 underlying134 ZT Zr U;unfold Lib.TabIs World.var? at I;rw [Zq] at I;refine ⟨λx J=>?_⟩;simp only [glob,oF,oZ,nh] at J;subst J;simp only [Option.bind] at I;cases O:W.heap[0]? with
 | none=>rw[O]at I;cases I
 | some o=>
   rw[O]at I;cases o with
   | cells c t z=>simp only[nB]at I;subst I;exact⟨t,z,rfl⟩
   | _=>cases I
theorem XM {W:World}(h:laidMetH prog DA W):Avl avG W []:=⟨λb I=>(MU h).lt I,MU h,λb I=>I,λb I=>by simp⟩
theorem UH (os:Os)(args:Array Value):laidMetH prog DA ((World.doorLaid prog 400 os).forCall (λ_ _=>0) ⟨#[],args,[]⟩).memory:=
 laidMetH_of_parts3 (fuel:=8) (laidMet_of_run' 8 (by kernel_rfl) (by kernel_rfl)) (by kernel_rfl) (by kernel_rfl)
end Go.Proofs.YtligajflgjpdnaaGreatDoor
set_option maxRecDepth 100000
namespace Go.Proofs.YtligajflgjpdnaaGreatDoor
open Go Go.Proofs Go.Proofs.Tryz
theorem ez5:Gl prog 5=0:=by kernel_rfl
theorem Oa {W:World}{n:Nat}{a:Option Addr}{es:List D}{c:Nat}(hH:Holds W (.sl a 0 es c))(h:Shp prog n 22 [.sl a 0 es c]):∀ d∈es,∃ k:Int,d=.lit (.int .u8 k):=by
 obtain⟨m,a',J,c',e,hs,hl,O⟩:=NV underlying22 h;have he:J=es:=by cases hs;rfl
 subst he;have I:∀ x∈J,x.isCell:=by
  cases hH with
  | nil=>intro x O;simp at O
  | sl h1 h2 h3 h4 h5=>intro x O;exact h3 x O
 intro x U;obtain⟨k,Y⟩:=YB underlying5 (O x U);have hc:=I x U;refine⟨k,?_⟩;cases x<;>simp[D.isCell,D.cells]at hc Y ⊢<;>exact Y
end Go.Proofs.YtligajflgjpdnaaGreatDoor
set_option maxRecDepth 100000
namespace Go.Proofs.YtligajflgjpdnaaGreatDoor
open Go Go.Proofs Go.Proofs.Tryz
theorem MD {W:World}(g:GlobIs W){ad:Addr}{cs:List D}{k:Int}(h:Row W ad cs)(U:cs[0]?=some (.lit (.int .u8 k))):¬avG ad.block:=by
 rintro⟨x,J,hb⟩
 obtain⟨t,fz,Y⟩:=g.h x J;rw[hb]at Y;rcases h with rfl | ⟨c,t',aa,I,h3⟩
 ·simp at U
 ·rw[Y]at I;injection I with I
  injection I with e1 e2 e3
  have O:=h3 0 _ U;rw[<-e1]at O;simp only[glob,oF,oZ,nh]at J;subst J;simp only[lI,oE,mv,D.cv]at O;obtain⟨n,_,hn⟩:=O;cases hn
theorem Kx {W:World}(g:GlobIs W){a:Option Addr}{es:List D}{c:Nat}(h:Holds W (.sl a 0 es c))(O:∀ d∈es,∃ n:Int,d=.lit (.int .u8 n)):∀ b∈(D.sl a 0 es c).foot,¬avG b:=by
 intro b I;have U:zI es=[]:=by
  have key:∀ l:List D,(∀ d∈l,∃ n:Int,d=.lit (.int .u8 n))->zI l=[]:=by
   intro l
   induction l with
   | nil=>intro _;rfl
   | cons d l ih=>intro Y;obtain⟨n,rfl⟩:=Y d (by simp);simp only[zI,D.foot,ob];exact ih λd hd=>Y d (by simp[hd])
  exact key es O
 cases a with
 | none=>simp only[D.foot,U]at I;simp at I
 | some ad=>
   cases es with
   | nil=>simp[D.foot]at I
   | cons e es=>
     simp only[D.foot,List.isEmpty_cons,U]at I;obtain rfl:b=ad.block:=by simpa using I
     cases h with
     | sl _ _ _ _ J=>obtain⟨n,rfl⟩:=O e (by simp);exact MD g J (k:=n) (by simp[yP,D.cells])
open Go Go.Proofs Go.Proofs.Tryz Go.ChangeShapes Go.WideShapes Go.ChangeAt Go.RowKit
set_option maxHeartbeats 1600000 in
set_option maxRecDepth 100000 in
theorem A4 (os:Os) (I:os.Started) (H:Type) (enc:TypeId × Value->H) :
  ReturnsInHanded {} checked os 3 .any (λw args=>(Rows.fnSimplifiedSpec.pre enc prog Tryz.f3 [] false w args/\laidMetH prog DA w)/\sizedMet enc prog Tryz.f3 (OpenSpec.ofChange Rows.fnSimplifiedSpec) false w args)
   (Rows.fnSimplifiedSpec.post enc prog Tryz.f3 false true false false):=by
 refine returnsInHanded_of_change_and (C:=checked) (X:=λw _=>laidMetH prog DA w) (λ_ _ _ hh h=>h.of_heap hh) K3 I (by kernel_rfl) func3
  (ChangeSpec.witness_shaped (enc:=enc) (C:=checked) (os:=os) (X:=λw _=>laidMetH prog DA w) false (World.doorLaid prog 400 os) #[.slice none 0 0] 8 rfl (World.shaped_of_RefB (by kernel_rfl) (by kernel_rfl)) (by kernel_rfl) (by kernel_rfl) (by kernel_rfl) (UH os _)) ?_
 intro W base args ds gs ab Y hW _ O hL _;have U:∀(j:Nat) t v,Tryz.f3.params[j]?=some t->args[j]?=some v->Value.okWide prog W .any base t v:=Y;have ac:=hW;obtain⟨p,q,ae,hV,rfl,ai,_⟩:=hW;have hA:DataW.TrodAll enc prog W 0 (λ_=>true) true Tryz.f3.params.toList args.toList ds p:=ae;have O:(DataW.weightsEach prog (Tryz.f3.params.toList++[]) (ds++gs)).all (·<=reachBytes)=true:=O;rw[params3]at hA U O;obtain⟨v0,aj,d0,ds1,p0,p1,ha,rfl,rfl,h0,hr⟩:=trodAll_cons hA;obtain⟨rfl,rfl,rfl⟩:=trodAll_nil hr;obtain rfl:args=#[v0]:=by rw[<-na,ha]
 obtain⟨rfl,rfl⟩:=trodVars_none hV;obtain⟨n0,aC,ah,cC,e0,J,k0⟩:=S2 Si (by decide) underlying22 (U 0 22 v0 rfl rfl) h0 (On O (j:=0) rfl rfl);rw[ez5]at e0 J k0;have hc:=(HM (Oa J k0) aC cC W.heap.size).h avG W rfl (XM hL) (λp hp=>by simp only[oF,oZ,nh]at hp;subst hp;exact⟨⟨J,Kx (MU hL) J (Oa J k0)⟩,rfl⟩);have aa:([PV.sv aC 0 ah cC].map (PV.val [])).toArray=#[v0]:=by simp only[oh,lH,e0]
 rw[aa]at hc;refine hc.mono λe W' hf=>?_;exact RZ Z2 full (by rw[params3];decide) rfl (by kernel_rfl) underlying4 rfl ac (Vb hf)
theorem Ef:Rows.FnSimplifiedSaid:=
 OpenClaim.holds_of_wide 3 Tryz.f3 rfl rfl rfl rfl rfl rfl rfl ⟨rfl,rfl,rfl,rfl,rfl⟩ rfl rfl rfl rfl rfl (by kernel_rfl) func3 (by kernel_rfl)
  (mi (by kernel_rfl)) (by unfold Func.isWrapper;first | (rw[if_pos (by decide +kernel)];kernel_rfl) | (rw[if_neg (by decide +kernel)];exact⟨rfl,rfl⟩))
  (λos I H enc _=>A4 os I H enc)
theorem fnSimplified_holds:Rows.FnSimplifiedCardSaid:=
 Claim7.holds_tied_plain_at .later [] [.data,.data,.data] true Rows.fnSimplifiedCard.stood.harness false
  Ef (fun _ h=>by cases h) (by kernel_rfl) (fun _ h=>by cases h) fnSimplified_row_tie rfl ⟨rfl,rfl⟩ (by kernel_rfl) rfl
  (fun f fn hf hfn=>by
   obtain rfl : f = 3 := oT ((show prog.funcNamed "loop.example/g00589/laws.FnSimplified" = some 3 by kernel_rfl).symm.trans hf) |>.symm
   obtain rfl:fn=Tryz.f3:=(oT (func3.symm.trans hfn)).symm;exact⟨by kernel_rfl,fun j t ht=>by
    rw[params3]at ht;have hm:t∈[22]:=by simpa using Array.mem_of_getElem? ht
    have hall:([22].all fun u=>!prog.wantsStandIn u)=true:=by kernel_rfl
    exact(show prog.wantsStandIn t=false by simpa using oY.1 hall t hm)⟩)
  (by kernel_rfl)
#print axioms fnSimplified_holds
end Go.Proofs.YtligajflgjpdnaaGreatDoor
