/- Steps: the reference's, of all forms; Step. -/
import Derived.Test.YtligajflgjpdnaaGreatDoorA9
import Derived.Test.YtligajflgjpdnaaGreatDoorKa
import Derived.Test.YtligajflgjpdnaaGreatDoorKf
set_option linter.unusedVariables false
set_option linter.unusedSimpArgs false
namespace Go.Proofs.YtligajflgjpdnaaGreatDoor
open Go Go.Proofs Go.Proofs.Tryz Go.IntWalk
theorem Zt {e b:Tm}{x:ByteArray}{f g:Nat}(I:e.F f)(J:b.F g):(e.sb x b).Z:=by have O:=VE e.dp e x b (oC _) (ZL _ I.ok);have U:=I.w;have Y:=J.w;have h4:=b.fv_wd;exact⟨P7 _ _ _ _ I.g J.g,by unfold Tm.sb;omega,Sp _ _ _ _ I.z.v J.z.v⟩
theorem uF {e b:Tm}{d I:D}(J:e.Is d)(O:b.Is I)(x:ByteArray)(U:e.Z)(Y:b.Z):TF 98 [.dg 9 d,.str x,.dg 9 I] (e.sb x b):=Ht e.dp e d x b I J O (oC _) U Y
def VD (f:Nat):Tm->Nat->Tm × Int
 | .mk k nm ot n ty re l,m=>match goS (Tm.stp f) (.mk k nm ot n ty re l) (l.take m) 0 with
   | some r=>r
   | none=>(Tm.mk k nm ot n ty re l).apl
theorem T2 {f:Nat} (hS:Ws 36 f) {n0:Int} {nm ot:ByteArray} {ty re:Ty} {l:List Tm} {d:D} (hd:(Tm.mk 7 nm ot n0 ty re l).Is d) (hF:(Tm.mk 7 nm ot n0 ty re l).F (f+1)) :
  RD 64 [.dg 9 d] (VD f (Tm.mk 7 nm ot n0 ty re l) l.length):=λN Q hQ=>by
 have ai:=hd;obtain⟨t0,t1,r0,r1,a,es,c,rfl,hh,aj,Y⟩:=Tm.is_mk.1 hd;have hl:=Y.len;have a8:=(xq hF.ok).2.1 (.inl rfl);simp only[VD,List.take_length]at hQ;have e2:(es.length:Int)=2:=by omega
 refine Bk N _ Q λ_=>⟨_,_,_,rfl,⟨by omega,by omega⟩,?_⟩
 refine up Y aj (λi xs=>∀ N',N<=N'->(∀ r:Tm × Int,(match goS (Tm.stp f) (Tm.mk 7 nm ot n0 ty re l) xs i with | some r=>r | none=>(Tm.mk 7 nm ot n0 ty re l).apl)=r->∀ d N'',N<=N''->r.1.Is d->Q d r.2 N'') ->
  xp Q N i (.ag [.j 7,.t nm,.t ot,.j n0,t0,t1,r0,r1,.sl a 9 es c]) 0 (bytes []) (bytes []) 0 0 none [] 0 0 none [] 0 none [] 0 (List.getD es 0 default) N') ?_ ?_ N (oC _) (λr I d N'' h1 h2=>by rw[<-I];rw[<-I]at h2;exact hQ d N'' h1 h2)
 ·intro i aa hi N' am I;have I:=I _ rfl;simp only[goS,Tm.apl]at I;rw[if_neg (by decide),if_neg (by decide),if_pos trivial]at I;refine va ?_;rw[<-e2,aa];have ab:=zO Y (j:=0) (by omega);have ac:=zO Y (j:=1) (by omega);have O:=hF.mem _ (zB (l:=l) (i:=0) (by omega));have ae:=hF.mem _ (zB (l:=l) (i:=1) (by omega));generalize l.getD 0 tm0=p at ab O I;generalize l.getD 1 tm0=q at ac ae I;have ak:=ab;cases p with
  | mk pk pn po pm pt pr pl=>
  obtain⟨u0,u1,v0,v1,a2,ba,c2,heq,bc,ao,U⟩:=Tm.is_mk.1 ab;have bg:=U.len;rw[heq]at ak ⊢;have one:(pk=6\/pk=9)->pl.length=1:=λh=>(xq O.ok).1 (by omega);have ah:pl.length=1->(pl.getD 0 tm0).F f:=λh=>((O.up (g:=f+1) (by omega)).mem _ (zB (l:=pl) (i:=0) (by omega)))
  refine⟨_,rfl,Br.beq (λh6=>?_) λh6=>Br.beq (λh9=>?_) λh9 bh ax=>?_⟩
  ·have h1:=one (.inl h6);rw[if_pos (show(Tm.mk pk pn po pm pt pr pl).kd=6 from h6)]at I;refine⟨_,_,_,rfl,⟨by omega,by omega⟩,_,rfl,_,_,_,rfl,⟨by omega,by omega⟩,λN6 bi=>?_⟩;exact uF (zO U (j:=0) (by omega)) ac pn (ah h1).z ae.z N6 _ λdx N7 bj hx _ _ _ N8 bm=>I _ _ (by omega) hx
  ·have h1:=one (.inr h9);rw[if_neg (show ¬(Tm.mk pk pn po pm pt pr pl).kd=6 from h6),if_pos (show(Tm.mk pk pn po pm pt pr pl).kd=9 from h9)]at I;refine⟨_,_,_,rfl,⟨by omega,by omega⟩,_,rfl,_,rfl,_,_,_,rfl,⟨by omega,by omega⟩,λN9 bp=>?_⟩;refine uF (zO U (j:=0) (by omega)) ak pn (ah h1).z O.z N9 _ λdx bq ay hx _ _ _ aq az=>?_;exact uF hx ac po (Zt (ah h1) O) ae.z aq _ λdy bt a6 hy _ _ _ bv a7=>I _ _ (by omega) hy
  ·rw[if_neg (show ¬(Tm.mk pk pn po pm pt pr pl).kd=6 from h6),if_neg (show ¬(Tm.mk pk pn po pm pt pr pl).kd=9 from h9)]at I;exact I _ _ (by omega) ai
 ·intro i x xs J bw au N' am I;have hb:=J.b;have aw:i<l.length:=(oD.1 J.g).1;obtain rfl:l.getD i tm0=x:=by rw[oA,J.g];rfl
  have al:=hF.mem _ J.m;have aa:=J.lt;rw[e2]at aa;refine va ?_;rw[aa,oH,J.w];refine⟨_,_,_,rfl,⟨by omega,by omega⟩,λN1 bz=>zo J.r al.ok al.dp N1 _ λN2 b1 _=>Br.not (λhv N3 b2=>?_) λhv=>?_⟩
  ·have I:=I _ rfl;simp only[goS]at I;rw[if_neg (by rw[hv];decide)]at I;exact Iq hS ai hF aw N3 _ λdx N4 b3 hx _ _ N5 b4=>I _ _ (by omega) hx
  ·rw[Ir hv]at I;exact au _ (by omega) I
theorem UC {l:List Tm}(h:0<l.length):l.take 1=[l.getD 0 tm0]:=by
 cases l with
 | nil=>simp at h
 | cons x xs=>rfl
theorem Qd {k n:Int}{nm ot:ByteArray}{ty re:Ty}{l:List Tm}(h:(Tm.mk k nm ot n ty re l).ok=true)(U:k=2\/k=3):(Tm.mk k nm ot n ty re l).cnt<=1073741824:=by
 have nd:=v8 h;have Y:=(xq h).2.2.2.1 (.inr U);have:l=[]:=oM Y;subst this;have O:∀ t:Ty,t.zero=true->t.cnt<=30:=λt J=>by
  cases t with
  | mk k l=>
  simp only[Ty.zero,Ty.k,Ty.as,oG,nM]at J;have:l=[]:=oM (by omega);subst this;simp[Ty.cnt,zL]
 have v1:∀ t:Ty,t.valid=true->t.cnt<=30:=λt J=>Ty.valid_cnt J;have I:=nd.f;simp only[zK,oG,nM,nI]at I;have aa:ty.cnt<=30:=by
  rcases I.2.1 with h | h
  ·exact v1 _ (by rw[<-I.1,h])
  ·exact O _ h
 have ab:re.cnt<=30:=by
  rcases I.2.2.2.1 with h | h
  ·exact v1 _ (by rw[<-I.2.2.1];simpa using h)
  ·exact O _ h
 simp only[Tm.cnt,zj];omega
theorem Pz (k:Int) {p:Tm} {d:D} (h:p.Is d) (hc:p.cnt<=1073741824) (a:Option Addr) (N:Nat) (Q:QT [.ag 9]) (I:∀ d' N',N<=N'->(Tm.nod k [p]).Is d'->Own N N' d'->Q d' N') :
 ACalls prog 82 [.ag 9] [.j k,.sv a 9 [d] 1] N Q:=En k (l:=[p]) (es:=[d]) ⟨d,[],rfl,h,rfl⟩ (by simp) (by simpa using hc) a 1 N Q I
theorem Ek {f:Nat} (hS:Ws 36 f) {k n0:Int} {nm ot:ByteArray} {ty re:Ty} {l:List Tm} {d:D} (hk:k=5\/k=8\/k=12\/k=13) (hd:(Tm.mk k nm ot n0 ty re l).Is d) (hF:(Tm.mk k nm ot n0 ty re l).F (f+1)) :
  RD 67 [.dg 9 d] (VD f (Tm.mk k nm ot n0 ty re l) 1):=λN Q I=>by
 have aa:=hd;obtain⟨t0,t1,r0,r1,a,es,c,rfl,hh,bc,ab⟩:=Tm.is_mk.1 hd;have hl:=ab.len;have ac:0<l.length:=by
  obtain⟨a1,a2,a3,_⟩:=xq hF.ok;rcases hk with h | h | h | h
  ·have:=a3 h;omega
  ·have:=a2 (.inr h);omega
  ·have:=a1 (by omega);omega
  ·have:=a1 (by omega);omega
 have ae:=zO ab ac;have J:=hF.mem _ (zB ac);simp only[VD]at I;rw[UC ac]at I;simp only[goS]at I;refine B3 N _ Q λ_=>⟨_,_,_,rfl,⟨by omega,by omega⟩,λN1 bh=>zo ae J.ok J.dp N1 _ λN2 bi _=>Br.not (λhv N3 bj=>?_) λhv=>?_⟩
 ·rw[if_neg (by rw[hv];decide)]at I;exact Iq hS aa hF ac N3 _ λdx N4 aw hx _ _ N5 ax=>I _ _ (by omega) hx
 rw[if_pos hv]at I;simp only[Tm.apl]at I;generalize bm:l.getD 0 tm0=p at ae J hv I;have ai:=ae;have am:=λh=>BA J.ok h;cases p with
 | mk pk O U pm pt pr Y=>
 obtain⟨u0,u1,v0,v1,a2,ay,c2,heq,bp,az,ah⟩:=Tm.is_mk.1 ae;have bq:=ah.len;simp only[Tm.kd,Tm.no]at am;rw[heq]at ai ⊢;have lift:∀(N:Nat) (a:Option Addr) (N':Nat) (hN:N2<=N) (_:w8 N [a]) (_:(Tm.mk pk O U pm pt pr Y).cnt<=1073741824),(∀ d N',N2<=N'->(Tm.nod 10 [Tm.mk pk O U pm pt pr Y]).Is d->Q d 8 N') ->
   ACalls prog 82 [.ag 9] [.j 10,.sv a 9 [.ag [.j pk,.t O,.t U,.j pm,u0,u1,v0,v1,.sl a2 9 ay c2]] 1] N (λx N7=>N<=N7->Off [a] x/\(Bel N7 x->∀ N8,N7<=N8->Q x 8 N8)):=λN3 a N' hN hb a7 hq=>
  Pz 10 ai a7 a N3 _ λdx N4 aw hx ho _=>⟨uC hb ho,λ_ N5 ax=>hq _ _ (by omega) hx⟩
 rcases hk with rfl | rfl | rfl | rfl
 ·have bt:=(xq hF.ok).2.2.1 rfl;rw[if_neg (by decide),if_pos rfl]at I;refine⟨_,rfl,Br.beq (λ_=>⟨_,rfl,Br.beq (λh3=>?_) λh3=>?_⟩) (λh=>absurd rfl h)⟩
  ·have hn:=am h3;rw[if_pos (show(Tm.mk pk O U pm pt pr Y).kd=3 from h3)]at I;have hw:IntKind.i64.wrap (2 - pm)=2 - pm:=i64_in _ (by omega);refine⟨_,_,_,rfl,_,rfl,?_⟩;rw[hw];refine⟨⟨by omega,by omega⟩,λN6 ao=>?_⟩;refine qn wr (zO ab (j:=(2 - pm).toNat) (by omega)) (zh hF.z.g.2.2.2 (zB (by omega))) (N0:=N) (by omega) (λd N=>Q d 2 N) λd' N7 aq aj _=>I _ _ (by omega) aj
  ·rw[if_neg (show ¬(Tm.mk pk O U pm pt pr Y).kd=3 from h3)]at I
   repeat' first | refine⟨_,rfl,?_⟩ | refine Br.beq (λh=>absurd h (by decide)) λ_=>?_
   all_goals exact λN hN=>I _ _ (by omega) aa
 ·have bv:=(xq hF.ok).2.1 (.inr rfl);rw[if_neg (by decide),if_neg (by decide),if_neg (by decide),if_pos rfl]at I;have a8:=hF.mem _ (zB (l:=l) (i:=1) (by omega));have ba:=zO ab (j:=1) (by omega)
  repeat' first | refine⟨_,rfl,?_⟩ | refine Br.beq (λh=>absurd h (by decide)) λ_=>?_ | refine Br.beq (λ_=>?_) (λh=>absurd rfl h)
  all_goals
   refine⟨_,_,_,rfl,⟨by omega,by omega⟩,_,rfl,λN6 ao=>?_⟩;exact uF ba ai nm a8.z J.z N6 _ λdx N7 aq hx _ _ _ N8 bw=>I _ _ (by omega) hx
 ·rw[if_neg (by decide),if_neg (by decide),if_neg (by decide),if_neg (by decide),if_pos rfl]at I
  repeat' first | refine⟨_,rfl,?_⟩ | refine Br.beq (λh=>absurd h (by decide)) λ_=>?_ | refine Br.beq (λ_=>?_) (λh=>absurd rfl h)
  all_goals
   refine Br.beq (λak=>?_) λak=>?_
   ·rw[if_pos (show(Tm.mk pk O U pm pt pr Y).kd=10 from ak)]at I;have h1:=(xq J.ok).1 (by omega);refine⟨_,_,_,rfl,⟨by omega,by omega⟩,λN6 ao=>?_⟩;refine qn wr (zO ah (j:=0) (by omega)) (zh J.z.g.2.2.2 (zB (by omega))) (N0:=N) (by omega) (λd N=>Q d 7 N) λd' N7 aq aj _=>I _ _ (by omega) aj
   ·rw[if_neg (show ¬(Tm.mk pk O U pm pt pr Y).kd=10 from ak)]at I
    repeat' first | refine⟨_,rfl,?_⟩ | refine Br.beq (λh=>absurd h (by decide)) λ_=>?_
    all_goals exact λN hN=>I _ _ (by omega) aa
 ·rw[if_neg (by decide),if_neg (by decide),if_neg (by decide),if_neg (by decide),if_neg (by decide),if_pos rfl]at I
  repeat' first | refine⟨_,rfl,?_⟩ | refine Br.beq (λh=>absurd h (by decide)) λ_=>?_ | refine Br.beq (λ_=>?_) (λh=>absurd rfl h)
  all_goals
   refine Br.beq (λh2=>⟨⟨rfl,rfl⟩,λa6 _ al au hb=>?_⟩) λh2=>⟨_,rfl,Br.beq (λh3=>⟨⟨rfl,rfl⟩,λa6 _ al au hb=>?_⟩) λh3 bz bg=>?_⟩
   ·rw[if_pos (show(Tm.mk pk O U pm pt pr Y).kd=2\/(Tm.mk pk O U pm pt pr Y).kd=3 from .inl h2)]at I;exact lift al a6 0 (by omega) hb (Qd J.ok (.inl h2)) λd N' h1 h2=>I _ _ (by omega) h2
   ·rw[if_pos (show(Tm.mk pk O U pm pt pr Y).kd=2\/(Tm.mk pk O U pm pt pr Y).kd=3 from .inr h3)]at I;exact lift al a6 0 (by omega) hb (Qd J.ok (.inr h3)) λd N' h1 h2=>I _ _ (by omega) h2
   ·rw[if_neg (show ¬((Tm.mk pk O U pm pt pr Y).kd=2\/(Tm.mk pk O U pm pt pr Y).kd=3)from λh=>h.elim h2 h3)]at I;exact I _ _ (by omega) aa
theorem FL:∀ f,Ws 36 f
 | 0=>λe d _ U=>absurd (Tm.dp_pos e) (by have:=U.d;omega)
 | f+1=>λe d hd U N Q hQ=>by
   have ih:=FL f;cases e with
   | mk k nm ot n0 ty re l=>
   have I:=hd;obtain⟨t0,t1,r0,r1,a,es,c,rfl,hh,am,ah⟩:=Tm.is_mk.1 hd;have hl:=ah.len;simp only[Tm.stp]at hQ;refine An N _ Q λ_ N1 ay=>zo I U.ok U.dp N1 _ λN2 az _=>Br.of (λhv N3 a6=>?_) λhv=>⟨_,rfl,?_⟩
   ·rw[if_pos hv]at hQ;exact hQ _ _ (by omega) I
   rw[if_neg (by rw[hv];decide)]at hQ;have other:k≠10->∀ m,vn k l.length=m->∀ d N',N<=N'->(VD f (Tm.mk k nm ot n0 ty re l) m).1.Is d->Q d (VD f (Tm.mk k nm ot n0 ty re l) m).2 N':=λhk m hm=>by rw[if_neg (show ¬(Tm.mk k nm ot n0 ty re l).kd=10 from hk),hm]at hQ;exact hQ
   refine Br.beq (λh4 N4 Y=>?_) λh4=>Br.beq (λh7 N4 Y=>?_) λh7=>Br.beq (λO=>?_) λO=>Br.beq (λh5 N4 Y=>?_) λh5=>Br.beq (λh8 N4 Y=>?_) λh8=>Br.beq (λaa N4 Y=>?_) λaa=>Br.beq (λab N4 Y=>?_) λab N4 Y=>?_
   ·subst h4;have J:=other (by decide) l.length (by simp[vn]);simp only[VD,List.take_length,Tm.apl,mU]at J;exact Vo ih I U rfl N4 _ λx N5 ac hx _ _ N6 ae=>J _ _ (by omega) hx
   ·subst h7;have J:=other (by decide) l.length (by simp[vn]);exact T2 ih I U N4 _ λx N5 ac hx _ _ N6 ae=>J _ _ (by omega) hx
   ·rw[if_pos (by exact O)]at hQ;have a7:=(xq U.ok).1 (by omega);have ai:=zB (l:=l) (i:=0) (by omega);refine⟨_,_,_,rfl,⟨by omega,by omega⟩,λaj ao=>?_⟩;have a8:=dp_mem (k:=k) (nm:=nm) (ot:=ot) (n:=n0) (ty:=ty) (re:=re) ai;have ba:=U.dp;refine R6 ih _ _ (zO ah (j:=0) (by omega)) ((U.mem _ ai).up (by omega)) 1 (by unfold LvIn;omega) aj _ λdx bc aq hx _ _ ak au=>?_;exact Bq I U.z.g hx (i:=0) (by simp only[Tm.as];omega) ak _ λd' bg aw al _ _ bh ax=>hQ _ _ (by omega) al
   ·have J:=other O 1 (by simp[vn,h4,h7,h5]);exact Ek ih (.inl h5) I U N4 _ λx N5 ac hx _ _ N6 ae=>J _ _ (by omega) hx
   ·have J:=other O 1 (by simp[vn,h4,h7,h8]);exact Ek ih (.inr (.inl h8)) I U N4 _ λx N5 ac hx _ _ N6 ae=>J _ _ (by omega) hx
   ·have J:=other O 1 (by simp[vn,h4,h7,aa]);exact Ek ih (.inr (.inr (.inl aa))) I U N4 _ λx N5 ac hx _ _ N6 ae=>J _ _ (by omega) hx
   ·have J:=other O 1 (by simp[vn,h4,h7,ab]);exact Ek ih (.inr (.inr (.inr ab))) I U N4 _ λx N5 ac hx _ _ N6 ae=>J _ _ (by omega) hx
   ·have J:=other O 0 (by simp[vn,h4,h7,h5,h8,aa,ab]);simp only[VD,m7,goS,Tm.apl]at J;rw[if_neg h4,if_neg h5,if_neg h7,if_neg h8,if_neg aa,if_neg ab]at J;exact J _ _ (by omega) I
theorem Ui:tm0.Is (.ag [.j 0,.t (bytes []),.t (bytes []),.j 0,.j 0,.sl none 2 [] 0,.j 0,.sl none 2 [] 0,.sl none 9 [] 0]):=
 Tm.is_mk.2 ⟨_,_,_,_,_,_,_,rfl,⟨by decide,by decide,tS _,tS _⟩,by simp,rfl⟩
theorem Og {s:ByteArray}(h:0<rU s):s=bytes [43]\/s=bytes [45]\/s=bytes [42]\/s=bytes [61]\/s=bytes [60]\/s=bytes [38]\/s=bytes [124]\/s=bytes [33]:=by
 unfold rU at h
 (repeat' split at h)<;>first | exact absurd h (by decide) | simp[*]
theorem Pb {s:ByteArray}(h:0<rU s){a b:Int}(I:0<=a/\a<=10006)(J:0<=b/\b<=10006):(zE s a b).2=true:=by
 have:=Og h
 unfold zE;rw[if_pos (zw.2 I),if_pos (zw.2 J)]
 (repeat' split)<;>first | rfl | (rcases this with h | h | h | h | h | h | h | h<;>contradiction)
def qi (s:ByteArray):Bool:=xM s||(decide (s=bytes [61])||decide (s=bytes [60]))
theorem QU {s:ByteArray}(h:0<rU s):w7 s=if qi s then 3 else 2:=by rcases Og h with h | h | h | h | h | h | h | h<;>subst h<;>decide +kernel
theorem Hs (s:ByteArray):ws 155 [.str s] (xM s):=λN Q J=>F9 N s Q (Br.str (λe1 N1 I=>Qb (J _ I) (by simp[xM,e1])) λe1=>Br.str (λO N1 I=>Qb (J _ I) (by simp[xM,O])) λO N1 I=>Qb (J _ I) (by simp[xM,e1,O,uI]))
theorem MH (s:ByteArray):ws 158 [.str s] (qi s):=λN Q J=>ER N s Q λN1 U=>Hs s N1 _ λN2 Y _=>Br.of (λe0 O I=>Qb (J _ (by omega)) (by simp[qi,e0])) λe0=>Br.str (λe1 O I=>Qb (J _ (by omega)) (by simp[qi,e1])) λe1 O I=>Qb (J _ (by omega)) (by simp[qi,e0,e1,uI])
theorem RR (n:Int)(b:Bool)(N:Nat)(Q:QT [.ag 9])(J:∀ d N',N<=N'->(Co (if b then 3 else 2) n).Is d->Q d N'):ACalls prog 157 [.ag 9] [.j n,.bool b] N Q:=by refine Gv N n b Q (Br.of (λh N1 I=>J _ _ I (by rw[h];exact Jb)) λh N2 O=>Kf N2 n _ λN3 U _ _ N4 Y=>J _ _ (by omega) (by rw[h];exact Jb))
def ZH (f:FuncId)(args:List PV)(r:Tm × Bool):Prop:=∀(N:Nat) (Q:QT [.ag 9,.bool]),(∀ d N',N<=N'->r.1.Is d->Q d r.2 N')->ACalls prog f [.ag 9,.bool] args N Q
theorem Yi {n0:Int}{nm ot:ByteArray}{ty re:Ty}{l:List Tm}(h:(Tm.mk 4 nm ot n0 ty re l).ok=true):0<rU nm:=by
 simp only[Tm.ok,oG,zK,xY]at h
 have:=h.2.1.2.2.2.2.2
 rw[if_pos trivial,oG]at this;simpa using this.1
theorem RO {e:Tm}(h:e.ok=true)(I:e.kd=2\/e.kd=3):0<=e.no/\e.no<=10006:=by
 cases e with
 | mk k nm ot n ty re l=>
 simp only[Tm.kd]at I;simp only[Tm.ok,oG,zK,inB]at h;simp only[Tm.no];rcases I with rfl | rfl
 ·have:=h.2.1.2.2.2.2.1
  simp at this;omega
 ·have:=h.2.1.2.2.2.2.1
  simp at this;omega
theorem D1 (s:ByteArray):zR s=2\/zR s=3:=by unfold zR;split<;>simp
def Hu (nm:ByteArray)(l:List Tm):Tm × Bool:=if l.all (λx=>x.kd==zR nm)then(Co (w7 nm) (zE nm (l.getD 0 tm0).no (l.getD 1 tm0).no).1,true)else(tm0,false)
theorem Pc {n0:Int}{nm ot:ByteArray}{ty re:Ty}{l:List Tm}{d:D}(hd:(Tm.mk 4 nm ot n0 ty re l).Is d)(aa:0<rU nm)(ae:l.length<=2)(ah:∀ x∈l,x.kd=2\/x.kd=3->0<=x.no/\x.no<=10006):ZH 130 [.dg 9 d] (Hu nm l):=λN Q hQ=>by
 obtain⟨t0,t1,r0,r1,a,es,c,rfl,hh,ab,ac⟩:=Tm.is_mk.1 hd;have hl:=ac.len;have loop:∀ N',N<=N'->yf Q N (zR nm) 2 2 a es c es.length 0 (.ag [.j 4,.t nm,.t ot,.j n0,t0,t1,r0,r1,.sl a 9 es c]) 0 (bytes []) (bytes []) 0 0 none [] 0 0 none [] 0 none [] 0 [.j 0,.j 0] 2 N':=λN' J=>by
  refine up ac ab (λi xs=>∀ N',N<=N'->(∀ j x,j<i->l[j]?=some x->x.kd=zR nm)->yf Q N (zR nm) 2 2 a es c es.length i (.ag [.j 4,.t nm,.t ot,.j n0,t0,t1,r0,r1,.sl a 9 es c]) 0 (bytes []) (bytes []) 0 0 none [] 0 0 none [] 0 none [] 0 (G3 l i) 2 N') ?_ ?_ N' J (λj x h=>absurd h (by omega))
  ·intro i ai hi N' J hk;have O:∀ x∈l,x.kd=zR nm:=λx U=>by obtain⟨j,hj⟩:=oQ.1 U;exact hk j x (by have:=(oD.1 hj).1;omega) hj
   have aj:i=l.length:=by omega
   have hr:∀ j,0<=(l.getD j tm0).no/\(l.getD j tm0).no<=10006:=λj=>by
    by_cases hj:j<l.length
    ·have hm:=zB hj;refine ah _ hm ?_;rw[O _ hm];exact D1 nm
    ·rw[CY (by omega)];decide
   have hq:Hu nm l=(Co (w7 nm) (zE nm (l.getD 0 tm0).no (l.getD 1 tm0).no).1,true):=by unfold Hu;rw[if_pos (oY.2 λx U=>by rw[O x U];exact beq_self_eq_true _)]
   rw[hq]at hQ;refine qI ?_;rw[ai,aj,NW ae];refine⟨_,rfl,⟨⟨by omega,by omega,by simp⟩,by simp,_,rfl,⟨by omega,by omega,by simp⟩,by simp,_,rfl,λN2 ak=>G5 _ _ _ N2 _ λN3 ay _=>⟨_,rfl,λN4 az=>MH _ N4 _ λN5 a6 _ N6 a7=>RR _ _ N6 _ λx N7 a8 U _ _ N8 ba=>?_⟩⟩⟩;rw[Pb aa (hr 0) (hr 1)];rw[<-QU aa]at U;exact hQ _ _ (by omega) U
  ·intro i x xs I bc al N' J hk;have hb:=I.b;have U:=I.r;have am:l.getD i tm0=x:=by rw[oA,I.g];rfl
   refine qI ?_;rw[I.lt,oH,I.w];cases x with
   | mk pk pn po pm pt pr pl=>
   obtain⟨u0,u1,v0,v1,a2,bg,c2,heq,bh,ao,ax⟩:=Tm.is_mk.1 U;rw[heq];refine⟨⟨by omega,by omega⟩,_,rfl,Br.bne (λaq N1 au=>?_) λhe=>⟨_,rfl,⟨by omega,by omega,by simp only[G3,oO,oU];omega⟩,by simp only[G3,oO,oU];omega,?_⟩⟩
   ·have hq:Hu nm l=(tm0,false):=by unfold Hu;rw[if_neg λhc=>aq (by have:=oY.1 hc _ I.m;exact(by simpa using this:(Tm.mk pk pn po pm pt pr pl).kd=zR nm))]
    rw[hq]at hQ;exact hQ _ _ (by omega) Ui
   ·rw[ow];have Y:=Nw (l:=l) (i:=i) (by omega);rw[am]at Y;simp only[Tm.no]at Y;rw[Y];refine al _ J λj y hj hy=>?_;by_cases aw:j<i
    ·exact hk j y aw hy
    ·have:j=i:=by omega
     subst this;rw[I.g]at hy;rw[<-oT hy];exact he
 refine HD N _ Q λ_=>⟨_,rfl,λN1 au=>Hs nm N1 _ λN2 ak _=>Br.of (λh=>⟨_,_,_,rfl,?_⟩) λh=>⟨_,_,_,rfl,?_⟩⟩
 ·have:=loop N2 (by omega)
  rw[show zR nm=3 by unfold zR;rw[if_pos h]]at this;exact this
 ·have:=loop N2 (by omega)
  rw[show zR nm=2 by unfold zR;rw[if_neg (by rw[h];decide)]]at this;exact this
theorem Nn {e b:Tm}{d I:D}(J:e.Is d)(O:b.Is I)(x:ByteArray)(U:e.Z)(Y:b.Z):TF 92 [.dg 9 d,.str x,.dg 9 I] (e.sb x b):=H7 e.dp e d x b I J O (oC _) U Y
theorem TX {n0:Int}{nm ot:ByteArray}{ty re:Ty}{l:List Tm}:(Tm.mk 4 nm ot n0 ty re l).opr l=if(Hu nm l).2=true then((Hu nm l).1,1)else(Tm.mk 4 nm ot n0 ty re l,0):=by
 unfold Tm.opr Hu;by_cases hc:(l.all λx=>x.kd==zR nm)=true
 ·rw[if_pos hc,if_pos (show(l.all λx=>x.kd==zR (Tm.mk 4 nm ot n0 ty re l).nm)=true from hc),if_pos rfl];rfl
 ·rw[if_neg hc,if_neg (show ¬(l.all λx=>x.kd==zR (Tm.mk 4 nm ot n0 ty re l).nm)=true from hc),if_neg (by decide)]
theorem vw:∀ {l:List Tm}{t:Tm},t∈l->t.sz<=yB l
 | u::us,t,h=>by
   simp only[yB];rcases oF.1 h with rfl | h
   ·omega
   ·have:=vw h;omega
theorem Tm.sz_pos (t:Tm):1<=t.sz:=by cases t;simp only[Tm.sz];omega
theorem Lz:∀ {l:List Tm},qv l=true↔∀ x∈l,x.ok=true
 | []=>by simp[qv]
 | t::I=>by simp only[qv,oG,Lz (l:=I),oF,nT]
theorem szL:∀ {l' l:List Tm},l'.length=l.length->(∀(i:Nat)(t' t:Tm),l'[i]?=some t'->l[i]?=some t->t.sz<=t'.sz)->yB l<=yB l'
 | [],[],_,_=>oC _
 | [],_::_,h,_=>by simp at h
 | _::_,[],h,_=>by simp at h
 | t'::I,t::O,h,J=>by have h1:=szL (l':=I) (l:=O) (by simpa using h) λi a b U Y=>J (i+1) a b (by simpa using U) (by simpa using Y);have h0:=J 0 t' t (by simp) (by simp);simp only[yB];omega
theorem QS {f:Nat}(I:∀ t x y,t.V->t.sz<=(Tm.sub f t x (xk y)).sz)(k:Int)(n:Nat)(fb:List ByteArray)(x:ByteArray):∀(l:List ByteArray)(s:ByteArray × ByteArray × Tm),s.2.2.V->s.2.2.sz<=(rns (Tm.sub f) k n fb x l s).2.2.sz
 | [],s,_=>oC _
 | old::l,s,J=>by
   have O:=QS I k n fb x l (rn1 (Tm.sub f) k n fb x old s) ((qm (yJ f) k n fb x old s).v J);have U:s.2.2.sz<=(rn1 (Tm.sub f) k n fb x old s).2.2.sz:=by
    unfold rn1;split
    ·split<;>exact I _ _ _ J
    ·exact oC _
   simp only[rns];omega
theorem H2:∀(f:Nat)(t:Tm)(x:ByteArray)(b:Tm),t.V->t.sz<=(t.sub f x b).sz
 | 0,t,x,b,_=>by simp only[Tm.sub];exact oC _
 | f + 1,.mk k nm ot n ty re l,x,b,hv=>by
   have Y:=H2 f;have O:=uR.1 hv.2;simp only[Tm.sub];split
   ·rename_i hk;split
    ·rw[hv.1 (by assumption)];simp only[Tm.sz,yB];exact Tm.sz_pos b
    ·exact oC _
   ·split
    ·simp only[Tm.sz]
     have:=szL (l':=l.map λt=>Tm.sub f t x b) (l:=l) (by simp) λi t' t I J=>by rw[oE,J]at I;cases I;exact Y t x b (O t (oB J))
     omega
    ·rename_i hb;obtain⟨g1,g2⟩:=yM hb;split
     ·simp only[Tm.sz]
      have:=szL (l':=(l.map λt=>Tm.sub f t x b).set (zN k l.length).toNat (l.getD (zN k l.length).toNat tm0)) (l:=l) (by simp) λi t' t I J=>by
       rcases pK I J with⟨h1,U⟩ | ⟨h1,U⟩
       ·rw[h1,zH g1]at J;rw[U,<-oT J];exact oC _
       ·rw[U];exact Y t x b (O t (oB J))
      omega
     ·simp only[Tm.sz]
      have:=szL (l':=(l.map λt=>Tm.sub f t x b).set (zN k l.length).toNat (Tm.sub f (rns (Tm.sub f) k l.length b.fv x (bdN k nm ot l.length) (nm,ot,l.getD (zN k l.length).toNat tm0)).2.2 x b)) (l:=l) (by simp) λi t' t I J=>by
       rcases pK I J with⟨h1,U⟩ | ⟨h1,U⟩
       ·rw[h1,zH g1]at J;rw[U,<-oT J];have aa:=O _ (oB (zH g1));exact oL (QS (λt x y h=>Y t x _ h) k l.length b.fv x (bdN k nm ot l.length) (nm,ot,l.getD (zN k l.length).toNat tm0) aa) (Y _ x b ((ut (yJ f) _ _ _ _ _ _).v aa))
       ·rw[U];exact Y t x b (O t (oB J))
      omega
theorem Vp {k:Int}{s w ot:ByteArray}{n:Nat}(v:ByteArray)(h:s∈bdN k w ot n):s=w\/s∈bdN k v ot n:=by
 unfold bdN at h ⊢;split at h
 ·simp at h;exact .inl h
 ·rename_i I;rw[if_neg I];split at h
  ·simp at h;exact .inl h
  ·rename_i J;rw[if_neg J];split at h
   ·rename_i O;rw[if_pos O];simp at h;rcases h with h | h
    ·exact .inl h
    ·exact .inr (by simp[h])
   ·simp at h
theorem VU {k:Int}{s nm w:ByteArray}{n:Nat}(v:ByteArray)(h:s∈bdN k nm w n):s=w\/s∈bdN k nm v n:=by
 unfold bdN at h ⊢;split at h
 ·rename_i I;rw[if_pos I];exact .inr h
 ·rename_i I;rw[if_neg I];split at h
  ·rename_i J;rw[if_pos J];exact .inr h
  ·rename_i J;rw[if_neg J];split at h
   ·rename_i O;rw[if_pos O];simp at h;rcases h with h | h
    ·exact .inr (by simp[h])
    ·exact .inl h
   ·simp at h
theorem Rj:∀(f:Nat) (t:Tm) (s x:ByteArray) (b:Tm),s∈t.fv->s≠x->s∈(t.sub f x b).fv
 | 0,t,s,x,b,h,_=>by simp only[Tm.sub];exact h
 | f + 1, .mk k nm ot n ty re l,s,x,b,h,J=>by
   have ih:=Rj f;rw[Tm.fv_mem]at h;simp only[Tm.sub];split
   ·rename_i O;rcases h with⟨_,h⟩ | ⟨h,_⟩
    ·rw[if_neg (λhc=>J (by rw[h,hc]))];rw[Tm.fv_mem];exact .inl ⟨O,h⟩
    ·exact absurd O h
   ·rename_i O;obtain⟨j,p,hj,hs⟩:∃(j:Nat) (x:Tm),l[j]?=some x/\s∈fvI (zN k l.length) (bdN k nm ot l.length) j x:=by
     rcases h with⟨h,_⟩ | ⟨_,h⟩
     ·exact absurd h O
     ·exact h
    unfold fvI at hs;split
    ·rename_i hb;rw[Tm.fv_mem];refine .inr ⟨O,j,p.sub f x b,by rw[oE,hj];rfl,?_⟩;rw[if_neg (by omega)]at hs;unfold fvI;rw[oW,if_neg (by omega)];exact ih p s x b hs J
    ·rename_i hb;obtain⟨g1,g2⟩:=yM hb;have aa:j<l.length:=(oD.1 hj).1;have U:=zH g1;split
     ·rw[Tm.fv_mem];by_cases I:(j:Int)=zN k l.length
      ·refine .inr ⟨O,j,p,?_,?_⟩
       ·have:(zN k l.length).toNat=j:=by omega
        rw[this]at U ⊢;rw[oi (by simpa using aa),<-oT (U.symm.trans hj)]
       ·unfold fvI;simp only[nU,oW];exact hs
      ·refine .inr ⟨O,j,p.sub f x b,?_,?_⟩
       ·rw[om (by omega),oE,hj];rfl
       ·rw[if_neg I]at hs;unfold fvI;simp only[nU,oW];rw[if_neg I];exact ih p s x b hs J
     ·rw [Tm.fv_mem];by_cases I:(j:Int)=zN k l.length
      ·have ae:(zN k l.length).toNat=j:=by omega
       rw[ae]at U ⊢;have ah:l.getD j tm0=p:=oT (U.symm.trans hj);rw[ah];rw[if_pos I,yD]at hs;obtain⟨ai,ab⟩:=hs;have r1:∀(old:ByteArray) (st:ByteArray × ByteArray × Tm),s≠old->s∈st.2.2.fv->s∉bdN k st.1 st.2.1 l.length->s∈(rn1 (Tm.sub f) k l.length b.fv x old st).2.2.fv/\s∉bdN k (rn1 (Tm.sub f) k l.length b.fv x old st).1 (rn1 (Tm.sub f) k l.length b.fv x old st).2.1 l.length:=λold st h1 Y h3=>by
        unfold rn1;have ac:=yb (b.fv++(st.2.2.fv++([x]++bdN k st.1 st.2.1 l.length)));generalize fresh (b.fv++(st.2.2.fv++([x]++bdN k st.1 st.2.1 l.length)))=w at ac;have hw:s≠w:=λhc=>ac (by rw[<-hc];simp[Y]);split
        ·split
         ·exact⟨ih _ _ _ _ Y h1,λhc=>(Vp st.1 hc).elim hw h3⟩
         ·exact⟨ih _ _ _ _ Y h1,λhc=>(VU st.2.1 hc).elim hw h3⟩
        ·exact⟨Y,h3⟩
       have rs:∀(ns:List ByteArray) (st:ByteArray × ByteArray × Tm),(∀ o∈ns,s≠o)->s∈st.2.2.fv->s∉bdN k st.1 st.2.1 l.length->s∈(rns (Tm.sub f) k l.length b.fv x ns st).2.2.fv/\s∉bdN k (rns (Tm.sub f) k l.length b.fv x ns st).1 (rns (Tm.sub f) k l.length b.fv x ns st).2.1 l.length:=by
        intro ns
        induction ns with
        | nil=>exact λst _ Y h3=>⟨Y,h3⟩
        | cons o os aj=>intro st h1 Y h3;obtain⟨a1,a2⟩:=r1 o st (h1 o (by simp)) Y h3;exact aj _ (λo' ho=>h1 o' (by simp[ho])) a1 a2
       obtain⟨a1,a2⟩:=rs (bdN k nm ot l.length) (nm,ot,p) (λo ho hc=>ab (hc ▸ ho)) ai ab;refine .inr ⟨O,j,_,oi (by simpa using aa),?_⟩;unfold fvI;simp only[nU,oW];rw[if_pos I,yD];exact⟨ih _ _ _ _ a1 J,a2⟩
      ·refine .inr ⟨O,j,p.sub f x b,?_,?_⟩
       ·rw[om (by omega),oE,hj];rfl
       ·rw[if_neg I]at hs;unfold fvI;simp only[nU,oW];rw[if_neg I];exact ih p s x b hs J
theorem QH {f:Nat}(k:Int)(n:Nat)(fb:List ByteArray)(x:ByteArray):∀(l:List ByteArray)(s:ByteArray × ByteArray × Tm),x∉l->x∈s.2.2.fv->x∈(rns (Tm.sub f) k n fb x l s).2.2.fv
 | [],s,_,h=>h
 | old::l,s,J,h=>by
   refine QH k n fb x l _ (λhc=>J (by simp[hc])) ?_;unfold rn1;have I:x≠old:=λhc=>J (by simp[hc]);split
   ·split<;>exact Rj f _ _ _ _ h I
   ·exact h
theorem SC:∀(f:Nat)(t:Tm)(x:ByteArray)(b:Tm),t.dp<=f->x∈t.fv->b.sz<=(t.sub f x b).sz
 | 0,t,x,b,h,_=>absurd (Tm.dp_pos t) (by omega)
 | f + 1,.mk k nm ot n ty re l,x,b,hd,h=>by
   have ih:=SC f;rw[Tm.fv_mem]at h;simp only[Tm.dp]at hd;have ae:=λy hy=>wC.1 (mP hd) y hy;simp only[Tm.sub];split
   ·rename_i hk;rcases h with⟨_,h⟩ | ⟨h,_⟩
    ·rw[if_pos h.symm];exact oC _
    ·exact absurd hk h
   ·rename_i hk;obtain⟨j,p,U,hs⟩:∃(j:Nat) (y:Tm),l[j]?=some y/\x∈fvI (zN k l.length) (bdN k nm ot l.length) j y:=by
     rcases h with⟨h,_⟩ | ⟨_,h⟩
     ·exact absurd h hk
     ·exact h
    unfold fvI at hs;have J:=ae p (oB U);have fin:∀(aa ab:ByteArray) (l':List Tm) (y:Tm),l'[j]?=some y->b.sz<=y.sz->b.sz<=(Tm.mk k aa ab n ty re l').sz:=λaa ab l' y h1 h2=>by
     have:=vw (oB h1)
     simp only[Tm.sz];omega
    split
    ·rename_i hb;rw[if_neg (by omega)]at hs;exact fin _ _ _ (p.sub f x b) (by rw[oE,U];rfl) (ih p x b J hs)
    ·rename_i hb;obtain⟨g1,g2⟩:=yM hb;have ah:j<l.length:=(oD.1 U).1;have O:=zH g1;split
     ·rename_i hc;by_cases I:(j:Int)=zN k l.length
      ·exfalso;have:(zN k l.length).toNat=j:=by omega
       rw[this]at O hc;have Y:l.getD j tm0=p:=oT (O.symm.trans U);rw[if_pos I,yD]at hs;rw[Y]at hc;rcases hc with hc | hc
       ·exact hs.2 hc
       ·exact hc hs.1
      ·rw[if_neg I]at hs;exact fin _ _ _ (p.sub f x b) (by rw[om (by omega),oE,U];rfl) (ih p x b J hs)
     ·rename_i hc;by_cases I:(j:Int)=zN k l.length
      ·have ai:(zN k l.length).toNat=j:=by omega
       rw[ai]at O ⊢;have Y:l.getD j tm0=p:=oT (O.symm.trans U);rw[Y];rw[if_pos I,yD]at hs;have aj:=ut (yJ f) k l.length b.fv x (bdN k nm ot l.length) (nm,ot,p);have ac:=aj.d;refine fin _ _ _ _ (oi (by simpa using ah)) (ih _ x b (oL ac J) (QH _ _ _ _ _ _ hs.2 hs.1))
      ·rw[if_neg I]at hs;exact fin _ _ _ (p.sub f x b) (by rw[om (by omega),oE,U];rfl) (ih p x b J hs)
theorem Rg {k:Nat}(h:k<=999):Lib.decDigits k=(if k<10 then [UInt8.ofNat (48+k)]else if k<100 then [UInt8.ofNat (48+k / 10),UInt8.ofNat (48+k % 10)]else [UInt8.ofNat (48+k / 10 / 10),UInt8.ofNat (48+k / 10 % 10),UInt8.ofNat (48+k % 10)]):=by
 have e1:∀ u,u<10->Lib.decDigits u=[UInt8.ofNat (48+u)]:=λu h=>by rw[Lib.decDigits,dif_pos h]
 have J:∀ u,¬u<10->Lib.decDigits u=Lib.decDigits (u / 10)++[UInt8.ofNat (48+u % 10)]:=λu h=>by rw[Lib.decDigits,dif_neg h]
 split
 ·rename_i I;exact e1 k I
 ·rename_i I;rw[J k I];split
  ·rename_i O;rw[e1 _ (by omega)];rfl
  ·rename_i O;rw[J (k / 10) (by omega),e1 _ (by omega)];rfl
theorem SU:∀ a:_root_.Fin 10,yW ⟨#[118,UInt8.ofNat (48+a.val)]⟩=true:=by decide +kernel
theorem P5:∀ a b:_root_.Fin 10,yW ⟨#[118,UInt8.ofNat (48+a.val),UInt8.ofNat (48+b.val)]⟩=true:=by decide +kernel
theorem Qk:∀ a b c:_root_.Fin 10,yW ⟨#[118,UInt8.ofNat (48+a.val),UInt8.ofNat (48+b.val),UInt8.ofNat (48+c.val)]⟩=true:=by decide +kernel
theorem Tp {k:Nat}(h:k<=999):yW (tO k)=true:=by
 unfold tO;rw[Rg h];split
 ·rename_i I;exact SU ⟨k,I⟩
 ·split
  ·rename_i I J;exact P5 ⟨k / 10,by omega⟩ ⟨k % 10,by omega⟩
  ·rename_i I J;exact Qk ⟨k / 10 / 10,by omega⟩ ⟨k / 10 % 10,by omega⟩ ⟨k % 10,by omega⟩
theorem Dp {l:List ByteArray}(h:l.length<=998):yW (fresh l)=true:=by obtain⟨k,e,_,I,_,_⟩:=rR l;rw[e];exact Tp (by omega)
theorem Tm.vc_sz:∀ t:Tm,t.vc<=t.sz:=by
 refine Tm.ind λk nm ot n ty re l J=>?_;have key:∀ l:List Tm,(∀ t∈l,t.vc<=t.sz)->uB l<=yB l:=by
  intro l
  induction l with
  | nil=>intro _;exact oC _
  | cons t U I=>intro h;have Y:=h t (by simp);have h2:=I λx O=>h x (by simp[O]);simp only[uB,yB];omega
 have:=key l J
 simp only[Tm.vc,Tm.sz];split<;>omega
theorem Tm.ok_mk {k:Int}{nm ot:ByteArray}{n:Int}{ty re:Ty}{l:List Tm}:(Tm.mk k nm ot n ty re l).ok=true↔(∀ x∈l,x.ok=true)/\zK k nm ot n ty re=true/\(l.length:Int)=Cw k nm:=by simp only[Tm.ok,oG,Lz,nM]
theorem ME {s:ByteArray}(h:yW s=true):(xk s).ok=true:=by
 refine Tm.ok_mk.2 ⟨by simp,?_,rfl⟩;have:(Ty.mk 0 []).valid=false:=by decide +kernel
 simp[zK,sB,this,Ty.zero,Ty.k,Ty.as,inB,xY,h]
theorem Ku {k:Int}{nm ot I J:ByteArray}{n:Int}{ty re:Ty}{m:Nat}(hb:¬zN k m<0)(h:zK k nm ot n ty re=true)(U:yW I=true)(Y:k=9->yW J=true/\I≠J)(O:k≠9->J=ot):zK k I J n ty re=true/\(Cw k I=Cw k nm):=by
 have hk:k=6\/k=8\/k=9:=by
  rcases xT k m with h | ⟨_,_,h | h⟩ | ⟨_,_,h⟩
  ·omega
  ·exact .inl h
  ·exact .inr (.inr h)
  ·exact .inr (.inl h)
 rcases hk with rfl | rfl | rfl
 ·have O:=O (by decide);subst O;refine⟨?_,rfl⟩;simp only[zK,xY,oG]at h ⊢;simp[U]at h ⊢;exact⟨h.1,h.2.1,h.2.2.1,h.2.2.2.1,h.2.2.2.2.1,h.2.2.2.2.2.2⟩
 ·have O:=O (by decide);subst O;refine⟨?_,rfl⟩;simp only[zK,xY,oG]at h ⊢;simp[U]at h ⊢;exact⟨h.1,h.2.1,h.2.2.1,h.2.2.2.1,h.2.2.2.2.1,h.2.2.2.2.2.2⟩
 ·obtain⟨h4,h5⟩:=Y rfl;refine⟨?_,rfl⟩;simp only[zK,xY,oG]at h ⊢;simp[U,h4,h5]at h ⊢;exact⟨h.1,h.2.1,h.2.2.1,h.2.2.2.1⟩
theorem Ep {k:Int}{nm ot:ByteArray}{n:Int}{ty re:Ty}{m:Nat}(J:¬zN k m<0)(h:zK k nm ot n ty re=true):yW nm=true/\(k=9->yW ot=true/\nm≠ot):=by
 have I:k=6\/k=8\/k=9:=by
  rcases xT k m with h | ⟨_,_,h | h⟩ | ⟨_,_,h⟩
  ·omega
  ·exact .inl h
  ·exact .inr (.inr h)
  ·exact .inr (.inl h)
 rcases I with rfl | rfl | rfl
 ·simp only[zK,xY,oG]at h;refine⟨?_,λh=>absurd h (by decide)⟩;simp at h;exact h.2.2.2.2.2.1
 ·simp only[zK,xY,oG]at h;refine⟨?_,λh=>absurd h (by decide)⟩;simp at h;exact h.2.2.2.2.2.1
 ·simp only[zK,xY,oG]at h;simp at h;exact⟨h.2.2.2.2.1,λ_=>⟨h.2.2.2.2.2.1,h.2.2.2.2.2.2⟩⟩
theorem U7:∀(f:Nat) (e:Tm) (x:ByteArray) (b:Tm),e.dp<=f->e.ok=true->b.ok=true->(e.sub f x b).sz<=400->(e.sub f x b).ok=true
 | 0,e,x,b,h,_,_,_=>absurd (Tm.dp_pos e) (by omega)
 | f + 1, .mk k nm ot n ty re l,x,b,hd,he,hb,hs=>by
   have ih:=U7 f;obtain⟨h1,h2,h3⟩:=Tm.ok_mk.1 he;simp only[Tm.dp]at hd;have ae:=λy hy=>wC.1 (mP hd) y hy;simp only[Tm.sub]at hs ⊢;split
   ·rename_i hk;rw[if_pos hk]at hs;split
    ·exact hb
    ·exact he
   ·rename_i hk;rw[if_neg hk]at hs;split
    ·rename_i O;rw[if_pos O]at hs;refine Tm.ok_mk.2 ⟨λy hy=>?_,h2,by simpa using h3⟩;obtain⟨z,hz,rfl⟩:=oP.1 hy
     have:=vw hy
     simp only[Tm.sz]at hs;exact ih z x b (ae z hz) (h1 z hz) hb (by omega)
    ·rename_i O;rw[if_neg O]at hs;obtain⟨g1,g2⟩:=yM O;have ai:=zH g1;have U:=oB ai;generalize hp:l.getD (zN k l.length).toNat tm0=p at hs ai U ⊢;have parts:∀(v:Tm) (s:Nat),v.ok=true->yB ((l.map λt=>Tm.sub f t x b).set (zN k l.length).toNat v)<=400->∀ y∈(l.map λt=>Tm.sub f t x b).set (zN k l.length).toNat v,y.ok=true:=λv s hv hs y hy=>by
      have a7:=vw hy;rcases oe hy with hy | rfl
      ·obtain⟨z,hz,rfl⟩:=oP.1 hy;exact ih z x b (ae z hz) (h1 z hz) hb (by omega)
      ·exact hv
     split
     ·rename_i hc;rw[if_pos hc]at hs;simp only[Tm.sz]at hs;exact Tm.ok_mk.2 ⟨parts _ 0 (h1 p U) (by omega),h2,by simpa using h3⟩
     ·rename_i hc;rw[if_neg hc]at hs;have ao:x∉bdN k nm ot l.length:=λh=>hc (.inl h);have aq:x∈p.fv:=mO.1 λh=>hc (.inr h);have aj:=Wp p (h1 p U);have Y:=ae p U;obtain⟨n1,n2⟩:=Ep O h2;have ab:=ut (yJ f) k l.length b.fv x (bdN k nm ot l.length) (nm,ot,p);have ac:=ab.d;have au:=vw (oB (oi (l:=l.map λt=>Tm.sub f t x b) (i:=(zN k l.length).toNat) (a:=Tm.sub f (rns (Tm.sub f) k l.length b.fv x (bdN k nm ot l.length) (nm,ot,p)).2.2 x b) (by simpa using g1)));simp only[Tm.sz]at hs;have aw:=QH (f:=f) k l.length b.fv x (bdN k nm ot l.length) (nm,ot,p) ao aq;have a8:=SC f _ x b (oL ac Y) aw;have ba:=H2 f (rns (Tm.sub f) k l.length b.fv x (bdN k nm ot l.length) (nm,ot,p)).2.2 x b (ab.v aj);have bc:=Tm.fv_len b;have bg:=Tm.vc_sz b;have bh:b.fv.length<=400:=by omega
      have r1:∀(old:ByteArray) (st:ByteArray × ByteArray × Tm),old∈bdN k st.1 st.2.1 l.length->st.2.2.ok=true->st.2.2.dp<=f->(rn1 (Tm.sub f) k l.length b.fv x old st).2.2.sz<=400->yW st.1=true->(k=9->yW st.2.1=true/\st.1≠st.2.1) ->
        (rn1 (Tm.sub f) k l.length b.fv x old st).2.2.ok=true/\yW (rn1 (Tm.sub f) k l.length b.fv x old st).1=true/\(k=9->yW (rn1 (Tm.sub f) k l.length b.fv x old st).2.1=true/\(rn1 (Tm.sub f) k l.length b.fv x old st).1≠(rn1 (Tm.sub f) k l.length b.fv x old st).2.1)/\(k≠9->(rn1 (Tm.sub f) k l.length b.fv x old st).2.1=st.2.1):=λold st ho a1 a2 a3 a4 a5=>by
       have ak:=yb (b.fv++(st.2.2.fv++([x]++bdN k st.1 st.2.1 l.length)));unfold rn1 at a3 ⊢;split
       ·rename_i hold;rw[if_pos hold]at a3;have bi:st.2.2.sz<=400:=by
         split at a3
         ·exact oL (H2 f _ _ _ (Wp _ a1)) a3
         ·exact oL (H2 f _ _ _ (Wp _ a1)) a3
        have bj:=Tm.fv_len st.2.2;have bm:=Tm.vc_sz st.2.2;have bp:=qx k st.1 st.2.1 l.length;have aa:=Dp (l:=b.fv++(st.2.2.fv++([x]++bdN k st.1 st.2.1 l.length))) (by simp only[oJ,oO,oU];omega);generalize fresh (b.fv++(st.2.2.fv++([x]++bdN k st.1 st.2.1 l.length)))=w at ak aa a3 ⊢;have hw:w∉bdN k st.1 st.2.1 l.length:=λh=>ak (by simp[h]);split
        ·rename_i hq;rw[if_pos hq]at a3;refine⟨ih _ _ _ a2 a1 (ME aa) a3,aa,λh9=>⟨(a5 h9).1,λJ=>hw ?_⟩,λ_=>rfl⟩;subst h9;have h9:l.length=1:=by rcases xT 9 l.length with h | ⟨_,h,_⟩ | ⟨_,_,h⟩<;>first | exact h | omega
         have J:w=st.2.1:=J;rw[h9,J];simp[bdN]
        ·rename_i hq;rw[if_neg hq]at a3;have h9:k=9:=by
          unfold bdN at ho
          (repeat' split at ho)<;>simp_all
         subst h9;have ah:l.length=1:=by rcases xT 9 l.length with h | ⟨_,h,_⟩ | ⟨_,_,h⟩<;>first | exact h | omega
         refine⟨ih _ _ _ a2 a1 (ME aa) a3,a4,λ_=>⟨aa,λJ=>hw ?_⟩,λh=>absurd rfl h⟩;have J:st.1=w:=J;rw[ah,<-J];simp[bdN]
       ·exact⟨a1,a4,a5,λ_=>rfl⟩
      have al:∀(os:List ByteArray) (st:ByteArray × ByteArray × Tm),st.2.2.V->(rns (Tm.sub f) k l.length b.fv x os st).2.2.sz<=400->st.2.2.sz<=400:=λos st hv h=>oL (QS (λt x y h=>H2 f t x _ h) _ _ _ _ _ _ hv) h;have fin:(rns (Tm.sub f) k l.length b.fv x (bdN k nm ot l.length) (nm,ot,p)).2.2.ok=true/\yW (rns (Tm.sub f) k l.length b.fv x (bdN k nm ot l.length) (nm,ot,p)).1=true /\
        (k=9->yW (rns (Tm.sub f) k l.length b.fv x (bdN k nm ot l.length) (nm,ot,p)).2.1=true/\(rns (Tm.sub f) k l.length b.fv x (bdN k nm ot l.length) (nm,ot,p)).1≠(rns (Tm.sub f) k l.length b.fv x (bdN k nm ot l.length) (nm,ot,p)).2.1) /\
        (k≠9->(rns (Tm.sub f) k l.length b.fv x (bdN k nm ot l.length) (nm,ot,p)).2.1=ot):=by
       have I:(rns (Tm.sub f) k l.length b.fv x (bdN k nm ot l.length) (nm,ot,p)).2.2.sz<=400:=by omega
       have ax:bdN k nm ot l.length=[nm]\/(k=9/\l.length=1/\bdN k nm ot l.length=[nm,ot]):=by
        rcases xT k l.length with h | ⟨_,h,h | h⟩ | ⟨_,h,h'⟩
        ·omega
        ·left;subst h;rw[show l.length=1 from ‹_›];simp[bdN]
        ·right;subst h;rw[show l.length=1 from ‹_›];simp[bdN]
        ·left;subst h';rw[h];simp[bdN]
       rcases ax with e | ⟨am,ah,e⟩
       ·rw[e]at I ⊢;simp only[rns]at I ⊢;exact r1 nm (nm,ot,p) (by rw[e];simp) (h1 p U) Y I n1 n2
       ·rw[e]at I ⊢;simp only[rns]at I ⊢;have q1:=qm (yJ f) k l.length b.fv x nm (nm,ot,p);have q2:=al [ot] _ (q1.v aj) (by simpa only[rns]using I);obtain⟨b1,b2,b3,b4⟩:=r1 nm (nm,ot,p) (by rw[e];simp) (h1 p U) Y q2 n1 n2;have ay:=q1.d;have az:ot∈bdN k (rn1 (Tm.sub f) k l.length b.fv x nm (nm,ot,p)).1 (rn1 (Tm.sub f) k l.length b.fv x nm (nm,ot,p)).2.1 l.length:=by
         have:(rn1 (Tm.sub f) k l.length b.fv x nm (nm,ot,p)).2.1=ot:=by unfold rn1;simp only[mU];split<;>rfl
         rw[this,am,ah];simp[bdN]
        obtain⟨d1,d2,d3,d4⟩:=r1 ot _ az b1 (oL ay Y) I b2 b3;exact⟨d1,d2,d3,λh=>absurd am h⟩
      obtain⟨fa,a6,fc,fd⟩:=fin;obtain⟨u1,u2⟩:=Ku O h2 a6 fc fd;exact Tm.ok_mk.2 ⟨parts _ 0 (ih _ x b (oL ac Y) fa hb (by omega)) (by omega),u1,by rw[u2];simpa using h3⟩
theorem Tm.dp_mem {k:Int}{nm ot:ByteArray}{n:Int}{ty re:Ty}{l:List Tm}{y:Tm}(h:y∈l):y.dp+1<=(Tm.mk k nm ot n ty re l).dp:=by
 have:=wC.1 (oC (r8 l)) y h
 simp only[Tm.dp];omega
theorem Tm.sz_mem {k:Int}{nm ot:ByteArray}{n:Int}{ty re:Ty}{l:List Tm}{y:Tm}(h:y∈l):y.sz+1<=(Tm.mk k nm ot n ty re l).sz:=by
 have:=vw h
 simp only[Tm.sz];omega
theorem Q0 {e x:Tm}{i:Nat}(J:e.ok=true)(O:x.ok=true):(e.wth i x).ok=true:=by
 cases e with
 | mk k nm ot n ty re l=>
 obtain⟨U,Y,h3⟩:=Tm.ok_mk.1 J;refine Tm.ok_mk.2 ⟨λy I=>?_,Y,by simpa using h3⟩;rcases oe I with I | rfl
 ·exact U y I
 ·exact O
theorem Rf {k:Int}{nm ot:ByteArray}{n:Int}{ty re:Ty}{l:List Tm}{i:Nat}{x:Tm}(h:i<l.length):x.sz+1<=((Tm.mk k nm ot n ty re l).wth i x).sz:=by simp only[Tm.wth];exact Tm.sz_mem (oB (oi h))
theorem QB {e:Tm}{i:Nat}(I:e.ok=true)(hi:i<e.as.length):(e.pt i).ok=true:=by
 cases e with
 | mk k nm ot n ty re l=>exact(Tm.ok_mk.1 I).1 _ (zB hi)
theorem Q2 {k n:Int}(h:(k=2/\0<=n/\n<=10006)\/(k=3/\0<=n/\n<=1)):(Co k n).ok=true:=by
 have I:(Ty.mk 0 []).valid=false:=by decide +kernel
 rcases h with⟨rfl,h⟩ | ⟨rfl,h⟩
 ·refine Tm.ok_mk.2 ⟨by simp,?_,rfl⟩;simp[zK,sB,I,Ty.zero,Ty.k,Ty.as,inB,xY,h]
 ·refine Tm.ok_mk.2 ⟨by simp,?_,rfl⟩;simp[zK,sB,I,Ty.zero,Ty.k,Ty.as,inB,xY,h]
theorem Ue {x:Tm}(h:x.ok=true):(Tm.nod 10 [x]).ok=true:=by
 have I:(Ty.mk 0 []).valid=false:=by decide +kernel
 refine Tm.ok_mk.2 ⟨by simpa using h,?_,rfl⟩;simp[zK,sB,I,Ty.zero,Ty.k,Ty.as,inB,xY]
theorem UK {e b:Tm}{x:ByteArray}(I:e.ok=true)(J:b.ok=true)(h:(e.sb x b).sz<=400):(e.sb x b).ok=true:=U7 _ e x b (oC _) I J h
theorem XN {e:Tm}(O:e.ok=true)(hs:e.apl.1.sz<=400):e.apl.1.ok=true:=by
 cases e with
 | mk k nm ot n ty re l=>
 obtain⟨h1,h2,h3⟩:=Tm.ok_mk.1 O;obtain⟨a1,a2,a3,a4,a5⟩:=xq O;have g:∀ i,i<l.length->(l.getD i tm0).ok=true:=λi hi=>h1 _ (zB hi);simp only[Tm.apl]at hs ⊢;split
 ·rename_i I;unfold Tm.opr;split
  ·refine Q2 ?_;simp only[Tm.nm];have Y:=C3 nm (l.getD 0 tm0).no (l.getD 1 tm0).no;unfold w7;by_cases U:DE nm=true
   ·rw[if_pos U];exact .inl ⟨rfl,Y.1,Y.2⟩
   ·rw[if_neg U];simp only[DE,nI,o9,not_or]at U
    have:=qc U.1 U.2.1 U.2.2 (l.getD 0 tm0).no (l.getD 1 tm0).no
    exact .inr ⟨rfl,this.1,this.2⟩
  ·exact O
 ·rename_i ab;rw[if_neg ab]at hs;split
  ·rename_i I;split
   ·rename_i hb
    have:=BA (g 0 (by have:=a3 I;omega)) hb
    refine g _ ?_
    have:=a3 I
    omega
   ·exact O
  ·rename_i ac;rw[if_neg ac]at hs;split
   ·rename_i I;rw[if_pos I]at hs;have hl:=a2 (.inl I);have J:=g 0 (by omega);have q1:=g 1 (by omega);generalize l.getD 0 tm0=p at hs J ⊢;generalize l.getD 1 tm0=q at hs q1 ⊢;have hp:(p.kd=6\/p.kd=9)->(p.pt 0).ok=true:=λh=>by
     refine QB J ?_;cases p with
     | mk pk pn po pm pt pr pl=>
     have:=(xq J).1 (by simp only[Tm.kd]at h;omega)
     simp only[Tm.as];omega
    split
    ·rename_i h6;rw[if_pos h6]at hs;exact UK (hp (.inl h6)) q1 hs
    ·rename_i h6;rw[if_neg h6]at hs;split
     ·rename_i h9;rw[if_pos h9]at hs;have hV:=Sp (p.pt 0).dp (p.pt 0) p.nm p (Wp _ (hp (.inr h9))) (Wp _ J);have ae:=H2 ((p.pt 0).sb p.nm p).dp ((p.pt 0).sb p.nm p) p.ot q hV;exact UK (UK (hp (.inr h9)) J (oL ae hs)) q1 hs
     ·exact O
   ·rename_i ah;rw[if_neg ah]at hs;split
    ·rename_i I;rw[if_pos I]at hs;have hl:=a2 (.inr I);exact UK (g 1 (by omega)) (g 0 (by omega)) hs
    ·rename_i ai;split
     ·rename_i I;split
      ·rename_i aa;have J:=g 0 (by have:=a1 (by omega);omega);refine QB J ?_;generalize l.getD 0 tm0=p at J aa ⊢;cases p with
       | mk pk pn po pm pt pr pl=>
       have:=(xq J).1 (by simp only[Tm.kd]at aa;omega)
       simp only[Tm.as];omega
      ·exact O
     ·split
      ·rename_i I;split
       ·exact Ue (g 0 (by have:=a1 (by omega);omega))
       ·exact O
      ·exact O
theorem Ww {S:Tm->Tm × Int}{f:Nat}(hS:∀ x:Tm,x.dp<=f->x.ok=true->(S x).1.sz<=400->(S x).1.ok=true):∀(t:Tm)(m:Int),t.dp<=f+1->t.ok=true->(t.cod S m).1.sz<=400->(t.cod S m).1.ok=true:=by
 refine Tm.ind λk nm ot n ty re l ih m hd J hs=>?_;obtain⟨O,Y,h3⟩:=Tm.ok_mk.1 J;simp only[Tm.cod]at hs ⊢;split
 ·rename_i hk;rw[if_pos hk]at hs;have hl:=(xq J).1 (by omega);unfold Wm at hs ⊢;have U:((Tm.mk k nm ot n ty re l).pt 0).ok=true:=O _ (zB (by omega));have d0:((Tm.mk k nm ot n ty re l).pt 0).dp<=f:=by
   have:=Tm.dp_mem (k:=k) (nm:=nm) (ot:=ot) (n:=n) (ty:=ty) (re:=re) (zB (l:=l) (i:=0) (by omega))
   simp only[Tm.pt];omega
  generalize hp:(Tm.mk k nm ot n ty re l).pt 0=p at hs U d0 ⊢;split
  ·split
   ·rename_i aa;refine QB U ?_;cases p with
    | mk pk pn po pm pt pr pl=>
    have:=(xq U).1 (by simp only[Tm.kd]at aa;omega)
    simp only[Tm.as];omega
   ·exact J
  ·rename_i hr;rw[if_neg hr]at hs
   have:=Rf (k:=k) (nm:=nm) (ot:=ot) (n:=n) (ty:=ty) (re:=re) (l:=l) (i:=0) (x:=(S p).1) (by omega)
   exact Q0 J (hS p d0 U (by simp only at hs;omega))
 ·rename_i hk;rw[if_neg hk]at hs
  have key:∀(xs:List Tm),(∀ x∈xs,x∈l)->∀ l' r,yQ S xs (zf k m)=some (l',r)->yB l'<=400->l'.length=xs.length/\∀ x∈l',x.ok=true:=by
   intro xs
   induction xs with
   | nil=>intro _ l' r h;simp[yQ]at h
   | cons x xs ab=>
     intro hm l' r h hs;have I:=hm x (by simp);simp only[yQ]at h;split at h
     ·cases h;simp only[yB]at hs;refine⟨by simp,λy hy=>?_⟩;rcases oF.1 hy with rfl | hy
      ·have ac:=Tm.dp_mem (k:=k) (nm:=nm) (ot:=ot) (n:=n) (ty:=ty) (re:=re) I;exact ih x I _ (by omega) (O x I) (by omega)
      ·exact O y (hm y (by simp[hy]))
     ·split at h
      ·cases h
      ·rename_i l2 r2 Y;cases h;simp only[yB]at hs;obtain⟨b1,b2⟩:=ab (λy hy=>hm y (by simp[hy])) _ _ Y (by omega);refine⟨by simp[b1],λy hy=>?_⟩;rcases oF.1 hy with rfl | hy
       ·exact O y I
       ·exact b2 y hy
  cases hc:yQ S l (zf k m)with
  | none=>exact J
  | some p=>obtain⟨l',r⟩:=p;rw[hc]at hs;simp only[Tm.sz]at hs;obtain⟨b1,b2⟩:=key l (λx I=>I) l' r hc (by omega);exact Tm.ok_mk.2 ⟨b2,Y,by rw[b1];exact h3⟩
theorem FV:∀(f:Nat) (e:Tm),e.dp<=f->e.ok=true->(e.stp f).1.sz<=400->(e.stp f).1.ok=true
 | 0,e,h,_,_=>absurd (Tm.dp_pos e) (by omega)
 | f + 1,.mk k nm ot n ty re l,hd,I,hs=>by
   have ih:=FV f;obtain⟨h1,h2,h3⟩:=Tm.ok_mk.1 I;simp only[Tm.stp]at hs ⊢;split
   ·exact I
   ·rename_i hr;rw[if_neg hr]at hs;split
    ·rename_i J;rw[if_pos J]at hs;have J:k=10:=J;have hl:=(xq I).1 (by omega);have O:=zB (l:=l) (i:=0) (by omega);have aa:=Tm.dp_mem (k:=k) (nm:=nm) (ot:=ot) (n:=n) (ty:=ty) (re:=re) O
     have:=Rf (k:=k) (nm:=nm) (ot:=ot) (n:=n) (ty:=ty) (re:=re) (l:=l) (i:=0) (x:=(Tm.cod (Tm.stp f) ((Tm.mk k nm ot n ty re l).pt 0) 1).1) (by omega)
     exact Q0 I (Ww ih _ 1 (by simp only[Tm.pt];omega) (h1 _ O) (by simp only at hs;omega))
    ·rename_i J;rw[if_neg J]at hs;cases hg:goS (Tm.stp f) (Tm.mk k nm ot n ty re l) (l.take (vn k l.length)) 0 with
     | none=>rw[hg]at hs;exact XN I hs
     | some r=>
       rw[hg]at hs;obtain⟨j,x,Y,g2,rfl⟩:=sJ hg;have U:l[j]?=some x:=by
        rw[oc]at Y;split at Y
        ·exact Y
        ·cases Y
       have O:=oB U;have aa:=Tm.dp_mem (k:=k) (nm:=nm) (ot:=ot) (n:=n) (ty:=ty) (re:=re) O;simp only[ow]at hs ⊢
       have:=Rf (k:=k) (nm:=nm) (ot:=ot) (n:=n) (ty:=ty) (re:=re) (l:=l) (i:=j) (x:=(Tm.stp f x).1) (oD.1 U).1
       exact Q0 I (ih x (by omega) (h1 x O) (by omega))
theorem FM {g:Tm->Tm}{m:Nat}:∀ {l:List Tm},(∀ t∈l,(g t).sz<=t.sz*m)->yB (l.map g)<=yB l*m
 | [],_=>by simp[yB]
 | t::l,h=>by have J:=FM (l:=l) λx I=>h x (by simp[I]);have O:=h t (by simp);simp only[oh,yB,nD];omega
theorem DC {g:Tm->Tm}{m:Nat}{v:Tm}:∀ {l:List Tm}{j:Nat},(∀ t∈l,(g t).sz<=t.sz*m)->(∀ t,l[j]?=some t->v.sz<=t.sz*m)->yB ((l.map g).set j v)<=yB l*m
 | [],_,_,_=>by simp[yB]
 | t::l,0,h,J=>by have O:=FM (l:=l) λx I=>h x (by simp[I]);have U:=J t rfl;simp only[oh,mT,yB,nD];omega
 | t::l,j+1,h,J=>by have O:=DC (l:=l) (j:=j) (v:=v) (λx I=>h x (by simp[I])) λx I=>J x (by simpa using I);have U:=h t (by simp);simp only[oh,ma,yB,nD];omega
theorem QD:∀(f:Nat)(t:Tm)(x:ByteArray)(b:Tm),(t.sub f x b).sz<=t.sz*(b.sz+1)
 | 0,t,x,b=>by simp only[Tm.sub];exact mL _ (by omega)
 | f + 1,.mk k nm ot n ty re l,x,b=>by
   have J:=QD f;have one:∀ m:Nat,m<=yB l*(b.sz+1)->1+m<=(1+yB l)*(b.sz+1):=λm h=>by rw[nD];omega
   simp only[Tm.sub];split
   ·split
    ·simp only[Tm.sz];rw[nD];omega
    ·exact mL _ (by omega)
   ·split
    ·simp only[Tm.sz];exact one _ (FM λt _=>J t x b)
    ·rename_i O;obtain⟨U,Y⟩:=yM O;split
     ·simp only[Tm.sz];refine one _ (DC (λt _=>J t x b) λt I=>?_);rw[zH U]at I;rw[<-oT I];exact mL _ (by omega)
     ·simp only[Tm.sz];refine one _ (DC (λt _=>J t x b) λt I=>?_);rw[zH U]at I;rw[<-oT I];exact oL (J _ x b) (od _ (ut (yJ f) _ _ _ _ _ _).s)
theorem Bi {x:Tm}:∀ {l:List Tm}{i:Nat},i<l.length->yB (l.set i x)+(l.getD i tm0).sz=yB l+x.sz
 | t::l,0,_=>by simp only[mT,yB,lB];omega
 | t::l,i+1,h=>by
   have:=Bi (x:=x) (l:=l) (i:=i) (by simpa using h)
   simp only[ma,yB,lC];omega
theorem Ox {e:Tm}{i:Nat}:(e.pt i).sz<=e.sz:=by
 cases e with
 | mk k nm ot n ty re l=>
 simp only[Tm.pt];by_cases h:i<l.length
 ·have:=Tm.sz_mem (k:=k) (nm:=nm) (ot:=ot) (n:=n) (ty:=ty) (re:=re) (zB h);omega
 ·rw[oA,oS (by omega)];simp only[Option.getD_none,tm0,Tm.sz,yB];omega
theorem Xb (e:Tm)(h:e.sz<=400):e.apl.1.sz<=e.sz+64481600:=by
 have I:∀(t b:Tm) (x:ByteArray) (m:Nat),t.sz<=m->b.sz<=400->(t.sb x b).sz<=m*401:=λt b x m Y h2=>oL (QD _ t x b) (Nat.mul_le_mul Y (by omega));cases e with
 | mk k nm ot n ty re l=>
 have g:∀ i,(l.getD i tm0).sz<=400:=λi=>oL (Ox (e:=.mk k nm ot n ty re l)) h;have gp:∀ i j,((l.getD i tm0).pt j).sz<=400:=λi j=>oL Ox (g i);have U:=g 0;have O:=g 1;have J:=gp 0 0;simp only[Tm.apl,Tm.opr];have k1:=I ((l.getD 0 tm0).pt 0) (l.getD 1 tm0) (l.getD 0 tm0).nm 400 J O;have k2:=I ((l.getD 0 tm0).pt 0) (l.getD 0 tm0) (l.getD 0 tm0).nm 400 J U;have k3:=I _ (l.getD 1 tm0) (l.getD 0 tm0).ot _ k2 O;have k4:=I (l.getD 1 tm0) (l.getD 0 tm0) nm 400 O U;have k5:=g (2 - (l.getD 0 tm0).no).toNat
 (repeat' split)<;>first | (simp only;omega) | (simp only[Co,Tm.nod,Tm.sz,yB];omega)
theorem YU {S:Tm->Tm × Int}(Y:∀ x:Tm,x.sz<=400->(S x).1.sz<=x.sz+64481600):∀(t:Tm)(m:Int),t.sz<=400->(t.cod S m).1.sz<=t.sz+64481600:=by
 refine Tm.ind λk nm ot n ty re l ih m hs=>?_;simp only[Tm.cod];split
 ·unfold Wm;split
  ·split
   ·have h1:=Ox (e:=(Tm.mk k nm ot n ty re l).pt 0) (i:=0);have I:=Ox (e:=Tm.mk k nm ot n ty re l) (i:=0);simp only;omega
   ·simp only;omega
  ·have I:=Ox (e:=Tm.mk k nm ot n ty re l) (i:=0);have h3:=Y _ (oL I hs);simp only[Tm.wth,Tm.pt]at h3 ⊢;by_cases h:0<l.length
   ·have:=Bi (x:=(S (l.getD 0 tm0)).1) h
    simp only[Tm.sz]at hs ⊢;omega
   ·rw[lD (by omega)];omega
 ·have key:∀(xs:List Tm),(∀ x∈xs,x∈l)->∀ l' r,yQ S xs (zf k m)=some (l',r)->yB l'<=yB xs+64481600:=by
   intro xs
   induction xs with
   | nil=>intro _ l' r h;simp[yQ]at h
   | cons x xs O=>
     intro U l' r h;have J:=U x (by simp);simp only[yQ]at h;split at h
     ·cases h
      have:=ih x J (zf k m) (by have:=Tm.sz_mem (k:=k) (nm:=nm) (ot:=ot) (n:=n) (ty:=ty) (re:=re) J;omega)
      simp only[yB];omega
     ·split at h
      ·cases h
      ·rename_i l2 r2 I;cases h
       have:=O (λy hy=>U y (by simp[hy])) _ _ I
       simp only[yB];omega
  cases hc:yQ S l (zf k m)with
  | none=>simp only;omega
  | some p=>
    obtain⟨l',r⟩:=p
    have:=key l (λx J=>J) l' r hc
    simp only[Tm.sz];omega
theorem U0:∀(f:Nat) (e:Tm),e.sz<=400->(e.stp f).1.sz<=e.sz+64481600
 | 0,e,_=>by simp only[Tm.stp];omega
 | f + 1,.mk k nm ot n ty re l,hs=>by
   have O:=U0 f;simp only[Tm.stp];split
   ·simp only;omega
   ·by_cases U:(Tm.mk k nm ot n ty re l).kd=10
    ·rw[if_pos U];have h2:=Ox (e:=Tm.mk k nm ot n ty re l) (i:=0);have Y:=YU O ((Tm.mk k nm ot n ty re l).pt 0) 1 (oL h2 hs);simp only[Tm.wth,Tm.pt]at Y ⊢;by_cases h:0<l.length
     ·have:=Bi (x:=((l.getD 0 tm0).cod (Tm.stp f) 1).1) h
      simp only[Tm.sz]at hs ⊢;omega
     ·rw[lD (by omega)];omega
    ·rw [if_neg U];cases hg:goS (Tm.stp f) (Tm.mk k nm ot n ty re l) (l.take (vn k l.length)) 0 with
     | none=>exact Xb _ hs
     | some r=>
       obtain⟨j,x,J,g2,rfl⟩:=sJ hg;have I:l[j]?=some x:=by
        rw[oc]at J;split at J
        ·exact J
        ·cases J
       have hj:=(oD.1 I).1;have Y:=O x (by have:=Tm.sz_mem (k:=k) (nm:=nm) (ot:=ot) (n:=n) (ty:=ty) (re:=re) (oB I);omega);have h4:=Bi (x:=(Tm.stp f x).1) hj;have h5:l.getD j tm0=x:=by rw[oA,I];rfl
       rw[h5]at h4;simp only[ow,Tm.wth,Tm.sz]at hs ⊢;omega
def sx:Nat->Nat->Tm->(Int × Tm × Nat) × List Int
 | 0,n,x=>if x.sz>400 then((3,tm0,n),[])else if x.res then((1,x,n),[])else((2,x,n),[])
 | m+1,n,x=>if x.sz>400 then((3,tm0,n),[])else if x.res then((1,x,n),[])else if(x.stp x.dp).2=0 then((4,x,n),[])
   else((sx m (n+1) (x.stp x.dp).1).1,(x.stp x.dp).2::(sx m (n+1) (x.stp x.dp).1).2)
def xX (e:Tm)(fuel:Int):Int × Tm × Nat:=if(BF e 0&&inB fuel 0 200)=true then(sx fuel.toNat 0 e).1 else(0,tm0,0)
theorem Ra:∀(m n:Nat)(x:Tm),n<=(sx m n x).1.2.2/\(sx m n x).1.2.2<=n+m
 | 0,n,x=>by simp only[sx];(repeat' split)<;>simp
 | m+1,n,x=>by
   have:=Ra m (n+1) (x.stp x.dp).1
   simp only[sx];(repeat' split)<;>simp<;>omega
theorem C5:∀(t:Tm)(d:D),t.Is d->t.sz<=9223372036854775807->Dx 14 [.dg 9 d] t.sz:=by
 refine Tm.ind λk nm ot n0 ty re l ih d hd hc N Q hQ=>?_;obtain⟨t0,t1,r0,r1,a,es,c,rfl,hh,J,O⟩:=Tm.is_mk.1 hd;simp only[Tm.sz]at hc;refine Bg N _ Q λ_=>?_;refine up O J (λi xs=>∀(m:Nat) (N':Nat),N<=N'->m+yB xs=1+yB l->xt Q N m i (.ag [.j k,.t nm,.t ot,.j n0,t0,t1,r0,r1,.sl a 9 es c]) N') ?_ ?_ 1 N (oC _) rfl
 ·intro i U _ m N' Y hm;refine w9 ⟨_,_,_,rfl,?_⟩;simp only[yB]at hm;rw[U];exact λN2 aa=>Qi (hQ _ (by omega)) (by simp only[Tm.sz];omega)
 ·intro i x xs I _ ab m N' Y hm;have hb:=I.b;have ac:=vw I.m;simp only[yB]at hm;refine w9 ⟨_,_,_,rfl,?_⟩;rw[I.lt,I.w,oH];refine⟨_,_,_,rfl,⟨by omega,by omega⟩,λN1 ae=>ih x I.m _ I.r (by omega) N1 _ λN2 aa _=>?_⟩;rw[i64_in _ (by omega)]
  have:=ab (m+x.sz) N2 (by omega) (by omega)
  simpa using this
theorem YQ:∀ t:Tm,t.ok=true->t.cnt<=61*t.sz:=by
 refine Tm.ind λk nm ot n ty re l ih h=>?_;obtain⟨h1,I,h3⟩:=Tm.ok_mk.1 h;have Y:∀ t:Ty,t.zero=true->t.cnt<=30:=λt J=>by
  cases t with
  | mk k l=>
  simp only[Ty.zero,Ty.k,Ty.as,oG,nM]at J;have:l=[]:=oM (by omega);subst this;simp[Ty.cnt,zL]
 have v1:∀ t:Ty,t.valid=true->t.cnt<=30:=λt J=>by simp only[Ty.valid,oG,o9]at J;exact J.1.1
 simp only[zK,oG,nM,nI]at I;have aa:ty.cnt<=30:=by
  rcases I.2.1 with h | h
  ·exact v1 _ (by rw[<-I.1,h])
  ·exact Y _ h
 have ab:re.cnt<=30:=by
  rcases I.2.2.2.1 with h | h
  ·exact v1 _ (by rw[<-I.2.2.1];simpa using h)
  ·exact Y _ h
 have key:∀ xs:List Tm,(∀ x∈xs,x∈l)->zj xs<=61*yB xs:=by
  intro xs
  induction xs with
  | nil=>intro _;exact oC _
  | cons x xs O=>intro U;have a1:=ih x (U x (by simp)) (h1 x (U x (by simp)));have a2:=O λy hy=>U y (by simp[hy]);simp only[zj,yB];omega
 have:=key l λx hx=>hx
 simp only[Tm.cnt,Tm.sz];omega
structure Rch (x:Tm):Prop where
 g:x.G
 s:x.sz<=64482000
 o:x.sz<=400->x.ok=true
theorem Rch.F {x:Tm}(h:Rch x)(hs:x.sz<=400):x.F x.dp:=Tm.F.of (h.o hs) (oC _) (by have:=YQ x (h.o hs);omega)
theorem Rch.step {x:Tm}(h:Rch x)(hs:x.sz<=400):Rch (x.stp x.dp).1:=⟨W6 _ _ h.g,by have:=U0 x.dp x hs;omega,λI=>FV _ x (oC _) (h.o hs) I⟩
theorem Rch.of {e:Tm}(I:e.ok=true)(J:e.cnt<=4000000):Rch e:=⟨Tm.G_cnt e (by omega),by have:=Tm.sz_cnt e;omega,λ_=>I⟩
def Xz (r:Int × Tm × Nat)(d:D):Prop:=∃ cs,d=.ag (.j r.1::(cs++[.j (r.2.2:Nat)]))/\r.2.1.Is (.ag cs)
theorem A7 (m n:Nat)(x:Tm):sx m n x=if x.sz>400 then((3,tm0,n),[])else if x.res then((1,x,n),[])else match m with
  | 0=>((2,x,n),[])
  | m+1=>if(x.stp x.dp).2=0 then((4,x,n),[])else((sx m (n+1) (x.stp x.dp).1).1,(x.stp x.dp).2::(sx m (n+1) (x.stp x.dp).1).2):=by
 cases m<;>rfl
theorem NJ {s:Int} {k n0:Int} {nm ot:ByteArray} {ty re:Ty} {l:List Tm} {n:Nat} {I J O U Y y5 y6 y7 y8:D} (h:(Tm.mk k nm ot n0 ty re l).Is (.ag [I,J,O,U,Y,y5,y6,y7,y8])) :
 Xz (s,Tm.mk k nm ot n0 ty re l,n) (.ag [.j s,I,J,O,U,Y,y5,y6,y7,y8,.j (n:Nat)]):=⟨_,rfl,h⟩
theorem XT {s:Int}{n:Nat}:Xz (s,tm0,n) (.ag [.j s,.j 0,.t (bytes []),.t (bytes []),.j 0,.j 0,.sl none 2 [] 0,.j 0,.sl none 2 [] 0,.sl none 9 [] 0,.j (n:Nat)]):=⟨_,rfl,Ui⟩
theorem Fresh.mono {N0 N1 N M:Nat}{a:Option Addr}{ds:List D}(h:Fresh N0 N a ds)(J:N1<=N0)(O:N<=M):Fresh N1 M a ds:=
 ⟨λad I=>oL J (h.lo ad I),λad I=>nN (h.hi ad I) O,h.off,h.ap⟩
theorem Rs.cells {r:Int × Tm × Nat}{d:D}(h:Xz r d):∃ J O U Y y4 y5 y6 y7 y8,d=.ag [.j r.1,J,O,U,Y,y4,y5,y6,y7,y8,.j (r.2.2:Nat)]/\r.2.1.Is (.ag [J,O,U,Y,y4,y5,y6,y7,y8]):=by
 obtain⟨cs,rfl,h⟩:=h;obtain⟨s,t,n⟩:=r;cases t with
 | mk k nm ot n0 ty re l=>
 obtain⟨t0,t1,r0,r1,a,es,c,I,hh,aa,ab⟩:=Tm.is_mk.1 h;injection I with I
 subst I;exact⟨_,_,_,_,_,_,_,_,_,rfl,h⟩
theorem uH {e:Tm}{d:D}(he:e.Is d)(hc:e.cnt<=4000000)(fu:Int)(N:Nat)(Q:QT [.ag 11])(O:∀ d N',N<=N'->Xz (xX e fu) d->Q d N'):ACalls prog 17 [.ag 11] [.dg 9 d,.j fu] N Q:=by
 have hG:=Tm.G_cnt e (by omega);unfold xX at O;refine G2 N _ fu Q λ_ N1 ai=>GH e d he (by omega) 0 N1 _ λN2 aj _=>Br.not (λhv N3 ac=>?_) λhv N4 ak=>yx _ _ _ N4 _ λN5 al _=>Br.not (λhb N6 ae=>?_) λhb N7 am=>?_
 ·rw[if_neg (by rw[hv];simp)]at O;exact O _ _ (by omega) XT
 ·rw[if_neg (by rw[hv,hb];decide)]at O;exact O _ _ (by omega) XT
 rw[if_pos (by rw[hv,hb];rfl)]at O;have bq:=zw.1 hb;have aw:e.ok=true:=by unfold BF at hv;simp at hv;exact hv.1
 have hR:=Rch.of aw hc;refine wr e d he hG N7 _ ?_;obtain⟨F,rfl⟩:∃ F:Nat,fu=(F:Int):=⟨fu.toNat,by omega⟩
 rw[oH]at O
 have rest:∀(m n:Nat) (x:Tm) (dx:D) (N':Nat),N<=N'->n+m=F->Rch x->x.Is dx->(∀ d N',N<=N'->Xz (sx m n x).1 d->Q d N')->xN Q N (F:Nat) n 0 0 (bytes []) (bytes []) 0 0 none [] 0 0 none [] 0 none [] 0 0 dx N':=by
  intro m
  induction m with
  | zero=>
    intro n x dx N' ax hn hx I J;rw[A7]at J;have ao:=hx.s;refine tz λN1 ai=>C5 x dx I (by omega) N1 _ λN2 aj _=>Br.dec (λh4 N3 ac=>?_) λh4 N4 ak=>?_
    ·rw[if_pos (by omega)]at J;exact J _ _ (by omega) XT
    ·rw[if_neg (by omega)]at J;have hF:=hx.F (by omega);refine zo I hF.ok hF.dp N4 _ λN5 al _=>Br.of (λU N6 ae=>?_) λU=>Br.beq (λ_ N7 am=>?_) λaa=>absurd (by omega) aa
     ·rw[if_pos U]at J;cases x with
      | mk k nm ot n0 ty re l=>
      obtain⟨t0,t1,r0,r1,a,es,c,rfl,hh,Y,ah⟩:=Tm.is_mk.1 I;exact J _ _ (by omega) (NJ I)
     ·rw[if_neg (by rw[U];decide)]at J;cases x with
      | mk k nm ot n0 ty re l=>
      obtain⟨t0,t1,r0,r1,a,es,c,rfl,hh,Y,ah⟩:=Tm.is_mk.1 I;exact J _ _ (by omega) (NJ I)
  | succ m ih=>
    intro n x dx N' ax hn hx I J;rw[A7]at J;have ao:=hx.s;refine tz λN1 ai=>C5 x dx I (by omega) N1 _ λN2 aj _=>Br.dec (λh4 N3 ac=>?_) λh4 N4 ak=>?_
    ·rw[if_pos (by omega)]at J;exact J _ _ (by omega) XT
    ·rw[if_neg (by omega)]at J;have hF:=hx.F (by omega);refine zo I hF.ok hF.dp N4 _ λN5 al _=>Br.of (λU N6 ae=>?_) λU=>Br.beq (λaa=>absurd aa (by omega)) λ_ N8 ay=>?_
     ·rw[if_pos U]at J;cases x with
      | mk k nm ot n0 ty re l=>
      obtain⟨t0,t1,r0,r1,a,es,c,rfl,hh,Y,ah⟩:=Tm.is_mk.1 I;exact J _ _ (by omega) (NJ I)
     ·rw[if_neg (by rw[U];decide)]at J;refine FL _ _ _ I hF N8 _ λdy N9 az hy _ _=>Br.beq (λh0 aq au=>?_) λh0=>?_
      ·simp only at J;rw[if_pos h0]at J;cases x with
       | mk k nm ot n0 ty re l=>
       obtain⟨t0,t1,r0,r1,a,es,c,rfl,hh,Y,ah⟩:=Tm.is_mk.1 I;exact J _ _ (by omega) (NJ I)
      ·simp only at J;rw[if_neg h0]at J;rw[i64_in _ (by omega)]
       have:=ih (n+1) _ dy N9 (by omega) (by omega) (hx.step (by omega)) hy J
       simpa using this
 cases e with
 | mk k nm ot n0 ty re l=>
 intro x4 x5 x6 x7 a6 c' N8 ay a7 ab bt _ _;have bv:=ab.len;have bw:=hG.2.2.1;have ao:=hR.s;refine Ed ⟨⟨rfl,rfl⟩,⟨rfl,rfl⟩,λa1 N9 az _ aq au=>?_⟩;have I:(Tm.mk k nm ot n0 ty re l).Is (.ag [.j k,.t nm,.t ot,.j n0,x4,x5,x6,x7,.sl a1 9 a6 c']):=Tm.is_mk.2 ⟨_,_,_,_,_,_,_,rfl,a7,by omega,ab⟩;rw[A7]at O;refine C5 _ _ I (by omega) aq _ λbz bg _=>Br.dec (λh4 N3 ac=>?_) λh4 a8 bh=>?_
 ·rw[if_pos (by omega)]at O;exact O _ _ (by omega) XT
 rw[if_neg (by omega)]at O;have hF:=hR.F (by omega);refine zo I hF.ok hF.dp a8 _ λb1 bi _=>Br.of (λU N6 ae=>?_) λU=>Br.beq (λh0 N7 am=>?_) λaa ba bj=>?_
 ·rw[if_pos U]at O;exact O _ _ (by omega) (NJ I)
 ·rw[if_neg (by rw[U];decide)]at O;have:F=0:=by omega
  subst this;exact O _ _ (by omega) (NJ I)
 ·rw[if_neg (by rw[U];decide)]at O;obtain⟨m,rfl⟩:∃ m,F=m+1:=⟨F - 1,by omega⟩
  simp only at O;refine FL _ _ _ I hF ba _ λdy bc bm hy _ _=>Br.beq (λh0 b2 bp=>?_) λh0=>?_
  ·rw[if_pos h0]at O;exact O _ _ (by omega) (NJ I)
  ·rw[if_neg h0]at O;rw[i64_in _ (by omega)];exact rest m 1 _ dy bc (by omega) (by omega) (hR.step (by omega)) hy O
end Go.Proofs.YtligajflgjpdnaaGreatDoor
