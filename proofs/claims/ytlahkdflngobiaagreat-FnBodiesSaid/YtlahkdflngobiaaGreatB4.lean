/- What is left of a body: what it is. -/
import Derived.Test.YtlahkdflngobiaaGreatB2
import Derived.Test.YtlahkdflngobiaaGreatB3
import Derived.Test.YtlahkdflngobiaaGreatKu
set_option linter.unusedVariables false
set_option linter.unusedSimpArgs false
namespace Go.Proofs.YtlahkdflngobiaaGreat
open Go Go.Proofs Go.Proofs.Tryz Go.IntWalk
def zHc (t:Ty) (n:Int):Tm:=.mk (if t.k=2 then 3 else 2) (bytes []) (bytes []) n (.mk 0 []) (.mk 0 []) []
theorem zL2 (t:Ty) (n:Int):(zHc t n).cnt=3:=by simp only [zHc,Tm.cnt,Ty.cnt,zJ,zR]
theorem zI6 (k n:Int):(Tm.mk k (bytes []) (bytes []) n (.mk 0 []) (.mk 0 []) []).Is (.ag [.j k,.t (bytes []),.t (bytes []),.j n,.j 0,.sl none 2 [] 0,.j 0,.sl none 2 [] 0,.sl none 9 [] 0]):=
 Tm.is_mk.2 ⟨_,_,_,_,_,_,_,rfl,⟨by decide,by decide,xP _,xP _⟩,by simp,rfl⟩
theorem zDc {N N':Nat} (k n:Int):Own N N' (.ag [.j k,.t (bytes []),.t (bytes []),.j n,.j 0,.sl none 2 [] 0,.j 0,.sl none 2 [] 0,.sl none 9 [] 0]):=
 sB (zH (zH (zH (zH (zH (zHo (zH (zHo (yA ⟨by simp [D.foot,zD],⟨by simp,trivial⟩,by simp [D.foot,zD],by simp [D.foot,zD]⟩))))))))) 
theorem zRK {t:Ty} {n:Int} (h:t.k=2):zHc t n=.mk 3 (bytes []) (bytes []) n (.mk 0 []) (.mk 0 []) []:=by unfold zHc;rw [if_pos h]
theorem zRJ {t:Ty} {n:Int} (h:¬t.k=2):zHc t n=.mk 2 (bytes []) (bytes []) n (.mk 0 []) (.mk 0 []) []:=by unfold zHc;rw [if_neg h]
theorem qA:∀ {u v:List D},xD (u++v)->xD u/\xD v
 | [],v,h=>⟨trivial,h⟩
 | y::u,v,h=>by obtain ⟨I,J⟩:=qA (u:=u) h.2;exact ⟨⟨h.1,I⟩,J⟩
/-- a row of one's own behind the other cells -/
theorem zO4 {N0 N1 N3:Nat} {hd es ds:List D} {a:Option Addr} {z c:Nat} (h:OwnL N0 N1 (hd++es)) (J:Fresh N0 N3 a (.ag es::(hd++ds))) (hN:N1<=N3):OwnL N0 N3 (hd++[.sl a z es c]):=by
 obtain ⟨f1,f2⟩:=qA h.fl
 have U:=h.nd
 rw [zB,nN] at U
 have e:zD (hd++[D.sl a z es c])=zD hd++(D.sl a z es c).foot:=by simp only [zB,zD,nR]
 have hE:∀ ad,a=some ad->ad.block∉zD es:=λad h=>J.ap ad h (.ag es) (by simp)
 have hH:∀ ad,a=some ad->ad.block∉zD hd:=λad h hc=>by
  obtain ⟨d,Y,hb⟩:=zL.1 hc
  exact J.ap ad h d (by simp [Y]) hb
 refine ⟨?_,yZ f1 ⟨⟨λad h=>J.off ad h,f2⟩,trivial⟩,λb hb=>?_,λb hb=>?_⟩
 ·rw [e,nN]
  refine ⟨U.1,zG0 U.2.1 hE,λx hx y hy aa=>?_⟩
  subst aa
  rcases xJ x hy with I | ⟨ad,I,O⟩
  ·exact U.2.2 x hx x I rfl
  ·subst O;exact hH ad I hx
 ·rw [e] at hb
  rcases oK.1 hb with hb | hb
  ·exact h.lo b (by rw [zB];exact oi _ hb)
  ·rcases xJ b hb with I | ⟨ad,I,O⟩
   ·exact h.lo b (by rw [zB];exact nK _ I)
   ·subst O;exact J.lo ad I
 ·rw [e] at hb
  rcases oK.1 hb with hb | hb
  ·have:=h.hi b (by rw [zB];exact oi _ hb);omega
  ·rcases xJ b hb with I | ⟨ad,I,O⟩
   ·have:=h.hi b (by rw [zB];exact nK _ I);omega
   ·subst O;exact J.hi ad I
theorem zBm {t:Ty} {d:D} (hd:t.Is d) (n:Int):Cop 46 9 [.dg 2 d,.j n] (zHc t n).Is:=λN Q I=>by
 obtain ⟨kk,l⟩:=t
 obtain ⟨a,es,c,rfl,Y,aa⟩:=Ty.is_mk.1 hd
 refine zB4 N _ n Q λ_=>⟨_,rfl,Br.beq (λh N1 J=>?_) λh N1 J=>?_⟩
 ·rw [zRK (t:=.mk kk l) h] at I
  exact sc N1 n _ λN2 O _ _ N3 U=>I _ _ (by omega) (zI6 _ _) (zDc _ _)
 ·rw [zRJ (t:=.mk kk l) h] at I
  exact rd N1 n _ λN2 O _ _ N3 U=>I _ _ (by omega) (zI6 _ _) (zDc _ _)
theorem Fresh.mono {N0 N1 N M:Nat} {a:Option Addr} {ds:List D} (h:Fresh N0 N a ds) (J:N1<=N0) (O:N<=M):Fresh N1 M a ds:=
 ⟨λad I=>oR J (h.lo ad I),λad I=>o9 (h.hi ad I) O,h.off,h.ap⟩
theorem zQJ (t:Ty) (n:Int):Cop 80 9 [.j n,.bool (t.k==2)] (zHc t n).Is:=λN Q I=>by
 refine zFT N n _ Q (Br.beq (λh N1 J=>?_) λh N2 O=>?_)
 ·rw [zRK h] at I
  exact I _ _ J (zI6 _ _) (zDc _ _)
 ·rw [zRJ h] at I
  exact zIy N2 n _ λN3 U _ _ N4 Y=>I _ _ (by omega) (zI6 _ _) (zDc _ _)
def xj (l:List Int):List D:=l.map λn=>.j n
theorem vk (l:List Int):(xj l).length=l.length:=by simp [xj]
theorem ri {l:List Int} {i:Nat} {b:Int} (h:l[i]?=some b):(xj l).getD i default=.j b:=by simp [xj,oA,oF,h]
def um:List Pm->List Int->Bool
 | [],_=>true
 | p::g,[]=>true
 | p::g,n::ns=>zFZ p.ty n&&um g ns
def yU:List Pm->List Int->List Nb
 | p::g,n::ns=>(p.nm,n)::yU g ns
 | _,_=>[]
theorem ux:∀ {g:List Pm} {ns:List Int},ns.length=g.length->(yU g ns).length=g.length
 | [],[],_=>rfl
 | p::g,n::ns,h=>by simp only [yU,oJ] at h ⊢;rw [ux (by omega)]
 | [],_::_,h=>by simp at h
 | _::_,[],h=>by simp at h
theorem pj:∀ {g:List Pm} {ns:List Int} {i:Nat} {p:Pm} {n:Int},g[i]?=some p->ns[i]?=some n->(yU g ns)[i]?=some (p.nm,n)
 | q::g,m::ns,0,p,n,h,I=>by simp at h I;subst h;subst I;rfl
 | q::g,m::ns,i+1,p,n,h,I=>by simp only [yU,nP] at h I ⊢;exact pj h I
 | [],_,i,p,n,h,I=>by simp at h
 | _::_,[],i,p,n,h,I=>by simp at I
theorem zGi:∀ {g:List Pm} {ns:List Int} {i:Nat} {p:Pm} {n:Int},um g ns=true->g[i]?=some p->ns[i]?=some n->zFZ p.ty n=true
 | q::g,m::ns,0,p,n,J,h,I=>by
   simp only [um,oI] at J
   simp at h I;subst h;subst I;exact J.1
 | q::g,m::ns,i+1,p,n,J,h,I=>by
   simp only [um,oI] at J
   simp only [nP] at h I
   exact zGi J.2 h I
 | [],_,i,p,n,J,h,I=>by simp at h
 | _::_,[],i,p,n,J,h,I=>by simp at I
theorem zJc {g:List Pm} {ns:List Int} (U:ns.length=g.length) (h:um g ns=true):Fit (yU g ns) (vF g):=by
 refine ⟨by rw [ux U,uU],λi x y Y I=>?_⟩
 have J:i<g.length:=by have:=(oC.1 I).1;rw [ux U] at this;exact this
 have O:g[i]?=some g[i]:=oE J
 have hn:ns[i]?=some (ns[i]'(by omega)):=oE (by omega)
 rw [pj O hn] at I
 rw [vF,oF,O] at Y
 cases Y;cases I
 exact ⟨rfl,zGi h O hn⟩
def vK (g:List Pm) (e:Tm) (ns:List Int):Int × Bool:=if (xb g e).isSome=true then (if ns.length=g.length then (if um g ns=true then (e.ev (yU g ns),true) else (0,false)) else (0,false)) else (0,false)
theorem zD8 {g:List Pm} {e:Tm} (h:(xb g e).isSome=true):∃ u,e.type (vF g) 0=some u:=by
 unfold xb at h
 split at h
 ·exact Option.isSome_iff_exists.1 h
 ·cases h
theorem zFG {g:List Pm} {es:List D} (h:Pms g es) (hg:g.length<=536870000) {e:Tm} {d:D} (he:e.Is d) (hc:e.cnt<=536870000) (ns:List Int) (hn:ns.length<=1073741824) (a a2:Option Addr) (c c2:Nat) :
  zQP 7 [.sv a 4 es c,.dg 9 d,.sv a2 0 (xj ns) c2] (vK g e ns):=λN Q hQ=>by
 have hl:=h.all.len
 have ay:=vk ns
 refine zE0 N a es c d a2 _ c2 Q λ_ _ _ N1 az=>?_
 refine r6 h (by omega) he hc a c N1 _ λx N2 a0 _ _ _=>Br.not (λhb N3 a3=>?_) λhb=>Br.bne (λa5 N4 ai=>?_) λheq=>?_
 ·have e1:vK g e ns=(0,false):=by unfold vK;rw [if_neg (by simp [hb])]
  exact Qp (b:=(0,false)) (hQ N3 (by omega)) e1
 ·have e1:vK g e ns=(0,false):=by unfold vK;rw [if_pos hb,if_neg (by omega)]
  exact Qp (b:=(0,false)) (hQ N4 (by omega)) e1
 ·have U:ns.length=g.length:=by omega
  obtain ⟨_,hv,aj⟩:=zFA hb
  obtain ⟨u,hu⟩:=zD8 hb
  have aw:=ux U
  have aa:∀ r,um g ns=r->vK g e ns=if r=true then (e.ev (yU g ns),true) else (0,false):=λr hr=>by unfold vK;rw [if_pos hb,if_pos U,hr]
  have key:=up h.all h.len (λi xs=>∀ (q N':Nat),N<=N'->(um g ns=um xs (ns.drop i))->xw Q N a es c a2 (xj ns) c2 (((yU g ns).take i).map nbD).length q i d (((yU g ns).take i).map nbD) q N') ?_ ?_
  ·exact key 0 N2 (by omega) rfl
  ·intro i Y hi q N' ak I
   refine sH _ _ _ _ _ _ _ _ _ _ _ _ _ _ _ ?_
   rw [Y]
   have ab:um g ns=true:=by rw [I];rfl
   have e1:=aa true ab
   rw [if_pos rfl] at e1
   rw [oa (by omega)]
   refine ⟨⟨rfl,rfl⟩,λa4 _ _ N4 ai _=>?_⟩
   refine zPL e d he (zTo hv) aj (vF g) u hu _ (zJc U ab) a4 q (by omega) N4 _ λN5 a6 _ N6 a7=>?_
   exact Qp (b:=(e.ev (yU g ns),true)) (hQ N6 (by omega)) e1
  ·intro i x xs J a8 al q N' ak I
   have a9:=J.b
   have Y:i<ns.length:=by omega
   have ac:ns[i]?=some ns[i]:=oE Y
   have am:=ri ac
   obtain ⟨t0,t1,ao,ba,aq⟩:=J.r
   have O:=pj J.g ac
   have au:ns.drop i=ns[i]::ns.drop (i+1):=by rw [ms]
   rw [au] at I
   simp only [um] at I
   refine sH _ _ _ _ _ _ _ _ _ _ _ _ _ _ _ ?_
   have ae:((yU g ns).take i).map nbD++[D.ag [.t x.nm,.j (ns[i])]]=((yU g ns).take (i+1)).map nbD:=by rw [zX O,mW];rfl
   have ax:(((yU g ns).take (i+1)).map nbD).length<=i+1:=by rw [nF,ou];omega
   have ah:=zFY aq ns[i]
   repeat' first|with_reducible intro _|simp only[J.lt,J.w,oH,ao,am,mE,eq_self,Y1,Y2,Y3,Y4]|with_reducible refine X ?_ ?_|refine⟨_,_,_,rfl,?_⟩|refine⟨_,rfl,?_⟩|refine And.intro (by first|omega|trivial|(show _=_;rfl)|(with_reducible constructor)<;>first|omega|trivial|rfl) ?_|refine ah _ _ ?_|fail
   ·have e1:=aa false (by rw [I];rename_i hx _ _;rw [hx];rfl)
    exact Qp (b:=(0,false)) (hQ _ (by omega)) e1
   ·refine ⟨by unfold zA;rw [ae];omega,λc1=>?_⟩
    rw [ae]
    refine al _ _ (by omega) ?_
    rename_i hx
    rw [I,hx,m8]
theorem zFb {g:List Pm} {es:List D} (h:Pms g es) (hg:g.length<=1073741824) (ns:List Int) (hn:ns.length<=1073741824) (a a2:Option Addr) (c c2:Nat) :
  vl 30 [.sv a 4 es c,.sv a2 0 (xj ns) c2] (decide (ns.length=g.length)&&um g ns):=λN Q Y=>by
 have hl:=h.all.len
 have am:=vk ns
 refine zFf N a es c a2 _ c2 Q λ_ _=>Br.bne (λao N1 aa=>?_) λheq=>?_
 ·exact Qb (Y _ aa) (by rw [mX (by omega)];rfl)
 ·have ab:ns.length=g.length:=by omega
  rw [mG ab,m8] at Y
  have key:=up h.all h.len (λi xs=>∀ (N':Nat),N<=N'->(um g ns=um xs (ns.drop i))->wN Q N a2 (xj ns) c2 a es c es.length i N') ?_ ?_
  ·exact key N (by omega) rfl
  ·intro i O hi N' ac I
   refine s9 _ _ _ _ _ _ _ _ _ _ _ ?_
   repeat' first|with_reducible intro _|simp only[O,Y1,Y2,Y3,Y4]|with_reducible refine X ?_ ?_|refine⟨_,_,_,rfl,?_⟩|refine⟨_,rfl,?_⟩|refine And.intro (by first|omega|trivial|(show _=_;rfl)|(with_reducible constructor)<;>first|omega|trivial|rfl) ?_|fail
   exact Qb (Y _ (by omega)) (by rw [I];rfl)
  ·intro i x xs J aq ae N' ac I
   have au:=J.b
   have O:i<ns.length:=by omega
   have ah:ns[i]?=some ns[i]:=oE O
   have ai:=ri ah
   obtain ⟨t0,t1,aj,aw,ak⟩:=J.r
   have al:ns.drop i=ns[i]::ns.drop (i+1):=by rw [ms]
   rw [al] at I
   simp only [um] at I
   refine s9 _ _ _ _ _ _ _ _ _ _ _ ?_
   have U:=zI1 ak ns[i]
   repeat' first|with_reducible intro _|simp only[J.lt,J.w,oH,aj,ai,Y1,Y2,Y3,Y4]|with_reducible refine X ?_ ?_|refine⟨_,_,_,rfl,?_⟩|refine⟨_,rfl,?_⟩|refine And.intro (by first|omega|trivial|(show _=_;rfl)|(with_reducible constructor)<;>first|omega|trivial|rfl) ?_|refine U _ _ ?_|fail
   ·rename_i hx _ _
    exact Qb (Y _ (by omega)) (by rw [I,hx];rfl)
   ·refine ae _ (by omega) ?_
    rename_i hx
    rw [I,hx,m8]
def qr:List Pm->List Int->List Pl
 | p::g,n::ns=>(p.nm,n,false)::qr g ns
 | _,_=>[]
theorem p8:∀ (g:List Pm) (ns:List Int),(qr g ns).map plN=yU g ns
 | [],_=>by simp [qr,yU]
 | _::_,[]=>by simp [qr,yU]
 | p::g,n::ns=>by simp only [qr,yU,od,p8 g ns];rfl
theorem zPQ (g:List Pm) (ns:List Int):(qr g ns).length=(yU g ns).length:=by rw [<-p8,nF]
theorem zIu:∀ {g:List Pm} {ns:List Int} {i:Nat} {p:Pm} {n:Int},g[i]?=some p->ns[i]?=some n->(qr g ns)[i]?=some (p.nm,n,false)
 | q::g,m::ns,0,p,n,h,I=>by simp at h I;subst h;subst I;rfl
 | q::g,m::ns,i+1,p,n,h,I=>by simp only [qr,nP] at h I ⊢;exact zIu h I
 | [],_,i,p,n,h,I=>by simp at h
 | _::_,[],i,p,n,h,I=>by simp at I
theorem zEo {g:List Pm} {es:List D} (h:Pms g es) (hg:g.length<=536870000) (ao:∀ x∈g,x.ty.cnt<=1073741824) {e:Tm} {d:D} (he:e.Is d) (hc:e.cnt<=1048576000 / 2) (ns:List Int) (hn:ns.length<=1073741824) (a a2:Option Addr) (c c2:Nat) :
  zQP 6 [.sv a 4 es c,.dg 9 d,.sv a2 0 (xj ns) c2] (vK g e ns):=λN Q hQ=>by
 have hl:=h.all.len
 have a3:=vk ns
 refine zE6 N a es c d a2 _ c2 Q λ_ _ _ N1 aq=>?_
 refine rO h (by omega) ao he hc a c N1 _ λx N2 au _ _ _ _=>Br.not (λhb N3 ab=>?_) λhb N4 a6=>?_
 ·have e1:vK g e ns=(0,false):=by unfold vK;rw [if_neg (by simp [hb])]
  exact Qp (b:=(0,false)) (hQ N3 (by omega)) e1
 refine zFb h (by omega) ns hn a a2 c c2 N4 _ λN5 a7 _=>Br.not (λhf N6 ac=>?_) λhf=>?_
 ·have e1:vK g e ns=(0,false):=by
   unfold vK
   rw [if_pos hb]
   split
   ·rename_i O
    rw [mG O,m8] at hf
    rw [if_neg (by simp [hf])]
   ·rfl
  exact Qp (b:=(0,false)) (hQ N6 (by omega)) e1
 ·simp only [oI,nO] at hf
  obtain ⟨O,ae⟩:=hf
  obtain ⟨_,hv,aw⟩:=zFA hb
  obtain ⟨u,hu⟩:=zD8 hb
  have a0:=ux O
  have a8:=zPQ g ns
  have e1:vK g e ns=(e.ev (yU g ns),true):=by unfold vK;rw [if_pos hb,if_pos O,if_pos ae]
  have ah:=zJc O ae
  rw [<-p8] at ah e1
  have fin:∀ (a4:Option Addr) (c4:Nat) (N4:Nat),N<=N4->∀ (K:QT [.i]),(∀ N5,N4<=N5->K (e.ev ((qr g ns).map plN)) N5)->ACalls prog 32 [.i] [.sv a4 3 ((qr g ns).map plD) c4,.dg 9 d] N4 K:=λa4 c4 N4 h4 K hK=>
   zSj e d he (zTo hv) aw (vF g) u hu (qr g ns) ah a4 c4 (by omega) N4 K hK
  have key:=up h.all h.len (λi xs=>(i=0->∀ (N':Nat),N<=N'->vP Q N a2 (xj ns) c2 0 0 a es c es.length i d [] 0 N') /\
   (0<i->∀ (a5:Option Addr) (c5:Nat) (N':Nat),N<=N'->yo Q N a2 (xj ns) c2 a5 (((qr g ns).take i).map plD) c5 a es c es.length i d N')) (λi U hi=>⟨λh0 N' aa=>?_,λh0 a5 c5 N' aa=>?_⟩) (λi x xs J _ ai=>⟨λh0 N' aa=>?_,λh0 a5 c5 N' aa=>?_⟩)
  ·exact key.1 rfl N5 (by omega)
  ·refine t6 _ _ _ _ _ _ _ _ _ _ _ _ _ _ _ _ ?_
   rw [U]
   refine ⟨⟨rfl,rfl⟩,λa4 _ _ N3 ab _=>?_⟩
   have ax:qr g ns=[]:=oW (by omega)
   have:=fin a4 0 N3 (by omega)
   rw [ax] at this e1
   refine this _ λN6 ac _ N7 ay=>?_
   exact Qp (hQ N7 (by omega)) e1
  ·refine vz _ _ _ _ _ _ _ _ _ _ _ _ _ _ _ ?_
   rw [U]
   rw [oa (by omega)]
   exact λN3 ab=>fin a5 c5 N3 (by omega) _ λN6 ac _ N7 ay=>Qp (hQ N7 (by omega)) e1
  all_goals
   have a9:=J.b
   have U:i<ns.length:=by omega
   have aj:ns[i]?=some ns[i]:=oE U
   have ak:=ri aj
   obtain ⟨t0,t1,al,ba,bb⟩:=J.r
   have Y:=zIu J.g aj
  ·subst h0
   have e3:((qr g ns).take (0+1))=[]++[(x.nm,ns[0],false)]:=zX Y
   have I:=zSg [] (by simp) (x.nm,ns[0],false)
   rw [<-e3] at I
   refine t6 _ _ _ _ _ _ _ _ _ _ _ _ _ _ _ _ ?_
   have e4:(((0:Nat):Int)).toNat=0:=rfl
   repeat' first|with_reducible intro _|simp only[J.lt,J.w,e4,al,ak,Y1,Y2,Y3,Y4]|with_reducible refine X ?_ ?_|refine⟨_,_,_,rfl,?_⟩|refine⟨_,rfl,?_⟩|refine And.intro (by first|omega|trivial|(show _=_;rfl)|(with_reducible constructor)<;>first|omega|trivial|rfl) ?_|fail
   rename_i ad bc N1 aq am
   exact I ad 0 N1 _ λa2 c2 N2 au own _=>⟨zLb am own (oD _),λ_=>ai.2 (by omega) _ _ _ (by omega)⟩
  ·have az:((qr g ns).take i).length<=1073741824:=by rw [ou];omega
   refine vz _ _ _ _ _ _ _ _ _ _ _ _ _ _ _ ?_
   have I:=zSg ((qr g ns).take i) az (x.nm,ns[i],false)
   rw [<-zX Y] at I
   repeat' first|with_reducible intro _|simp only[J.lt,J.w,oH,al,ak,Y1,Y2,Y3,Y4]|with_reducible refine X ?_ ?_|refine⟨_,_,_,rfl,?_⟩|refine⟨_,rfl,?_⟩|refine And.intro (by first|omega|trivial|(show _=_;rfl)|(with_reducible constructor)<;>first|omega|trivial|rfl) ?_|refine (I _ _) _ _ ?_|fail
   exact ai.2 (by omega) _ _ _ (by omega)
def zOX (g:List Pm):List Pm:=g.filter λp=>!p.dy
def rX (g:List Pm):List Pm:=g.filter λp=>p.dy
theorem zDe (g:List Pm):(zOX g).length<=g.length:=mP _ _
theorem qi (g:List Pm):(rX g).length<=g.length:=mP _ _
theorem zBD {g:List Pm} {x:Pm}:zOX (g++[x])=if x.dy then zOX g else zOX g++[x]:=by
 unfold zOX;rw [List.filter_append];cases h:x.dy<;>simp [h]
theorem sJ {g:List Pm} {x:Pm}:rX (g++[x])=if x.dy then rX g++[x] else rX g:=by
 unfold rX;rw [List.filter_append];cases h:x.dy<;>simp [h]
theorem zBH {g:List Pm} {es:List D} (h:Pms g es) (hg:g.length<=1073741824) (hc:∀ x∈g,x.ty.cnt<=1073741824) (a:Option Addr) (c:Nat) (N:Nat) (Q:QT [.sl 4,.sl 4])
  (hQ:∀ a1 Y c1 a2 aa c2 N',N<=N'->Pms (zOX g) Y->Pms (rX g) aa->Q a1 Y c1 a2 aa c2 N'):ACalls prog 18 [.sl 4,.sl 4] [.sv a 4 es c] N Q:=by
 have hl:=h.all.len
 refine zA2 N a es c Q λ_=>?_
 refine up h.all h.len (λi xs=>∀ (d1 d2:List D) (q1 q2 N':Nat),N<=N'->All2 Pm.Is (zOX (g.take i)) d1->All2 Pm.Is (rX (g.take i)) d2->yL Q N a es c d1.length q1 d2.length q2 i d1 q1 d2 q2 N') ?_ ?_ [] [] 0 0 N (oD _) rfl rfl
 ·intro i ae hi d1 d2 q1 q2 N' ah O U
  refine uD _ _ _ _ _ _ _ _ _ _ _ _ _ _ _ ?_
  rw [oa (by omega)] at O U
  have k1:=O.len;have k2:=U.len
  have n1:=zDe g;have n2:=qi g
  rw [ae]
  exact ⟨⟨rfl,rfl⟩,⟨rfl,rfl⟩,⟨rfl,rfl⟩,λa1 N1 ai _=>⟨⟨rfl,rfl⟩,⟨rfl,rfl⟩,⟨rfl,rfl⟩,λa2 N2 aj _ N3 am=>hQ _ _ _ _ _ _ _ (by omega) ⟨by omega,O⟩ ⟨by omega,U⟩⟩⟩
 ·intro i x xs I _ ab d1 d2 q1 q2 N' ah O U
  have hb:=I.b
  obtain ⟨t0,t1,ak,ac,al⟩:=I.r
  have k1:=O.len;have k2:=U.len
  have n1:=zDe (g.take i);have n2:=qi (g.take i)
  rw [ou] at n1 n2
  refine uD _ _ _ _ _ _ _ _ _ _ _ _ _ _ _ ?_
  rw [I.lt,oH,ak,I.w]
  refine ⟨⟨by omega,by omega⟩,_,rfl,⟨by omega,by omega⟩,⟨by omega,by omega⟩,_,rfl,λN1 ai=>?_⟩
  refine zI x.ty _ al (hc x I.m) N1 _ λx' N2 aj hx ao _ _=>Br.of (λJ=>?_) λJ=>?_
  ·refine ⟨⟨rfl,rfl⟩,by unfold zA;rw [oL];simp only [oJ,oM];omega,λc1=>?_⟩
   refine ab _ _ _ _ _ (by omega) ?_ ?_
   ·rw [zX I.g,zBD,if_pos J];exact O
   ·rw [zX I.g,sJ,if_pos J];exact U.snoc ⟨_,_,rfl,ac,Ty.is_cells hx⟩
  ·refine ⟨⟨rfl,rfl⟩,by unfold zA;rw [oL];simp only [oJ,oM];omega,λc1=>?_⟩
   refine ab _ _ _ _ _ (by omega) ?_ ?_
   ·rw [zX I.g,zBD,if_neg (by simp [J])];exact O.snoc ⟨_,_,rfl,ac,Ty.is_cells hx⟩
   ·rw [zX I.g,sJ,if_neg (by simp [J])];exact U
theorem zAV {g:List Pm} {es:List D} (h:Pms g es) (hg:g.length<=1073741824) (hc:∀ x∈g,x.ty.cnt<=1073741824) (a:Option Addr) (c:Nat) (N:Nat) (Q:QT [.sl 4,.sl 4])
  (hQ:∀ a1 Y c1 a2 aa c2 N',N<=N'->Pms (zOX g) Y->Pms (rX g) aa->Q a1 Y c1 a2 aa c2 N'):ACalls prog 17 [.sl 4,.sl 4] [.sv a 4 es c] N Q:=by
 have hl:=h.all.len
 refine zAd N a es c Q λ_=>?_
 refine up h.all h.len (λi xs=>∀ (d1 d2:List D) (q1 q2 N':Nat),N<=N'->All2 Pm.Is (zOX (g.take i)) d1->All2 Pm.Is (rX (g.take i)) d2->yN Q N d1.length q1 d2.length q2 a es c es.length i d1 q1 d2 q2 N') ?_ ?_ [] [] 0 0 N (oD _) rfl rfl
 ·intro i ae hi d1 d2 q1 q2 N' ah O U
  refine uA _ _ _ _ _ _ _ _ _ _ _ _ _ _ _ _ ?_
  rw [oa (by omega)] at O U
  have k1:=O.len;have k2:=U.len
  have n1:=zDe g;have n2:=qi g
  rw [ae]
  exact ⟨⟨rfl,rfl⟩,⟨rfl,rfl⟩,⟨rfl,rfl⟩,λa1 N1 ai _=>⟨⟨rfl,rfl⟩,⟨rfl,rfl⟩,⟨rfl,rfl⟩,λa2 N2 aj _ N3 am=>hQ _ _ _ _ _ _ _ (by omega) ⟨by omega,O⟩ ⟨by omega,U⟩⟩⟩
 ·intro i x xs I _ ab d1 d2 q1 q2 N' ah O U
  have hb:=I.b
  obtain ⟨t0,t1,ak,ac,al⟩:=I.r
  have k1:=O.len;have k2:=U.len
  have n1:=zDe (g.take i);have n2:=qi (g.take i)
  rw [ou] at n1 n2
  refine uA _ _ _ _ _ _ _ _ _ _ _ _ _ _ _ _ ?_
  rw [I.lt,oH,ak,I.w]
  refine ⟨⟨by omega,by omega⟩,_,rfl,_,rfl,λN1 ai=>?_⟩
  refine zEk x.ty _ al (hc x I.m) N1 _ λx' N2 aj hx ao _ _=>⟨_,rfl,Br.of (λJ=>?_) λJ=>?_⟩
  ·refine ⟨⟨rfl,rfl⟩,by unfold zA;rw [oL];simp only [oJ,oM];omega,λc1=>?_⟩
   refine ab _ _ _ _ _ (by omega) ?_ ?_
   ·rw [zX I.g,zBD,if_pos J];exact O
   ·rw [zX I.g,sJ,if_pos J];exact U.snoc ⟨_,_,rfl,ac,Ty.is_cells hx⟩
  ·refine ⟨⟨rfl,rfl⟩,by unfold zA;rw [oL];simp only [oJ,oM];omega,λc1=>?_⟩
   refine ab _ _ _ _ _ (by omega) ?_ ?_
   ·rw [zX I.g,zBD,if_neg (by simp [J])];exact O.snoc ⟨_,_,rfl,ac,Ty.is_cells hx⟩
   ·rw [zX I.g,sJ,if_neg (by simp [J])];exact U
end Go.Proofs.YtlahkdflngobiaaGreat
