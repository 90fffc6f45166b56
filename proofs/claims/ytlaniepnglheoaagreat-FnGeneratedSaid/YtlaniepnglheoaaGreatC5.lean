/- Generated code (no program in sight): what a term of code comes to; it is kept when a number is put in. -/
import Derived.Test.YtlaniepnglheoaaGreatA9
import Derived.Test.YtlaniepnglheoaaGreatB6
import Derived.Test.YtlaniepnglheoaaGreatC1
import Derived.Test.YtlaniepnglheoaaGreatKf
import Derived.Test.YtlaniepnglheoaaGreatKd
import Derived.Test.YtlaniepnglheoaaGreatA5
import Derived.Test.YtlaniepnglheoaaGreatA1
import Derived.Test.YtlaniepnglheoaaGreatKa
set_option linter.unusedVariables false
set_option linter.unusedSimpArgs false
namespace Go.Proofs.YtlaniepnglheoaaGreat
open Go Go.Proofs Go.Proofs.Tryz Go.IntWalk
variable {g:List Tg} {j:Nat} {n:Int} {r':Rho} {tx:Ty} {w:List Pl} {x:ByteArray}
def Rho.del (r:Rho)(x:ByteArray):Rho:=λs m=>if s=x then none else r s m
def Ey (k:Int)(nm:ByteArray)(j:Nat)(r:Rho):Rho:=if(k=6/\j=0)\/(k=8/\j=1)then r.del nm else r
def cdK (k:Int):Bool:=k==1||(k==2||(k==3||(k==4||(k==5||(k==6||k==8)))))
inductive G:Bool->Rho->List Nb->Tm->Tm->Prop
 | lift {r v nm ot m ty re e t}:e.isB=true->HT r e 0 t->t.base=true->G true r v (.mk 13 nm ot m ty re [e]) (C1 t (e.ev v))
 | ite {r v nm ot m ty re c a b p}:c.isB=true->HT r c 0 tBool->G true r v (if c.ev v=1 then a else b) p->G true r v (.mk 5 nm ot m ty re [c,a,b]) p
 | lt {r v nm ot m ty re a b t p}:a.isB=true->HT r a 0 t->t.base=true->G true (r.set nm 0 t) (v++[(nm,a.ev v)]) b p->G true r v (.mk 8 nm ot m ty re [a,b]) p
 | quote {r v nm ot m ty re q p}:G false r v q p->G true r v (.mk 10 nm ot m ty re [q]) p
 | splice {r v nm ot m ty re y p}:G true r v y p->G false r v (.mk 11 nm ot m ty re [y]) p
 | node {r v k nm ot m ty re l l'}:cdK k=true->(k=1->r nm 0=none)->(k=6->l.length=1)->(k=8->l.length=2)->l'.length=l.length->(∀(j:Nat) (x x':Tm),l[j]?=some x->l'[j]?=some x'->G false (Ey k nm j r) v x x')->G false r v (.mk k nm ot m ty re l) (.mk k nm ot m ty re l')
theorem Dg {k:Int}{n:Nat}(I:k≠6)(J:k≠8)(O:k≠9):yB k n = -1:=by unfold yB;rw[if_neg (λh=>I h.1),if_neg (λh=>J h.1),if_neg (λh=>O h.1)]
theorem WV {k:Int}{n:Nat}{ns:List ByteArray}{x:Tm}(I:k≠6)(J:k≠8)(O:k≠9):fvI (yB k n) ns j x=x.fv:=by unfold fvI;rw[Dg I J O,if_neg (by omega)]
theorem Pg {r:Rho}{e:Tm}{u:Ty}(h:HT r e n u):e.ok=true->e.isB=true->∀ s∈e.fv,∃ t,r s n=some t:=by
 have O:∀ {k nm ot m ty re l},(Tm.mk k nm ot m ty re l).isB=true->s5 k=true/\∀ x∈l,x.isB=true:=λh=>pZ.1 h
 induction h with
 | @var r nm ot m ty re l n u _ U h2=>
   intro _ _ s hs;rcases Tm.fv_mem.1 hs with⟨_,rfl⟩ | ⟨J,_⟩
   ·exact⟨_,U⟩
   ·exact absurd rfl J
 | @int r nm ot m ty re l n _=>
   intro Y _ s hs;have hl:l=[]:=oL (by have:(l.length:Int)=0:=(Tm.ok_mk.1 Y).2.2;omega);subst hl;rcases Tm.fv_mem.1 hs with⟨J,_⟩ | ⟨_,j,x,hj,_⟩
   ·exact absurd J (by decide)
   ·simp at hj
 | @bool r nm ot m ty re l n _=>
   intro Y _ s hs;have hl:l=[]:=oL (by have:(l.length:Int)=0:=(Tm.ok_mk.1 Y).2.2;omega);subst hl;rcases Tm.fv_mem.1 hs with⟨J,_⟩ | ⟨_,j,x,hj,_⟩
   ·exact absurd J (by decide)
   ·simp at hj
 | @op r nm ot m ty re l n _ U ih=>
   intro Y I s hs;rcases Tm.fv_mem.1 hs with⟨J,_⟩ | ⟨_,j,x,hj,hx⟩
   ·exact absurd J (by decide)
   ·have hm:=oA hj;rw[WV (by decide) (by decide) (by decide)]at hx;exact ih x hm ((Tm.ok_mk.1 Y).1 x hm) ((O I).2 x hm) s hx
 | @ite r nm ot m ty re a b c n u _ ha hb hc aa ab ac=>
   intro Y I s hs;have U:=(Tm.ok_mk.1 Y).1;have h2:=(O I).2;rcases Tm.fv_mem.1 hs with⟨J,_⟩ | ⟨_,j,x,hj,hx⟩
   ·exact absurd J (by decide)
   ·rw[WV (by decide) (by decide) (by decide)]at hx;rcases UA hj with⟨_,rfl⟩ | ⟨_,rfl⟩ | ⟨_,rfl⟩
    ·exact aa (U _ (by simp)) (h2 _ (by simp)) s hx
    ·exact ab (U _ (by simp)) (h2 _ (by simp)) s hx
    ·exact ac (U _ (by simp)) (h2 _ (by simp)) s hx
 | lam=>intro _ I;exact absurd (O I).1 (by decide)
 | app=>intro _ I;exact absurd (O I).1 (by decide)
 | @lt r nm ot m ty re a b n t u _ ha hb aa ab=>
   intro Y I s hs;have U:=(Tm.ok_mk.1 Y).1;have h2:=(O I).2;rcases Tm.fv_mem.1 hs with⟨J,_⟩ | ⟨_,j,x,hj,hx⟩
   ·exact absurd J (by decide)
   ·rcases K6 hj with⟨rfl,rfl⟩ | ⟨rfl,rfl⟩
    ·have hx:s∈x.fv:=hx;exact aa (U _ (by simp)) (h2 _ (by simp)) s hx
    ·have hx:s∈Ch [nm] x.fv:=hx;obtain⟨J,h4⟩:=xc.1 hx;obtain⟨t',ht⟩:=ab (U _ (by simp)) (h2 _ (by simp)) s J;rw[zB _ (by simpa using h4)]at ht;exact⟨t',ht⟩
 | fix=>intro _ I;exact absurd (O I).1 (by decide)
 | quote=>intro _ I;exact absurd (O I).1 (by decide)
 | splice=>intro _ I;exact absurd (O I).1 (by decide)
 | run=>intro _ I;exact absurd (O I).1 (by decide)
 | lift=>intro _ I;exact absurd (O I).1 (by decide)
theorem Ph {k:Int}(I:k≠1){nm ot:ByteArray}{ty re:Ty}{l:List Tm}(J:yB k l.length = -1){x:Tm}(hx:x∈l){s:ByteArray}(hs:s∈x.fv):s∈(Tm.mk k nm ot n ty re l).fv:=by obtain⟨j,O⟩:=oQ.1 hx;exact Mh I O hs (by rw[J];omega)
theorem G.cong {b:Bool}{r:Rho}{v:List Nb}{t p:Tm}(h:G b r v t p):t.ok=true->∀(r':Rho)(v':List Nb),(∀ s∈t.fv,∀ m,r s m=r' s m)->(∀ s∈t.fv,∀ u,r s 0=some u->wT s v=wT s v')->G b r' v' t p:=by
 induction h with
 | @lift r v nm ot m ty re e t hB ht hb=>
   intro Y r' v' J U;have aa:=(Tm.ok_mk.1 Y).1 e (by simp);have hf:∀ s∈e.fv,s∈(Tm.mk 13 nm ot m ty re [e]).fv:=λs hs=>Ph (by decide) (Dg (by decide) (by decide) (by decide)) (by simp) hs;have e1:e.ev v=e.ev v':=Gh e aa _ _ λs hs=>by obtain⟨u,I⟩:=Pg ht aa hB s hs;exact U s (hf s hs) u I
   rw[e1];exact .lift hB (qI ht r' λs hs=>J s (hf s hs)) hb
 | @ite r v nm ot m ty re c a b p hB ht _ ih=>
   intro Y r' v' J U;have O:=(Tm.ok_mk.1 Y).1;have ab:=O c (by simp);have hf:∀ x∈[c,a,b],∀ s∈x.fv,s∈(Tm.mk 5 nm ot m ty re [c,a,b]).fv:=λx hx s hs=>Ph (by decide) (Dg (by decide) (by decide) (by decide)) hx hs;have e1:c.ev v=c.ev v':=Gh c ab _ _ λs hs=>by obtain⟨u,I⟩:=Pg ht ab hB s hs;exact U s (hf c (by simp) s hs) u I
   have hm:(if c.ev v=1 then a else b)∈[c,a,b]:=by split<;>simp
   have:=ih (O _ hm) r' v' (λs hs=>J s (hf _ hm s hs)) (λs hs=>U s (hf _ hm s hs))
   rw[e1]at this;exact .ite hB (qI ht r' λs hs=>J s (hf c (by simp) s hs)) this
 | @lt r v nm ot m ty re a b t p hB ht hb _ ih=>
   intro Y r' v' J U;have O:=(Tm.ok_mk.1 Y).1;have ac:=O a (by simp);have ae:∀ s∈a.fv,s∈(Tm.mk 8 nm ot m ty re [a,b]).fv:=λs hs=>Mh (j:=0) (by decide) rfl hs (by show((0:Nat):Int)≠yB 8 2;decide);have ah:∀ s∈b.fv,s≠nm->s∈(Tm.mk 8 nm ot m ty re [a,b]).fv:=λs hs hn=>pD (j:=1) (by decide) rfl hs (by simpa [bdN]using hn);have e1:a.ev v=a.ev v':=Gh a ac _ _ λs hs=>by obtain⟨u,I⟩:=Pg ht ac hB s hs;exact U s (ae s hs) u I
   refine .lt hB (qI ht r' λs hs=>J s (ae s hs)) hb (ih (O b (by simp)) _ _ (λs hs m=>?_) λs hs u I=>?_)
   ·by_cases e:s=nm
    ·subst e;rw[zM,zM]
    ·rw[zB _ e,zB _ e];exact J s (ah s hs e) m
   ·rw[zR,zR,e1];by_cases e:nm=s
    ·rw[if_pos e,if_pos e]
    ·rw[if_neg e,if_neg e];rw[zB _ (λh=>e h.symm)]at I;exact U s (ah s hs λh=>e h.symm) u I
 | @quote r v nm ot m ty re q p _ ih=>intro Y r' v' J U;have hf:∀ s∈q.fv,s∈(Tm.mk 10 nm ot m ty re [q]).fv:=λs hs=>Ph (by decide) (Dg (by decide) (by decide) (by decide)) (by simp) hs;exact .quote (ih ((Tm.ok_mk.1 Y).1 q (by simp)) r' v' (λs hs=>J s (hf s hs)) λs hs=>U s (hf s hs))
 | @splice r v nm ot m ty re y p _ ih=>intro Y r' v' J U;have hf:∀ s∈y.fv,s∈(Tm.mk 11 nm ot m ty re [y]).fv:=λs hs=>Ph (by decide) (Dg (by decide) (by decide) (by decide)) (by simp) hs;exact .splice (ih ((Tm.ok_mk.1 Y).1 y (by simp)) r' v' (λs hs=>J s (hf s hs)) λs hs=>U s (hf s hs))
 | @node r v k nm ot m ty re l l' hk hv h6 h8 hl hp ih=>
   intro Y r' v' J U;have O:=(Tm.ok_mk.1 Y).1;refine .node hk (λe=>?_) h6 h8 hl λj x x' hj ai=>ih j x x' hj ai (O x (oA hj)) _ _ (λs hs n=>?_) λs hs u I=>?_
   ·rw[<-J nm (Tm.fv_mem.2 (.inl ⟨e,rfl⟩)) 0];exact hv e
   ·unfold Ey;split
    ·unfold Rho.del;split
     ·rfl
     ·rename_i hc e;refine J s ?_ n;rcases hc with⟨rfl,rfl⟩ | ⟨rfl,rfl⟩
      ·exact pD (by decide) hj hs (by unfold bdN;rw[if_pos ⟨rfl,h6 rfl⟩];simpa using e)
      ·exact pD (by decide) hj hs (by unfold bdN;rw[if_neg (by omega),if_pos ⟨rfl,h8 rfl⟩];simpa using e)
    ·rename_i hc;refine J s ?_ n;by_cases k1:k=1
     ·exact absurd (oA hj) (by subst k1;have:l=[]:=oL (by have:(l.length:Int)=0:=(Tm.ok_mk.1 Y).2.2;omega);rw[this];simp)
     ·refine Mh k1 hj hs λe=>hc ?_;rcases wR k l.length with h | ⟨h,_,h9 | h9⟩ | ⟨h,_,h9⟩
      ·omega
      ·exact .inl ⟨h9,by omega⟩
      ·exact absurd hk (by rw[h9];decide)
      ·exact .inr ⟨h9,by omega⟩
   ·unfold Ey at I;split at I
    ·unfold Rho.del at I;split at I
     ·cases I
     ·rename_i hc e;refine U s ?_ u I;rcases hc with⟨rfl,rfl⟩ | ⟨rfl,rfl⟩
      ·exact pD (by decide) hj hs (by unfold bdN;rw[if_pos ⟨rfl,h6 rfl⟩];simpa using e)
      ·exact pD (by decide) hj hs (by unfold bdN;rw[if_neg (by omega),if_pos ⟨rfl,h8 rfl⟩];simpa using e)
    ·rename_i hc;refine U s ?_ u I;by_cases k1:k=1
     ·exact absurd (oA hj) (by subst k1;have:l=[]:=oL (by have:(l.length:Int)=0:=(Tm.ok_mk.1 Y).2.2;omega);rw[this];simp)
     ·refine Mh k1 hj hs λe=>hc ?_;rcases wR k l.length with h | ⟨h,_,h9 | h9⟩ | ⟨h,_,h9⟩
      ·omega
      ·exact .inl ⟨h9,by omega⟩
      ·exact absurd hk (by rw[h9];decide)
      ·exact .inr ⟨h9,by omega⟩
structure LitY (b:Tm) (t:Ty) (m:Int):Prop where
 l:LitT b m
 h:∀ r,HT r b 0 t
theorem LB {k:Int}{nm:ByteArray}{r:Rho}(h:∀ s,s≠x->∀ m,r s m=r' s m):∀ s,s≠x->∀ m,Ey k nm j r s m=Ey k nm j r' s m:=λs hs m=>by
 unfold Ey;split
 ·unfold Rho.del;split
  ·rfl
  ·exact h s hs m
 ·exact h s hs m
theorem UF {k:Int}{nm:ByteArray}{r:Rho}(h:x≠nm)(m:Int):Ey k nm j r x m=r x m:=by
 unfold Ey;split
 ·unfold Rho.del;rw[if_neg h]
 ·rfl
structure Put (x:ByteArray) (tx:Ty) (m:Int) (r:Rho) (v:List Nb) (r':Rho) (v':List Nb):Prop where
 hr:∀ s,s≠x->∀ m,r s m=r' s m
 hv:∀ s,s≠x->wT s v=wT s v'
 hk:∀ k t,r x k=some t->k=0/\t=tx
 hx:r x 0=some tx
 hn:wT x v=some m
theorem Put.und {nm:ByteArray}{m k:Int}{r:Rho}{v v':List Nb}(h:Put x tx m r v r' v')(hn:x≠nm):Put x tx m (Ey k nm j r) v (Ey k nm j r') v':=
 ⟨LB h.hr,h.hv,λi t hi=>h.hk i t (by rwa[UF hn]at hi),by rw[UF hn];exact h.hx,h.hn⟩
theorem Put.set {nm:ByteArray}{t:Ty}{m I:Int}{r:Rho}{v v':List Nb}(h:Put x tx m r v r' v')(hn:x≠nm)(e:n=I):Put x tx m (r.set nm 0 t) (v++[(nm,n)]) (r'.set nm 0 t) (v'++[(nm,I)]):=by
 subst e;refine⟨λs hs m=>?_,λs hs=>?_,λi t hi=>h.hk i t (by rwa[zB _ hn]at hi),by rw[zB _ hn];exact h.hx,by rw[zR,if_neg (λe=>hn e.symm)];exact h.hn⟩
 ·by_cases e:s=nm
  ·subst e;rw[zM,zM]
  ·rw[zB _ e,zB _ e];exact h.hr s hs m
 ·rw[zR,zR];split
  ·rfl
  ·exact h.hv s hs
theorem G.sub {b:Tm}{m:Int}(hb:LitY b tx m)(ae:tx.base=true){x:ByteArray}:∀(f:Nat) (t:Tm),t.dp<=f->t.ok=true->∀(bb:Bool) (r:Rho) (v:List Nb) (r':Rho) (v':List Nb) (p:Tm),G bb r v t p->Put x tx m r v r' v'->G bb r' v' (t.sub f x b) p
 | 0,t,h,_,_,_,_,_,_,_,_,_=>absurd (Tm.dp_pos t) (by omega)
 | f + 1, .mk k nm ot n ty re l,hd,ai,bb,r,v,r',v',p,hG,O=>by
   have ih:=G.sub hb ae (x:=x) f;have ho:=(Tm.ok_mk.1 ai).1;simp only[Tm.dp]at hd;have J:=λy hy=>uZ.1 (mN hd) y hy;have ah:∀ e∈l,e.isB=true->(e.sub f x b).ev v'=e.ev v:=λe he Y=>Si hb.l f e (J e he) (ho e he) Y v' v O.hv O.hn;have aa:∀ e∈l,∀ t,HT r e 0 t->HT r' (e.sub f x b) 0 t:=λe he t ht=>T6 f e x b r r' 0 t (J e he) ht O.hr λi u hu=>by obtain⟨rfl,rfl⟩:=O.hk i u hu;exact .inl ⟨hb.h _,λ_=>hb.h⟩
   have bS:∀ e:Tm,e.isB=true->(e.sub f x b).isB=true:=λe Y=>OV f e x b Y hb.l.2.2.2;have nx:∀ {nm:ByteArray} {q:Tm},¬(x∈[nm]\/x∉q.fv)->x≠nm:=λh e=>h (.inl (by simp[e]));have r1:∀(k:Int) (c:Nat) (nm ot:ByteArray) (q:Tm),rn1 (Tm.sub f) k c [] x nm (nm,ot,q)=(nm,ot,q):=λk c nm ot q=>by unfold rn1;rw[if_neg (by simp)]
   cases hG with
   | @lift _ _ _ _ _ _ _ e t Y ht ab=>rw[uB (by decide) (by show yB 13 1<0;decide)];rw[<-ah e (by simp) Y];exact .lift (bS e Y) (aa e (by simp) t ht) ab
   | @ite _ _ _ _ _ _ _ c a e _ Y ht h=>
     rw[uB (by decide) (by show yB 5 3<0;decide)];refine .ite (bS c Y) (aa c (by simp) _ ht) ?_;have hm:(if c.ev v=1 then a else e)∈[c,a,e]:=by split<;>simp
     have:=ih _ (J _ hm) (ho _ hm) true r v r' v' p h O
     rw[ah c (by simp) Y];split
     ·rename_i h1;rw[if_pos h1]at this;exact this
     ·rename_i h1;rw[if_neg h1]at this;exact this
   | @lt _ _ _ _ _ _ _ a q t _ Y ht ab h=>
     rw[O9,hb.l.2.2.1];have e1:=ah a (by simp) Y;split
     ·rename_i hc;refine .lt (bS a Y) (aa a (by simp) t ht) ab (h.cong (ho q (by simp)) _ _ (λs hs i=>?_) λs hs u hu=>?_)
      ·by_cases e:s=nm
       ·subst e;rw[zM,zM]
       ·rw[zB _ e,zB _ e];refine O.hr s (λe2=>?_) i;rcases hc with hc | hc
        ·exact e (e2.trans (oW.1 hc))
        ·exact hc (e2 ▸ hs)
      ·rw[zR,zR,e1];by_cases e:nm=s
       ·rw[if_pos e,if_pos e]
       ·rw[if_neg e,if_neg e];refine O.hv s λe2=>?_;rcases hc with hc | hc
        ·exact e (e2.trans (oW.1 hc)).symm
        ·exact hc (e2 ▸ hs)
     ·rename_i hc;rw[r1];exact .lt (bS a Y) (aa a (by simp) t ht) ab (ih q (J q (by simp)) (ho q (by simp)) true _ _ _ _ p h (O.set (nx hc) e1.symm))
   | @quote _ _ _ _ _ _ _ q _ h=>rw[uB (by decide) (by show yB 10 1<0;decide)];exact .quote (ih q (J q (by simp)) (ho q (by simp)) false r v r' v' p h O)
   | @splice _ _ _ _ _ _ _ y _ h=>rw[uB (by decide) (by show yB 11 1<0;decide)];exact .splice (ih y (J y (by simp)) (ho y (by simp)) true r v r' v' p h O)
   | @node _ _ _ _ _ _ _ _ _ l' hk hv h6 h8 hl hp=>
     by_cases k1:k=1
     ·have hn:nm≠x:=λe=>by
       have:=hv k1
       rw[e,O.hx]at this;cases this
      have hs:(Tm.mk k nm ot n ty re l).sub (f+1) x b=.mk k nm ot n ty re l:=by simp only[Tm.sub];rw[if_pos k1,if_neg hn]
      rw[hs];refine .node hk (λe=>by rw[<-O.hr nm hn 0];exact hv e) h6 h8 hl λj y y' U _=>?_;have:l=[]:=oL (by subst k1;have:(l.length:Int)=0:=(Tm.ok_mk.1 ai).2.2;omega);rw[this]at U;simp at U
     by_cases k6:k=6
     ·subst k6;obtain⟨q,rfl⟩:=len1 (h6 rfl);obtain⟨q',rfl⟩:=len1 (l:=l') (by rw[hl];rfl);rw[T4,hb.l.2.2.1];have hq:=hp 0 q q' rfl rfl;split
      ·rename_i hc;refine .node hk (λe=>absurd e k1) h6 h8 hl λj y y' U I=>?_;obtain⟨rfl,rfl⟩:=D9 U;obtain⟨_,rfl⟩:=D9 I;refine hq.cong (ho _ (by simp)) _ _ (λs hs i=>?_) λs hs u hu=>?_
       ·by_cases e:s=x
        ·subst e;rcases hc with hc | hc
         ·rw[oW.1 hc];simp[Ey,Rho.del]
         ·exact absurd hs hc
        ·exact LB O.hr s e i
       ·refine O.hv s λe=>?_;subst e;rcases hc with hc | hc
        ·rw[oW.1 hc]at hu;simp[Ey,Rho.del]at hu
        ·exact hc hs
      ·rename_i hc;rw[r1];refine .node hk (λe=>absurd e k1) (λ_=>rfl) (λe=>absurd e (by decide)) hl λj y y' U I=>?_;obtain⟨rfl,rfl⟩:=D9 U;obtain⟨_,rfl⟩:=D9 I;exact ih q (J q (by simp)) (ho q (by simp)) false _ _ _ _ _ hq (O.und (nx hc))
     by_cases k8:k=8
     ·subst k8;obtain⟨a,q,rfl⟩:=YM (h8 rfl);obtain⟨a',q',rfl⟩:=YM (l:=l') (by rw[hl];rfl);rw[O9,hb.l.2.2.1];have ha:=hp 0 a a' rfl rfl;have hq:=hp 1 q q' rfl rfl;have e0:∀ r:Rho,Ey 8 nm 0 r=r:=λr=>by unfold Ey;rw[if_neg (by omega)]
      rw[e0]at ha;have aj:=ih a (J a (by simp)) (ho a (by simp)) false r v r' v' _ ha O;split
      ·rename_i hc;refine .node hk (λe=>absurd e k1) (λe=>absurd e (by decide)) (λ_=>rfl) hl λj y y' U I=>?_;rcases K6 U with⟨rfl,rfl⟩ | ⟨rfl,rfl⟩
       ·rcases K6 I with⟨_,rfl⟩ | ⟨h,_⟩
        ·rw[e0];exact aj
        ·cases h
       ·rcases K6 I with⟨h,_⟩ | ⟨_,rfl⟩
        ·cases h
        ·refine hq.cong (ho _ (by simp)) _ _ (λs hs i=>?_) λs hs u hu=>?_
         ·by_cases e:s=x
          ·subst e;rcases hc with hc | hc
           ·rw[oW.1 hc];simp[Ey,Rho.del]
           ·exact absurd hs hc
          ·exact LB O.hr s e i
         ·refine O.hv s λe=>?_;subst e;rcases hc with hc | hc
          ·rw[oW.1 hc]at hu;simp[Ey,Rho.del]at hu
          ·exact hc hs
      ·rename_i hc;rw[r1];refine .node hk (λe=>absurd e k1) (λe=>absurd e (by decide)) (λ_=>rfl) hl λj y y' U I=>?_;rcases K6 U with⟨rfl,rfl⟩ | ⟨rfl,rfl⟩
       ·rcases K6 I with⟨_,rfl⟩ | ⟨h,_⟩
        ·rw[e0];exact aj
        ·cases h
       ·rcases K6 I with⟨h,_⟩ | ⟨_,rfl⟩
        ·cases h
        ·exact ih q (J q (by simp)) (ho q (by simp)) false _ _ _ _ _ hq (O.und (nx hc))
     ·have k9:k≠9:=λe=>by rw[e]at hk;revert hk;decide
      rw[uB k1 (by rw[Dg k6 k8 k9];decide)];have e0:∀(j:Nat) (r:Rho),Ey k nm j r=r:=λj r=>by unfold Ey;rw[if_neg (by omega)]
      refine .node hk (λe=>absurd e k1) (λe=>absurd e k6) (λe=>absurd e k8) (by rw[hl,om]) λj y y' U I=>?_;rw[oG]at U;cases ac:l[j]? with
      | none=>rw[ac]at U;cases U
      | some z=>
        rw[ac]at U;cases U;have hm:=oA ac
        have:=hp j z y' ac I
        rw[e0]at this ⊢;exact ih z (J z hm) (ho z hm) false _ _ _ _ _ this O
def r0:Rho:=λ_ _=>none
theorem zAw {k:Int}{nm:ByteArray}:Ey k nm j r0=r0:=by
 unfold Ey;split
 ·funext s m;simp[Rho.del,r0]
 ·rfl
theorem lv0:Lv r0:=λ_ _ _ h=>by cases h
theorem Qf {t:Ty}(h:t.zero=true):t=.mk 0 []:=by
 cases t with
 | mk k l=>simp only[Ty.zero,Ty.k,Ty.as,oE,nF]at h;obtain⟨rfl,I⟩:=h;rw[oL (by omega:l.length=0)]
theorem zAg {r:Rho}{e:Tm}{t:Ty}(J:e.ok=true)(hk:e.kd=2\/e.kd=3)(h:HT r e n t):e=C1 t e.no/\t.base=true:=by
 cases e with
 | mk k nm ot m ty re l=>
 obtain⟨_,I,ha⟩:=Tm.ok_mk.1 J;have hk:k=2\/k=3:=hk;have O:l=[]:=oL (by
  have:sA k nm=0:=by unfold sA;rw[if_pos (by omega)]
  omega)
 subst O;have U:rp k=false:=by rcases hk with rfl | rfl<;>rfl
 have Y:(k==9)=false:=by rcases hk with rfl | rfl<;>rfl
 have hn:xV k nm ot=(decide (nm=bytes [])&&decide (ot=bytes [])):=by unfold xV;rw[if_neg (by omega),if_neg (by omega),if_neg (by omega)]
 simp only[zK,U,Y,hn,oE,Bool.false_or,nF,oq]at I;obtain⟨_,h1,_,h2,_,rfl,rfl⟩:=I;rw[Qf h1,Qf h2];rcases hk with rfl | rfl
 ·cases h;exact⟨rfl,rfl⟩
 ·cases h;exact⟨rfl,rfl⟩
theorem VZ {t:Ty}{r:Rho}{v:List Nb}:G false r v (C1 t n) (C1 t n):=by
 unfold C1;refine .node ?_ (λe=>?_) (λe=>?_) (λe=>?_) rfl λj x x' I=>by simp at I
 ·split<;>rfl
 ·split at e<;>exact absurd e (by decide)
 ·split at e<;>exact absurd e (by decide)
 ·split at e<;>exact absurd e (by decide)
theorem O7 {k:Int}{nm ot:ByteArray}{ty re:Ty}{a:Tm}{l:List Tm}{f:Nat}(hr:(Tm.mk k nm ot n ty re (a::l)).res=false)(hk:k≠10)(hs:AP k (a::l).length=1):
  ((Tm.mk k nm ot n ty re (a::l)).stp (f+1)).1=if a.res=true then(Tm.mk k nm ot n ty re (a::l)).apl.1 else .mk k nm ot n ty re ((a.stp f).1::l):=by
 show(if(Tm.mk k nm ot n ty re (a::l)).res=true then _ else if(Tm.mk k nm ot n ty re (a::l)).kd=10 then _ else match goS (Tm.stp f) (Tm.mk k nm ot n ty re (a::l)) ((a::l).take (AP k (a::l).length)) 0 with
  | some r=>r
  | none=>(Tm.mk k nm ot n ty re (a::l)).apl).1=_
 rw[if_neg (by rw[hr];decide),if_neg (show ¬(Tm.mk k nm ot n ty re (a::l)).kd=10 from hk),hs];simp only[List.take_succ_cons,my,goS];cases a.res with
 | true=>rfl
 | false=>rfl
def Yj (f:Nat):Prop:=∀ x:Tm,x.dp<=f->x.ok=true->∀ p,G true r0 [] x p->x.res=false->G true r0 [] (x.stp f).1 p
theorem G.cod {f:Nat}(hS:Yj f):∀ q:Tm,q.dp<=f->q.ok=true->∀ p,G false r0 [] q p->G false r0 [] (q.cod (Tm.stp f) 1).1 p:=by
 refine Tm.ind λk nm ot n ty re l ih hd ho p hG=>?_;have J:=(Tm.ok_mk.1 ho).1;have O:∀ x∈l,x.dp<=f:=λx hx=>by
  have:=Tm.dp_mem (k:=k) (nm:=nm) (ot:=ot) (n:=n) (ty:=ty) (re:=re) hx
  omega
 cases hG with
 | @splice _ _ _ _ _ _ _ y _ h=>
   simp only[Tm.cod];rw[if_pos (by simp)];show G false r0 [] (if y.res=true then _ else _:Tm × Int × Bool).1 p;cases hr:y.res with
   | true=>
     rw[if_pos rfl];cases h with
     | quote h2=>exact h2
     | lift _ _ _=>cases hr
     | ite _ _ _=>cases hr
     | lt _ _ _ _=>cases hr
   | false=>rw[if_neg (by decide)];exact .splice (hS y (O y (by simp)) (J y (by simp)) p h hr)
 | @node _ _ _ _ _ _ _ _ _ l' hk hv h6 h8 hl hp=>
   have U:¬k=10:=λe=>by rw[e]at hk;revert hk;decide
   have I:¬k=11:=λe=>by rw[e]at hk;revert hk;decide
   have e1:zP k 1=1:=by unfold zP;rw[if_neg U,if_neg I]
   simp only[Tm.cod];rw[if_neg (λh=>I h.1),e1];cases hc:ym (Tm.stp f) l 1 with
   | none=>exact .node hk hv h6 h8 hl hp
   | some r=>
     obtain⟨l2,rr⟩:=r;obtain⟨j,x,hj,rfl⟩:=EI hc;refine .node hk hv (λe=>by rw[nZ];exact h6 e) (λe=>by rw[nZ];exact h8 e) (by rw[nZ];exact hl) λi y y' hi Y=>?_;rw[zAw];rw[nR]at hi;split at hi
     ·rename_i e;subst e;split at hi
      ·cases hi
       have:=hp j x y' hj Y
       rw[zAw]at this;exact ih x (oA hj) (O x (oA hj)) (J x (oA hj)) y' this
      ·cases hi
     ·have:=hp i y y' hi Y
      rwa[zAw]at this
theorem D6 {e:Tm}{r:Rho}{t:Ty}(I:e.ok=true)(O:e.isB=true)(hr:e.res=true)(h:HT r e 0 t):LitY e t e.no/\e=C1 t e.no:=by have J:=Pr I O hr;obtain⟨U,Y⟩:=zAg I J.1 h;exact⟨⟨J,λr'=>OZ h hr Y r' 0 inferInstance⟩,U⟩
theorem G.stp:∀ f,Yj f
 | 0,x,hd,_,_,_,_=>absurd (Tm.dp_pos x) (by omega)
 | f + 1,.mk k nm ot n ty re l,hd,ho,p,hG,hr=>by
   have hS:=G.stp f;have I:=(Tm.ok_mk.1 ho).1;have aa:∀ x∈l,x.dp<=f:=λx hx=>by
    have:=Tm.dp_mem (k:=k) (nm:=nm) (ot:=ot) (n:=n) (ty:=ty) (re:=re) hx
    omega
   have J:∀ e∈l,e.isB=true->(e.stp f).1.isB=true/\(e.stp f).1.ev []=e.ev []:=λe Y O=>WU f e (aa e Y) (I e Y) O;have ab:∀ e∈l,∀ t,HT r0 e 0 t->HT r0 (e.stp f).1 0 t:=λe Y t ht=>WX f e r0 t (aa e Y) (I e Y) ht lv0;cases hG with
   | @lift _ _ _ _ _ _ _ e t O ht hb=>
     rw[O7 hr (by decide) (by rfl)];split
     ·rename_i Y;obtain⟨h1,h2⟩:=D6 (I e (by simp)) O Y ht;have e1:(Tm.mk 13 nm ot n ty re [e]).apl.1=Tm.nod 10 [e]:=by have hk:=h1.l.1;simp only[Tm.apl,nk];rw[if_neg (by decide),if_neg (by decide),if_neg (by decide),if_neg (by decide),if_neg (by decide),if_pos trivial,if_pos hk]
      rw[e1,h1.l.ev []];refine .quote ?_;rw[h2];have:(C1 t e.no).no=e.no:=rfl;rw[this];exact VZ
     ·rw[<-(J e (by simp) O).2];exact .lift (J e (by simp) O).1 (ab e (by simp) t ht) hb
   | @ite _ _ _ _ _ _ _ c a b _ O ht h=>
     rw[O7 hr (by decide) (by rfl)];split
     ·rename_i Y;obtain⟨h1,h2⟩:=D6 (I c (by simp)) O Y ht;have U:c.kd=3:=by rw[h2];rfl
      have hn:0<=c.no/\c.no<=1:=by
       have hc:=I c (by simp);revert hc U;cases c with
       | mk k2 ac ae n2 ah ai l2=>intro U hc;have U:k2=3:=U;subst U;have hf:=(Tm.ok_mk.1 hc).2.1;simp only[zK,oE,inB,oq]at hf;exact hf.2.2.2.2.1
      have e1:(Tm.mk 5 nm ot n ty re [c,a,b]).apl.1=if c.no=1 then a else b:=by
       simp only[Tm.apl,nk];rw[if_neg (by decide),if_pos trivial,if_pos U];have:c.no=0\/c.no=1:=by omega
       rcases this with h | h<;>rw[h]<;>rfl
      rw[e1];rw[h1.l.ev []]at h;exact h
     ·refine .ite (J c (by simp) O).1 (ab c (by simp) _ ht) ?_;rw[(J c (by simp) O).2];exact h
   | @lt _ _ _ _ _ _ _ a b t _ O ht hb h=>
     rw[O7 hr (by decide) (by rfl)];split
     ·rename_i Y;obtain⟨h1,h2⟩:=D6 (I a (by simp)) O Y ht;have e1:(Tm.mk 8 nm ot n ty re [a,b]).apl.1=b.sb nm a:=by simp only[Tm.apl,nk];rw[if_neg (by decide),if_neg (by decide),if_neg (by decide),if_pos trivial];rfl
      rw[e1,Tm.sb];rw[h1.l.ev []]at h;refine G.sub h1 hb b.dp b (oD _) (I b (by simp)) true _ _ r0 [] p h ⟨λs hs m=>zB _ hs _ _ _,λs hs=>?_,λi u hu=>?_,?_,?_⟩
      ·rw[zR,if_neg (λe=>hs e.symm)]
      ·rw[zM]at hu;split at hu
       ·rename_i e;cases hu;exact⟨e.symm,rfl⟩
       ·cases hu
      ·rw[zM,if_pos rfl]
      ·rw[zR,if_pos rfl]
     ·refine .lt (J a (by simp) O).1 (ab a (by simp) _ ht) hb ?_;rw[(J a (by simp) O).2];exact h
   | @quote _ _ _ _ _ _ _ q _ h=>
     have e1:((Tm.mk 10 nm ot n ty re [q]).stp (f+1)).1=.mk 10 nm ot n ty re [(q.cod (Tm.stp f) 1).1]:=by show(if(Tm.mk 10 nm ot n ty re [q]).res=true then _ else if(Tm.mk 10 nm ot n ty re [q]).kd=10 then _ else _:Tm × Int).1=_;rw[if_neg (by rw[hr];decide),if_pos (show(Tm.mk 10 nm ot n ty re [q]).kd=10 from rfl)];rfl
     rw[e1];exact .quote (G.cod hS q (aa q (by simp)) (I q (by simp)) p h)
theorem HP:∀ {l:List Tm}{n:Int},uu l n=true->∀ x∈l,x.made n=true
 | y::l,n,h,x,hx=>by
   simp only[uu,oE]at h;rcases oH.1 hx with rfl | hx
   ·exact h.1
   ·exact HP h.2 x hx
theorem G.made {b:Bool}{r:Rho}{v:List Nb}{t p:Tm}(h:G b r v t p):b=false->t.made 1=true->p=t:=by
 induction h with
 | lift=>intro h;cases h
 | ite=>intro h;cases h
 | lt=>intro h;cases h
 | quote=>intro h;cases h
 | splice=>intro _ h;simp[Tm.made]at h
 | @node r v k nm ot m ty re l l' hk hv h6 h8 hl hp ih=>
   intro _ hm;have I:¬k=10:=λe=>by rw[e]at hk;revert hk;decide
   have J:¬k=11:=λe=>by rw[e]at hk;revert hk;decide
   have e1:zP k 1=1:=by unfold zP;rw[if_neg I,if_neg J]
   simp only[Tm.made,oE,e1]at hm;congr 1;refine nK λj=>?_;cases U:l[j]? with
   | none=>rw[nX]at U ⊢;omega
   | some x=>
     have Y:j<l'.length:=by rw[hl];exact(oC.1 U).1
     have O:=oF Y;rw[O,ih j x _ U O rfl (HP hm.2 x (oA U))]
theorem G.done {r:Rho}{v:List Nb}{x p:Tm}(h:G true r v x p)(hr:x.res=true):x.kd=10/\x.pt 0=p:=by
 cases h with
 | lift _ _ _=>cases hr
 | ite _ _ _=>cases hr
 | lt _ _ _ _=>cases hr
 | @quote _ _ nm ot m ty re q _ h=>refine⟨rfl,?_⟩;have:(Tm.mk 10 nm ot m ty re [q]).res=((Tm.mk 10 nm ot m ty re [q]).lev 0&&q.made 1):=rfl;rw[this,oE]at hr;exact(h.made rfl hr.2).symm
theorem S5 (v:List Bd):∀ l:List Tm,(rl l v).length=l.length
 | []=>rfl
 | x::l=>by simp only[rl,oJ,S5 v l]
theorem OW (k:Int)(nm:ByteArray)(v:List Bd):∀ l:List Tm,(uH l k nm v).length=l.length
 | []=>rfl
 | x::l=>by simp only[uH,oJ,S5]
theorem ZQ {k:Int}{nm ot:ByteArray}{m:Int}{ty re:Ty}{l:List Tm}:(Tm.mk k nm ot m ty re l).lev n=true↔(0<=n/\n<=2)/\∀ x∈l,x.lev (zP k n)=true:=by simp only[Tm.lev,oE,Jf,za]
theorem J8:∀(t:Tm),t.isB=true->∀ n:Int,0<=n->n<=2->t.lev n=true:=by
 refine Tm.ind λk nm ot m ty re l U Y n J O=>?_;obtain⟨I,hk⟩:=Kz Y;refine ZQ.2 ⟨⟨J,O⟩,λx hx=>?_⟩;have e:zP k n=n:=by unfold zP;rw[if_neg (by omega),if_neg (by omega)]
 rw[e];exact U x hx (I x hx) n J O
structure Kn (w:List Pl) (g:List Tg) (r:Rho) (v:List Nb):Prop where
 st:∀ s,s8 s (w.map plB)=some false->(∀ m,yF g s m=r s m)/\wT s (w.map plN)=wT s v
 dy:∀ s,s8 s (w.map plB)=some true->r s 0=none
 in_:∀ s u,yF g s 0=some u->∃ b,s8 s (w.map plB)=some b
 bs:∀ s m u,yF g s m=some u->m=0/\u.base=true
theorem Wj {r:Rho}{nm:ByteArray}{t:Ty}(h:∀ s m u,r s m=some u->m=0/\u.base=true)(J:t.base=true):∀ s m u,r.set nm 0 t s m=some u->m=0/\u.base=true:=λs m u I=>by
 by_cases e:s=nm
 ·subst e;rw[zM]at I;split at I
  ·rename_i O;cases I;exact⟨O.symm,J⟩
  ·cases I
 ·rw[zB _ e]at I;exact h s m u I
theorem Kn.stat {r:Rho}{v:List Nb}(h:Kn w g r v)(nm:ByteArray){t:Ty}(O:t.base=true)(n:Int):Kn (w++[(nm,n,false)]) (g++[⟨nm,t,0⟩]) (r.set nm 0 t) (v++[(nm,n)]):=by
 have e1:(w++[((nm,n,false):Pl)]).map plB=w.map plB++[(nm,false)]:=by simp[plB]
 have U:(w++[((nm,n,false):Pl)]).map plN=w.map plN++[(nm,n)]:=by simp[plN]
 have I:yF (g++[⟨nm,t,0⟩])=Rho.set (yF g) nm 0 t:=vz g ⟨nm,t,0⟩;refine⟨λs hs=>?_,λs hs=>?_,λs u J=>?_,by rw[I];exact Wj h.bs O⟩
 ·rw[e1,xo]at hs;rw[I,U,zR,zR];by_cases e:nm=s
  ·subst e;exact⟨λm=>by rw[zM,zM],by simp⟩
  ·rw[if_neg e]at hs ⊢
   have:=h.st s hs
   exact⟨λm=>by rw[zB _ (λh=>e h.symm),zB _ (λh=>e h.symm)];exact this.1 m,by rw[if_neg e];exact this.2⟩
 ·rw[e1,xo]at hs;by_cases e:nm=s
  ·rw[if_pos e]at hs;cases hs
  ·rw[if_neg e]at hs;rw[zB _ (λh=>e h.symm)];exact h.dy s hs
 ·rw[e1,xo];by_cases e:nm=s
  ·rw[if_pos e];exact⟨_,rfl⟩
  ·rw[if_neg e];rw[I,zB _ (λh=>e h.symm)]at J;exact h.in_ s u J
theorem Kn.lat {r:Rho}{v:List Nb}(h:Kn w g r v)(nm:ByteArray){t:Ty}(O:t.base=true)(n:Int):Kn (w++[(nm,n,true)]) (g++[⟨nm,t,0⟩]) (r.del nm) v:=by
 have e1:(w++[((nm,n,true):Pl)]).map plB=w.map plB++[(nm,true)]:=by simp[plB]
 have U:(w++[((nm,n,true):Pl)]).map plN=w.map plN++[(nm,n)]:=by simp[plN]
 have I:yF (g++[⟨nm,t,0⟩])=Rho.set (yF g) nm 0 t:=vz g ⟨nm,t,0⟩;refine⟨λs hs=>?_,λs hs=>?_,λs u J=>?_,by rw[I];exact Wj h.bs O⟩
 ·rw[e1,xo]at hs;by_cases e:nm=s
  ·rw[if_pos e]at hs;cases hs
  ·rw[if_neg e]at hs
   have:=h.st s hs
   rw[I,U,zR,if_neg e];exact⟨λm=>by rw[zB _ (λh=>e h.symm),Rho.del,if_neg (λh=>e h.symm)];exact this.1 m,this.2⟩
 ·unfold Rho.del;by_cases e:s=nm
  ·rw[if_pos e]
  ·rw[if_neg e];rw[e1,xo,if_neg (λh=>e h.symm)]at hs;exact h.dy s hs
 ·rw[e1,xo];by_cases e:nm=s
  ·rw[if_pos e];exact⟨_,rfl⟩
  ·rw[if_neg e];rw[I,zB _ (λh=>e h.symm)]at J;exact h.in_ s u J
theorem Sb {t:Tm}{r:Rho}{v:List Nb}(I:SpC t w g)(J:Kn w g r v)(hl:t.late (w.map plB)=false):HT r t 0 (tyZ t g 0)/\(tyZ t g 0).base=true/\t.ev (w.map plN)=t.ev v:=by
 obtain⟨u,U⟩:=I.ty;have h:=D2 t I.ok g 0 u (J8 t I.b 0 (by decide) (by decide)) U;have O:=Tq (r:=yF g) (λs m t h=>(J.bs s m t h).2) t I.ok I.b (yF g) (λs m t h=>(J.bs s m t h).2) u h;have Y:∀ s∈t.fv,s8 s (w.map plB)=some false:=λs hs=>by
  obtain⟨x,hx⟩:=Pg h I.ok I.b s hs;obtain⟨b,O⟩:=J.in_ s x hx
  have:=Xf t I.ok I.b _ hl s hs
  rw[O]at this ⊢;cases b with
  | false=>rfl
  | true=>cases this
 rw[QX U];exact⟨qI h r λs hs=>(J.st s (Y s hs)).1,O,Gh t I.ok _ _ λs hs=>(J.st s (Y s hs)).2⟩
theorem Uz:∀ (t:Tm) (w:List Pl) (g:List Tg) (r:Rho) (v:List Nb),SpC t w g->Kn w g r v->G true r v (t.code (w.map plB)) (t.sp w g):=by
 refine Tm.ind fun k nm ot n ty re l ih w g r v hS hK=>?_;obtain⟨hBl,hk⟩:=Kz hS.b;have nd:=zT hS.ok;have har:=nd.ar;simp only[Tm.code,Tm.sp];cases hl:(Tm.mk k nm ot n ty re l).late (w.map plB)with
 | false=>rw[if_pos rfl,if_pos rfl];obtain⟨h1,h2,h3⟩:=Sb hS hK hl;rw[h3];exact .lift hS.b h1 h2
 | true =>
   rw[if_neg (show ¬(true=false) by decide),if_neg (show ¬(true=false) by decide)];by_cases k1:k=1
   ·subst k1;have:l=[]:=oL (by have:(l.length:Int)=0:=har;omega);subst this;rw[if_pos rfl,if_neg (by simp),if_neg (by simp)];have h3:(s8 nm (w.map plB)).getD false=true:=hl;refine .quote (.node rfl (fun _=>hK.dy nm ?_) (fun e=>absurd e (by decide)) (fun e=>absurd e (by decide)) rfl fun j x x' hj=>by simp at hj);cases h4:s8 nm (w.map plB)with
    | none=>rw[h4]at h3;cases h3
    | some b=>rw[h4]at h3;exact lY some h3
   rw[if_neg k1];by_cases hc:k≠4/\wg l (w.map plB)=false
   ·rw[if_pos hc];have k2:k≠2:=fun e=>by subst e;have:l=[]:=oL (by have:(l.length:Int)=0:=har;omega);subst this;cases hl
    have k3:k≠3:=fun e=>by subst e;have:l=[]:=oL (by have:(l.length:Int)=0:=har;omega);subst this;cases hl
    have h58:k=5\/k=8:=by have:=hc.1;omega
    rcases h58 with rfl | rfl
    ·obtain⟨c,a,b,rfl⟩:=zA5 (l:=l) (by have:(l.length:Int)=3:=har;omega);have hcl:c.late (w.map plB)=false:=hc.2;rw[if_pos ⟨rfl,hc.2⟩];have s0:=hS.flat (.inr rfl) (x:=c) (by simp);obtain⟨h1,h2,h3⟩:=Sb s0 hK hcl;have hcond:=hS.cond;obtain⟨u,hu⟩:=hS.ty;have hz:tyZ c g 0=tBool:=by
      have hh:=D2 _ hS.ok g 0 u (J8 _ hS.b 0 (by decide) (by decide)) hu;cases hh with
      | ite ha _ _=>exact QX (RX ha g rfl)
     rw[hz]at h1;have ga:=ih a (by simp) w g r v (hS.flat (.inr rfl) (by simp)) hK;have gb:=ih b (by simp) w g r v (hS.flat (.inr rfl) (by simp)) hK;have e1:sD [c,a,b] 0 (w.map plN)=c.ev (w.map plN):=by simp[sD]
     have e2:t5 [c,a,b] 5 nm (w.map plB)=[c,a.code (w.map plB),b.code (w.map plB)]:=by simp only[t5,qS,bdE];rw[if_neg (by decide)]
     rw[e1,e2];refine .ite s0.b h1 ?_;rw[<-h3];rcases hcond with h | h
     ·rw[h,if_neg (by decide)];simpa [O2]using gb
     ·rw[h,if_pos rfl];simpa [O2]using ga
    ·obtain⟨a,b,rfl⟩:=YM (l:=l) (by have:(l.length:Int)=2:=har;omega);have hal:a.late (w.map plB)=false:=hc.2;rw[if_neg (by simp),if_pos ⟨rfl,hc.2⟩];obtain⟨s0,_,s1⟩:=hS.let_;obtain⟨h1,h2,h3⟩:=Sb s0 hK hal;have gb:=ih b (by simp) _ _ _ _ s1 (hK.stat nm h2 (a.ev (w.map plN)));have e1:(w++[((nm,a.ev (w.map plN),false):Pl)]).map plB=w.map plB++[(nm,false)]:=by simp[plB]
     have e2:t5 [a,b] 8 nm (w.map plB)=[a,b.code (w.map plB++[(nm,false)])]:=by simp only[t5,qS,bdE,hal,nj]
     have e3:K1 [a,b] nm w g=b.sp (w++[(nm,a.ev (w.map plN),false)]) (g++[⟨nm,tyZ a g 0,0⟩]):=by simp[K1,O2]
     rw[e1]at gb;rw[e2,e3];refine .lt s0.b h1 h2 ?_;rw[<-h3];exact gb
   ·rw [if_neg hc];have hsp:(if k=5/\wg l (w.map plB)=false then O2 l (2 - sD l 0 (w.map plN)).toNat w g else if k=8/\wg l (w.map plB)=false then K1 l nm w g else Tm.mk k nm ot n ty re (xq l k nm w g))=.mk k nm ot n ty re (xq l k nm w g):=by rw[if_neg (fun h=>hc ⟨by omega,h.2⟩),if_neg (fun h=>hc ⟨by omega,h.2⟩)]
    rw[hsp];refine .quote (.node ?_ (fun e=>absurd e k1) (fun e=>by omega) (fun e=>?_) (by rw[Bn,OW]) fun j x x' hj hj'=>?_)
    ·unfold cdK;rcases hk with rfl | rfl | rfl | rfl | rfl | rfl<;>rfl
    ·rw[OW];subst e;have:(l.length:Int)=2:=har;omega
    ·cases hy:l[j]? with
     | none=>
       have:(uH l k nm (w.map plB))[j]?=none:=by rw[nX,OW];exact nX.1 hy
       rw[this]at hj;cases hj
     | some y=>
       rw[Ro l k nm _ j y hy]at hj;rw[Bm l k nm w g j y hy]at hj';cases hj;cases hj';have hm:=oA hy;have sp:=hS.part hy;refine .splice ?_;by_cases h81:k=8/\j≠0
       ·obtain⟨rfl,hj0⟩:=h81;have hj1:j=1:=by have:=(oC.1 hy).1;have:(l.length:Int)=2:=har;omega
        subst hj1;have hh:wg l (w.map plB)=true:=by
         cases h:wg l (w.map plB)with
         | true=>rfl
         | false=>exact absurd ⟨by decide,h⟩ hc
        have eb:bdI 8 nm l (w.map plB) 1=(wI 8 nm w 1).map plB:=by simp[bdI,bdE,wI,hh,plB]
        have er:Ey 8 nm 1 r=r.del nm:=by unfold Ey;rw[if_pos (.inr ⟨rfl,rfl⟩)]
        rw[eb,er];obtain⟨a,b,rfl⟩:=YM (l:=l) (by have:(l.length:Int)=2:=har;omega);obtain⟨u,hu⟩:=hS.let_.1.ty;have hta:(tyZ a g 0).base=true:=by rw[QX hu];have hh:=D2 a hS.let_.1.ok g 0 u (J8 a hS.let_.1.b 0 (by decide) (by decide)) hu;exact Tq (r:=yF g) (fun s m t h=>(hK.bs s m t h).2) a hS.let_.1.ok hS.let_.1.b (yF g) (fun s m t h=>(hK.bs s m t h).2) u hh
        exact ih y hm _ _ _ _ sp (hK.lat nm hta 0)
       ·have ew : wI k nm w j = w := by unfold wI;split
                                        ·rfl
                                        ·rw[if_neg (fun e=>h81 ⟨e,by assumption⟩)]
        have eg : gI k nm l g j = g := by unfold gI;split
                                          ·rfl
                                          ·rw[if_neg (fun e=>h81 ⟨e,by assumption⟩)]
        have eb:bdI k nm l (w.map plB) j=w.map plB:=by
         unfold bdI bdE;split
         ·rfl
         ·rw[if_neg (fun e=>h81 ⟨e,by assumption⟩)]
        have er:Ey k nm j r=r:=by
         unfold Ey;rw[if_neg]
         rintro(⟨e,_⟩ | ⟨e,e2⟩)
         ·omega
         ·exact h81 ⟨e,by omega⟩
        rw[ew,eg]at sp ⊢;rw[eb,er];exact ih y hm w g r v sp hK
def Lu:Tm->List Pm->List Int->Tm
 | t,p::g,n::ns=>Lu (Tm.nod 7 [t,C1 p.ty n]) g ns
 | t,_,_=>t
def Eo:List Pm->List Int->List Tm
 | p::g,n::ns=>C1 p.ty n::Eo g ns
 | _,_=>[]
theorem PP:∀(g:List Pm)(ns:List Int)(t:Tm),Lu t g ns=spn t (Eo g ns)
 | [],[],t=>rfl
 | [],_::_,t=>rfl
 | _::_,[],t=>rfl
 | p::g,n::ns,t=>by simp only[Lu,Eo,spn];exact PP g ns _
theorem J7:∀(g:List Pm)(ns:List Int)(t:Tm),(Lu t g ns).cnt<=t.cnt+6*g.length
 | [],ns,t=>by cases ns<;>simp[Lu]
 | _::_,[],t=>by simp only[Lu];omega
 | p::g,n::ns,t=>by
   have h:=J7 g ns (Tm.nod 7 [t,C1 p.ty n]);have I:=Kj p.ty n;have J:(Tm.nod 7 [t,C1 p.ty n]).cnt=3+(t.cnt+((C1 p.ty n).cnt+0)):=by simp only[Tm.nod,Tm.cnt,Ty.cnt,zN,zG]
   simp only[Lu,oJ];omega
end Go.Proofs.YtlaniepnglheoaaGreat
set_option maxRecDepth 100000
namespace Go.Proofs.YtlaniepnglheoaaGreat
open Go Go.Proofs Go.Proofs.Tryz Go.IntWalk
variable {es:List D} {i:Int}
theorem KY {l:List D}{i:Nat}(h:i<l.length):l.getD i default∈l:=by rw[oB,oF h];exact mM h
structure Cu (es:List D) (i:Int):Prop where
 b:∀ d∈es,∃ n:Int,d=.lit (.int .u8 n)
 l:es.length<=1073741824
 lo:0<=i
 hi:i<=es.length
theorem PO (x:Int):0<=IntKind.i64.wrap ((BitVec.ofInt 64 x &&& BitVec.ofInt 64 255).toNat:Int)/\IntKind.i64.wrap ((BitVec.ofInt 64 x &&& BitVec.ofInt 64 255).toNat:Int)<=255:=by
 have h:(BitVec.ofInt 64 x &&& BitVec.ofInt 64 255).toNat<=255:=by rw[BitVec.toNat_and];exact oP Nat.and_le_right (by decide)
 rw[i64_in _ (by omega)];omega
theorem zAT (O:∀ d∈es,∃ n:Int,d=.lit (.int .u8 n))(U:es.length<=1073741824)(a:Option Addr)(c:Nat)(N:Nat)(Q:QT [.cu])(Y:∀ h N',N<=N'->Cu es 0->Q a es c 0 h N'):ACalls prog 33 [.cu] [.sv a 0 es c] N Q:=by
 refine Np N a es c Q λ_=>?_;have fin:∀ h N',N<=N'->Q a es c 0 h N':=λh N' I=>Y h N' I ⟨O,U,by omega,by omega⟩;have key:∀(n i:Nat) (h:Int) (N':Nat),i+n=es.length->N<=N'->uV Q N a es c h i N':=by
  intro n
  induction n with
  | zero=>intro i h N' hi I;refine BV ?_;rw[md (by omega)];exact λN1 J=>fin _ _ (by omega)
  | succ n ih=>
    intro i h N' hi I;refine BV ?_;rw[mJ (by omega)];rw[Y1.2.2.1];rcases Int.lt_or_le (i:Int) 4000 with h4 | h4
    rotate_left
    ·rw[md (by omega)];exact λN1 J=>fin _ _ (by omega)
    rw[mJ h4,Y1.2.2.1];refine And.intro ⟨by omega,by omega⟩ ?_;rw[oI];obtain⟨x,hx⟩:=O (es.getD i default) (KY (by omega));refine⟨x,hx,?_⟩;rw[i64_in ((i:Int)+1) (by omega)];exact ih (i+1) _ N' (by omega) I
 exact key es.length 0 _ N (by omega) (oD _)
theorem MP (hc:Cu es i)(a:Option Addr)(c:Nat)(h:Int)(N:Nat)(Q:QT [.i,.sl 0,.i,.i])(O:∀ x U es' Y i' h' N',N<=N'->Cu es' i'->0<=x->x<=255->Q x U es' Y i' h' N'):BCalls prog 84 [.i,.sl 0,.i,.i] [.pb 0 0 0 0] [.var [.sv a 0 es c,.j i,.j h]] N Q:=by
 have h1:=hc.lo;have h2:=hc.hi;have h3:=hc.l;refine Fh N a es c i h Q λE _=>⟨by omega,by omega,Br.dec (λJ=>⟨⟨h1,J⟩,?_⟩) λ_=>⟨vN,λN1 I=>O _ _ _ _ _ _ _ I hc (PO _).1 (PO _).2⟩⟩
 obtain⟨x,hx⟩:=hc.b (es.getD i.toNat default) (KY (by omega));refine⟨x,hx,vN,λN1 I=>O _ _ _ _ _ _ _ I ?_ (PO _).1 (PO _).2⟩;rw[i64_in (i+1) (by omega)];exact⟨hc.b,hc.l,by omega,by omega⟩
theorem xd (hc:Cu es i)(n:Int)(hn:n<=4294967296)(a:Option Addr)(c:Nat)(h:Int)(N:Nat)(Q:QT [.i,.sl 0,.i,.i])(hQ:∀ x J es' O i' U N',N<=N'->Cu es' i'->0<=x->(0<n->x<n)->(n<=0->x=0)->Q x J es' O i' U N'):BCalls prog 36 [.i,.sl 0,.i,.i] [.pb 0 0 0 0,.j n] [.var [.sv a 0 es c,.j i,.j h]] N Q:=by
 have tm:∀ x:Int,0<=x->0<n->0<=Int.tmod x n/\Int.tmod x n<n:=λx hx h0=>⟨Int.tmod_nonneg _ hx,Int.tmod_lt_of_pos _ h0⟩
 refine Eb N n a es c i h Q λE _=>Br.dec (λh0=>⟨vN,λN1 Y=>hQ _ _ _ _ _ _ _ Y hc (by omega) (by omega) λ_=>rfl⟩) λh0=>Br.dec (λhs N1 Y=>?_) λhs N1 Y=>?_
 ·exact MP hc a c h N1 _ λx J es' O i' U N2 aa I x0 x1 _ _=>⟨by omega,vN,λN3 ab=>hQ _ _ _ _ _ _ _ (by omega) I (tm x x0 (by omega)).1 (λg=>(tm x x0 g).2) λg=>by omega⟩
 ·refine MP hc a c h N1 _ λx J es' O i' U N2 aa I x0 x1 _ _ N3 ab=>?_;refine MP I J O U N3 _ λy J es' O i' U N4 ac I y0 y1 _ _ N5 ae=>?_;refine MP I J O U N5 _ λz J es' O i' U N6 ah I z0 z1 _ _ N7 ai=>?_;refine MP I J O U N7 _ λw J es' O i' U N8 aj I w0 w1 _ _=>⟨by omega,vN,λN9 ak=>?_⟩
  have e:IntKind.i64.wrap (IntKind.i64.wrap (IntKind.i64.wrap (IntKind.i64.wrap (x*16777216)+IntKind.i64.wrap (y*65536))+IntKind.i64.wrap (z*256))+w)=x*16777216+y*65536+z*256+w:=by rw[i64_in (x*16777216) (by omega),i64_in (y*65536) (by omega),i64_in (z*256) (by omega),i64_in (x*16777216+y*65536) (by omega),i64_in (x*16777216+y*65536+z*256) (by omega),i64_in _ (by omega)]
  have hq:=hQ (Int.tmod (x*16777216+y*65536+z*256+w) n) J es' O i' U N9 (by omega) I (tm _ (by omega) (by omega)).1 (λg=>(tm _ (by omega) g).2) λg=>by omega
  rw[<-e]at hq;exact hq
theorem El (hc:Cu es i)(n:Int)(hn:n<=4294967296)(a:Option Addr)(c:Nat)(h:Int)(N:Nat)(Q:QT [.bool,.sl 0,.i,.i])(Y:∀ b J es' O i' U N',N<=N'->Cu es' i'->Q b J es' O i' U N'):BCalls prog 133 [.bool,.sl 0,.i,.i] [.pb 0 0 0 0,.j n] [.var [.sv a 0 es c,.j i,.j h]] N Q:=
 Fi N n a es c i h Q λE _ N1 aa=>xd hc n hn a c h N1 _ λx J es' O i' U N2 ab I _ _ _ _ _=>⟨vN,λN3 ac=>Y _ _ _ _ _ _ _ (by omega) I⟩
theorem pV (hc:Cu es i)(l:List ByteArray)(h0:0<l.length)(hl:l.length<=4294967296)(a:Option Addr)(c:Nat)(h:Int)(k q:Nat)(N:Nat)(Q:QT [.str,.sl 0,.i,.i,.sl 0])(hQ:∀ s O es' U i' Y N',N<=N'->Cu es' i'->s∈l->Q s O es' U i' Y none (zD l) q N'):BCalls prog 85 [.str,.sl 0,.i,.i,.sl 0] [.pb 0 0 0 0,.sb 1 0 0 l.length k] [.var [.sv a 0 es c,.j i,.j h],.arr 9 0 (zD l) q] N Q:=by
 have aa:=zj l;refine Fj N l.length k a es c i h (zD l) q Q λE _ _ N1 ab=>?_;refine xd hc l.length (by omega) a c h N1 _ λx O es' U i' Y N2 ac I x0 J _ _ _=>?_;have J:=J (by omega);have hx:x.toNat<l.length:=by omega
 refine⟨⟨x0,J,by omega⟩,by omega,l[x.toNat],?_,vN,λN3 ae=>hQ _ _ _ _ _ _ _ (by omega) I (mM hx)⟩;simp[zD,oB,oG,oF hx]
theorem rM (hc:Cu es i)(l:List Int)(h0:0<l.length)(hl:l.length<=4294967296)(a:Option Addr)(c:Nat)(h:Int)(k q:Nat)(N:Nat)(Q:QT [.i,.sl 0,.i,.i,.sl 0])(hQ:∀ s O es' U i' Y N',N<=N'->Cu es' i'->s∈l->Q s O es' U i' Y none (yp l) q N'):BCalls prog 137 [.i,.sl 0,.i,.i,.sl 0] [.pb 0 0 0 0,.sb 1 0 0 l.length k] [.var [.sv a 0 es c,.j i,.j h],.arr 3 0 (yp l) q] N Q:=by
 have aa:=tg l;refine By N l.length k a es c i h (yp l) q Q λE _ _ N1 ab=>?_;refine xd hc l.length (by omega) a c h N1 _ λx O es' U i' Y N2 ac I x0 J _ _ _=>?_;have J:=J (by omega);have hx:x.toNat<l.length:=by omega
 refine⟨⟨x0,J,by omega⟩,by omega,l[x.toNat],?_,vN,λN3 ae=>hQ _ _ _ _ _ _ _ (by omega) I (mM hx)⟩;simp[yp,oB,oG,oF hx]
inductive Wf:Ty->Prop
 | int:Wf tInt
 | bool:Wf tBool
 | fn {a b:Ty}:Wf a->Wf b->Wf (wD a b)
 | code {a:Ty}:Wf a->Wf (wM a)
def bn (k:Int):Nat:=if k=6 then 1 else if k=8 then 1 else if k=9 then 2 else 0
theorem zAI (k:Int):bn k<=2:=by
 unfold bn;split
 ·decide
 ·split
  ·decide
  ·split<;>decide
mutual
def Tm.bd:Tm->Nat
 | .mk k _ _ _ _ _ l=>bn k+Zl l
def Zl:List Tm->Nat
 | []=>0
 | t::I=>max t.bd (Zl I)
end
mutual
def Tm.wt:Tm->Nat
 | .mk k _ _ _ ty re l=>1+ty.cnt+re.cnt+2 ^ bn k*rm l
def rm:List Tm->Nat
 | []=>0
 | t::I=>t.wt+rm I
end
theorem Zr (k:Int)(n:Nat):n<=2 ^ bn k*n:=Nat.le_mul_of_pos_left _ (Nat.two_pow_pos _)
theorem QU {f:Tm->Nat}:∀ {l:List Tm},(∀ x∈l,f x<=x.wt)->(l.map f).sum<=rm l
 | [],_=>by simp[rm]
 | t::I,h=>by have J:=h t (by simp);have O:=QU (l:=I) λx hx=>h x (by simp[hx]);simp only[oZ,List.sum_cons,rm];omega
theorem Je:∀ l:List Tm,zG l=(l.map Tm.cnt).sum
 | []=>rfl
 | t::I=>by simp only[zG,oZ,List.sum_cons,Je I]
theorem Tm.cnt_wt:∀ t:Tm,t.cnt<=t.wt:=by
 refine Tm.ind λk nm ot n ty re l I=>?_;have h:=QU I
 have:=Zr k (rm l)
 simp only[Tm.cnt,Tm.wt,Je];omega
end Go.Proofs.YtlaniepnglheoaaGreat
set_option maxRecDepth 100000
namespace Go.Proofs.YtlaniepnglheoaaGreat
open Go Go.Proofs Go.Proofs.Tryz Go.IntWalk
variable {d:D} {es:List D} {i:Int} {s:ByteArray}
def Some (m:Nat)(d:D):Prop:=∃ t:Tm,t.Is d/\t.wt<=m
def SomB (m:Nat)(d:D):Prop:=∃ t:Tm,t.Is d/\t.cnt<=m/\t.bd<=20
theorem SomB.mono {m n:Nat}(h:SomB m d)(hn:m<=n):SomB n d:=by obtain⟨t,I,O,J⟩:=h;exact⟨t,I,by omega,J⟩
theorem Some.mono {m n:Nat}(h:Some m d)(hn:m<=n):Some n d:=by obtain⟨t,I,J⟩:=h;exact⟨t,I,by omega⟩
theorem Zf {m:Nat}:∀ {es:List D},(∀ d∈es,Some m d)->∃ l,All2 Tm.Is l es/\(∀ x∈l,x.wt<=m)
 | [],_=>⟨[],rfl,by simp⟩
 | d::es,h=>by
   obtain⟨t,I,J⟩:=h d (by simp);obtain⟨l,O,U⟩:=Zf λx hx=>h x (nz d hx);exact⟨t::l,⟨d,es,rfl,I,O⟩,λx hx=>by
    rcases oH.1 hx with rfl | hx
    ·exact J
    ·exact U x hx⟩
theorem NS {m:Nat}:∀ {l:List Tm},(∀ x∈l,x.wt<=m)->rm l<=l.length*m
 | [],_=>by simp[rm]
 | x::l,h=>by have J:=NS (l:=l) λy I=>h y (by simp[I]);have O:=h x (by simp);simp only[rm,oJ,nG,mt];omega
theorem WR (k:Int){m:Nat}(hm:m<=1073741824)(I:∀ d∈es,Some m d)(hl:es.length<=1000)(a:Option Addr)(c:Nat)(N:Nat)(Q:QT [.ag 9])(hQ:∀ d' N',N<=N'->Some (3+es.length*m) d'->Own N N' d'->Q d' N')(hk:bn k=0:=by decide):ACalls prog 28 [.ag 9] [.j k,.sv a 9 es c] N Q:=by
 obtain⟨l,U,Y⟩:=Zf I;have J:=U.len;refine uW k U (by omega) (λx hx=>oP x.cnt_wt (oP (Y x hx) hm)) a c N _ λd' N' O hd ho=>hQ d' N' O ⟨_,hd,?_⟩ ho
 have:=NS Y
 simp only[Tm.wt,Ty.cnt,zN,hk,Nat.pow_zero,mt];rw[J];omega
theorem NC {m:Nat}(h:Some m d)(hs:s.size<=4611686018427387904):Some m (.ag [d.cell 0,.t s,d.cell 2,d.cell 3,d.cell 4,d.cell 5,d.cell 6,d.cell 7,d.cell 8]):=by
 obtain⟨t,U,Y⟩:=h;cases t with
 | mk k nm ot n ty re l=>obtain⟨t0,t1,r0,r1,a,es,c,rfl,J,I,O⟩:=Tm.is_mk.1 U;exact⟨.mk k s ot n ty re l,Tm.is_mk.2 ⟨_,_,_,_,_,_,_,rfl,⟨hs,J.ot,J.ty,J.re⟩,I,O⟩,Y⟩
theorem Vh {m N N':Nat}(h:Some m d)(J:Own N N' d)(s:ByteArray):Own N N' (.ag [d.cell 0,.t s,d.cell 2,d.cell 3,d.cell 4,d.cell 5,d.cell 6,d.cell 7,d.cell 8]):=by
 obtain⟨t,O,Y⟩:=h;cases t with
 | mk k nm ot n ty re l=>obtain⟨t0,t1,r0,r1,a,es,c,rfl,hh,I,U⟩:=Tm.is_mk.1 O;exact P6 (v2:=.string s) J
theorem zAU (hs:s.size<=4611686018427387904){m:Nat}(U:m<=1073741824)(I:∀ d∈es,Some m d)(Y:es.length<=1000)(a:Option Addr)(c:Nat)(N:Nat)(Q:QT [.ag 9])(hQ:∀ d' N',N<=N'->Some (3+es.length*m) d'->Own N N' d'->Q d' N'):ACalls prog 136 [.ag 9] [.str s,.sv a 9 es c] N Q:=
 PI N s a es c Q λ_ N1 J=>WR 4 U I Y a c N1 _ λd' N2 aa hd ho _ _ N3 O=>hQ _ _ (by omega) (NC hd hs) ((Vh hd ho s).mono J O)
theorem DD (k n:Int)(s:ByteArray)(hs:s.size<=4611686018427387904):Some 3 (.ag [.j k,.t s,.t (bytes []),.j n,.j 0,.sl none 2 [] 0,.j 0,.sl none 2 [] 0,.sl none 9 [] 0]):=
 NC (s:=s) ⟨_,Mq k n,by simp only[Tm.wt,Ty.cnt,zN,rm,Nat.mul_zero];omega⟩ hs
theorem zAV (s:ByteArray)(hs:s.size<=4611686018427387904)(N:Nat)(Q:QT [.ag 9])(J:∀ d' N',N<=N'->Some 3 d'->Q d' N'):ACalls prog 141 [.ag 9] [.str s] N Q:=
 E1 N s Q λN1 I=>J _ _ I (DD 1 0 s hs)
theorem zAQ (n:Int)(N:Nat)(Q:QT [.ag 9])(J:∀ d' N',N<=N'->Some 3 d'->Q d' N'):ACalls prog 74 [.ag 9] [.j n] N Q:=
 AY N n Q λN1 I=>J _ _ I (DD 2 n (bytes []) (by decide))
theorem Y2 (n:Int)(N:Nat)(Q:QT [.ag 9])(J:∀ d' N',N<=N'->Some 3 d'->Q d' N'):ACalls prog 73 [.ag 9] [.j n] N Q:=
 qY N n Q λN1 I=>J _ _ I (DD 3 n (bytes []) (by decide))
theorem zAS (hs:s.size<=4611686018427387904){m:Nat}(hm:m<=1073741824){e:D}(hd:Some m d)(J:Some m e)(N:Nat)(Q:QT [.ag 9])(O:∀ d' N',N<=N'->Some (3+4*m) d'->Q d' N'):ACalls prog 120 [.ag 9] [.str s,.dg 9 d,.dg 9 e] N Q:=by
 obtain⟨t,U,h2⟩:=hd;obtain⟨u,Y,h4⟩:=J;have w1:=t.cnt_wt;have w2:=u.cnt_wt;refine OD s hs t u d e U Y (by omega) (by omega) N _ λd' N' I hx _=>O d' N' I ⟨_,hx,?_⟩;simp only[Tm.letN,Tm.wt,Ty.cnt,zN,rm,show bn 8=1 from rfl];omega
theorem zAR (hs:s.size<=4611686018427387904){ty:Ty}{O:D}(h1:ty.Is O)(U:ty.cnt<=1073741824){m:Nat}(hm:m<=1073741824)(hd:Some m d)(N:Nat)(Q:QT [.ag 9])(hQ:∀ d' N',N<=N'->Some (2+ty.cnt+2*m) d'->Q d' N'):ACalls prog 43 [.ag 9] [.str s,.dg 2 O,.dg 9 d] N Q:=by
 obtain⟨t,h2,h3⟩:=hd;have w1:=t.cnt_wt;refine E0 N s O d Q λ_ _=>⟨⟨rfl,rfl⟩,λa _ N1 ab I=>?_⟩
 refine uW 6 (sQ h2) (by simp) (by simpa using(by omega:t.cnt<=1073741824)) a 1 N1 _ λx N2 ac hx ho _=>⟨xI I ho,λ_ N3 ae=>?_⟩
 refine zO ty O h1 U N3 _ λx' N4 ah Y ai _ _ N5 aj=>?_;obtain⟨t0,t1,r0,r1,a',es,c,rfl,hh,J,aa⟩:=Tm.is_mk.1 hx;refine hQ _ _ (by omega) ⟨.mk 6 s (bytes []) 0 ty (.mk 0 []) [t],Tm.is_mk.2 ⟨_,_,_,_,_,_,_,rfl,⟨hs,hh.ot,Ty.is_cells Y,hh.re⟩,J,aa⟩,?_⟩;simp only[Tm.wt,Ty.cnt,zN,rm,show bn 6=1 from rfl];omega
theorem PY {t:Ty}(hw:Wf t):t.cnt<=20->∀ {d:D} (_:t.Is d) (n:Int) {es:List D} {i:Int} (_:Cu es i) (a:Option Addr) (c:Nat) (h:Int) (N:Nat) (Q:QT [.ag 9,.sl 0,.i,.i])
  (_:∀ d' a' es' c' i' h' N',N<=N'->Cu es' i'->Some (3*2 ^ t.cnt) d'->Q d' a' es' c' i' h' N'),BCalls prog 135 [.ag 9,.sl 0,.i,.i] [.pb 0 0 0 0,.dg 2 d,.j n] [.var [.sv a 0 es c,.j i,.j h]] N Q:=by
 induction hw with
 | int=>
   intro hc d hd n es i I a c h N Q O;obtain⟨b,fs,k,rfl,_,h2⟩:=Ty.is_mk.1 hd;refine wX N _ n a es c i h Q λE _ _=>⟨1,rfl,Br.beq (λ_ N1 U=>?_) λh=>absurd rfl h⟩
   exact xd I 4 (by omega) a c h N1 _ λx a' es' c' i' h' N2 Y J _ _ _ _ _ N3 aa=>zAQ x N3 _ λd' N4 ab ac _ _=>⟨vN,λN5 ah=>O _ _ _ _ _ _ _ (by omega) J (ac.mono (by simp[tInt,Ty.cnt,zN]))⟩
 | bool=>
   intro hc d hd n es i I a c h N Q O;obtain⟨b,fs,k,rfl,_,h2⟩:=Ty.is_mk.1 hd;refine wX N _ n a es c i h Q λE _ _=>⟨2,rfl,Br.beq (λh=>absurd h (by decide)) λ_=>Br.beq (λ_ N1 U=>?_) λh=>absurd rfl h⟩
   exact xd I 2 (by omega) a c h N1 _ λx a' es' c' i' h' N2 Y J _ _ _ _ _ N3 aa=>Y2 x N3 _ λd' N4 ab ac _ _=>⟨vN,λN5 ah=>O _ _ _ _ _ _ _ (by omega) J (ac.mono (by simp[tBool,Ty.cnt,zN]))⟩
 | @fn u v hu hv ai aj=>
   intro hc d hd n es i I a c h N Q O;have ae:(wD u v).cnt=1+(u.cnt+(v.cnt+0)):=rfl;obtain⟨b,fs,k,rfl,ak,d1,_,rfl,h3,d2,_,rfl,h4,rfl⟩:=Ty.is_mk.1 hd;refine wX N _ n a es c i h Q λE _ _=>⟨3,rfl,Br.beq (λh=>absurd h (by decide)) λ_=>Br.beq (λh=>absurd h (by decide)) λ_=>Br.beq (λ_=>⟨_,_,_,rfl,⟨by simp,by simp⟩,_,_,_,rfl,⟨by simp,by simp⟩,λN1 U=>?_⟩) λh=>absurd rfl h⟩
   refine aj (by omega) h4 n I a c h N1 _ λx a' es' c' i' h' N2 Y J hx _ _ _ N3 aa=>?_;have p6:2 ^ v.cnt<=2 ^ 20:=lG (by omega) (by omega);refine zAR (by decide) h3 (by omega) (by omega) hx N3 _ λy N4 ab hy _ _=>⟨vN,λN5 ah=>O _ _ _ _ _ _ _ (by omega) J (hy.mono ?_)⟩
   have p1:=Nat.two_pow_pos v.cnt;have p2:2 ^ 1<=2 ^ u.cnt:=lG (by omega) (by cases u;simp only[Ty.cnt];omega);have p3:u.cnt<2 ^ u.cnt:=Nat.lt_two_pow_self;have p4:=oc (2 ^ v.cnt) p2;have p5:=mw (2 ^ u.cnt) p1;rw[ae,show 1+(u.cnt+(v.cnt+0))=u.cnt+v.cnt+1 by omega,Nat.pow_succ,Nat.pow_add];omega
 | @code u hu ai=>
   intro hc d hd n es i I a c h N Q O;have ae:(wM u).cnt=1+(u.cnt+0):=rfl;obtain⟨b,fs,k,rfl,ak,d1,_,rfl,h3,rfl⟩:=Ty.is_mk.1 hd;refine wX N _ n a es c i h Q λE _ _=>⟨4,rfl,Br.beq (λh=>absurd h (by decide)) λ_=>Br.beq (λh=>absurd h (by decide)) λ_=>Br.beq (λh=>absurd h (by decide)) λ_=>⟨_,_,_,rfl,⟨by simp,by simp⟩,λN1 U=>?_⟩⟩
   refine ai (by omega) h3 _ I a c h N1 _ λx a' es' c' i' h' N2 Y J hx _ _ _=>⟨⟨rfl,rfl⟩,⟨rfl,rfl⟩,⟨rfl,rfl⟩,λa7 N3 aa _=>⟨vN,λN4 ab=>O _ _ _ _ _ _ _ (by omega) J ?_⟩⟩
   obtain⟨e,h5,h6⟩:=hx;refine⟨.mk 10 (bytes []) (bytes []) 0 (.mk 0 []) (.mk 0 []) [e],Tm.is_mk.2 ⟨_,_,_,_,_,_,_,rfl,⟨by decide,by decide,xm 0,xm 0⟩,by simp,sQ h5⟩,?_⟩;have p1:=Nat.two_pow_pos u.cnt;simp only[Tm.wt,Ty.cnt,zN,rm,show bn 10=0 from rfl];rw[ae,show 1+(u.cnt+0)=u.cnt+1 by omega,Nat.pow_succ];omega
theorem V2:Some 3 (.ag [.j 0,.t (bytes []),.t (bytes []),.j 0,.j 0,.sl none 2 [] 0,.j 0,.sl none 2 [] 0,.sl none 9 [] 0]):=DD 0 0 (bytes []) (by decide)
theorem SV {g:List Tg}{I:List D}(O:Ctx g I)(hg:g.length<=1000000){t:Ty}(hd:t.Is d)(n:Int)(U:Option Addr)(Y:Nat)(aa:Cu es i)(a:Option Addr)(c:Nat)(h:Int)(N:Nat)(Q:QT [.ag 9,.bool,.sl 0,.i,.i])(hQ:∀ d' b a' es' c' i' h' N',N<=N'->Cu es' i'->Some 3 d'->Q d' b a' es' c' i' h' N'):BCalls prog 134 [.ag 9,.bool,.sl 0,.i,.i] [.pb 0 0 0 0,.sv U 4 I Y,.dg 2 d,.j n] [.var [.sv a 0 es c,.j i,.j h]] N Q:=by
 have hl:=O.all.len;refine Ec N U I Y d n a es c i h Q λE _ _ _=>?_;refine up O.all O.len (λk xs=>∀(r:List D) (q N':Nat),N<=N'->(∀ x∈r,Some 3 x)->r.length<=k->zu E Q N U I Y n r.length q k a es c i h d 0 (bytes []) (bytes []) 0 0 none [] 0 0 none [] 0 none [] 0 r q N') ?_ ?_ [] 0 N (oD _) (by simp) (by simp)
 ·intro k ae hk r q N' ab hr ah;refine qz _ _ _ _ _ _ _ _ _ _ _ _ _ _ _ _ _ _ _ _ _ _ _ _ _ _ _ _ _ _ _ _ _ _ ?_;rw[ae];refine Br.beq (λ_=>⟨vN,λN1 ac=>hQ _ _ _ _ _ _ _ _ (by omega) aa V2⟩) λh0 N1 ac=>?_;refine xd aa _ (by omega) a c h N1 _ λx a' es' c' i' h' N2 ai aj x0 x1 _ _ _=>?_;have x1:=x1 (by omega);exact⟨⟨x0,x1,by omega⟩,by omega,vN,λN3 ak=>hQ _ _ _ _ _ _ _ _ (by omega) aj (hr _ (KY (by omega)))⟩
 ·intro k x xs J _ ih r q N' ab hr ah;have hb:=J.b;obtain⟨t0,t1,al,am,ao⟩:=J.r;have skip:∀ N'',N<=N''->zu E Q N U I Y n r.length q (IntKind.i64.wrap ((k:Int)+1)) a es c i h d 0 (bytes []) (bytes []) 0 0 none [] 0 0 none [] 0 none [] 0 r q N'':=λN'' h=>by rw[J.w];exact ih r q N'' h hr (by omega)
  refine qz _ _ _ _ _ _ _ _ _ _ _ _ _ _ _ _ _ _ _ _ _ _ _ _ _ _ _ _ _ _ _ _ _ _ ?_;rw[J.lt];simp only[oI];rw[al];have bd:(0:Int)<=(k:Int)/\(k:Int)<(I.length:Int):=⟨by omega,by omega⟩
  refine⟨bd,x.lv,rfl,Br.beq (λ_=>⟨bd,λN1 ac=>?_⟩) λ_=>skip N' ab⟩;refine yv x.ty t _ d ao hd N1 _ λN2 ai _=>Br.of (λ_=>⟨bd,x.nm,rfl,λN3 ak=>?_⟩) λ_=>skip N2 (by omega);refine tD O U Y x.nm N3 _ λN4 aq _=>Br.beq (λ_=>⟨bd,x.nm,rfl,λN5 au=>?_⟩) λ_=>skip N4 (by omega);refine zAV x.nm am N5 _ λy N6 aw hy _ _=>⟨⟨by trivial,by trivial⟩,by unfold zA;rw[oK];simp only[oJ,oN];omega,λc1=>?_⟩
  rw[J.w];exact ih (r++[y]) c1 N6 (by omega) (λz hz=>by
   rcases oM.1 hz with hz | hz
   ·exact hr z hz
   ·rw[oW]at hz;subst hz;exact hy) (by simp;omega)
theorem U3 (I:Cu es i)(a:Option Addr)(c:Nat)(h:Int)(N:Nat)(Q:QT [.row 49 4,.sl 0,.i,.i])(hQ:∀ g e1 c1 Y es' c' i' h' N',N<=N'->Cu es' i'->Pms g e1->1<=g.length->g.length<=4->(∀ x∈g,x.ty.cnt<=1)->Q e1 c1 Y es' c' i' h' N'):BCalls prog 80 [.row 49 4,.sl 0,.i,.i] [.pb 0 0 0 0] [.var [.sv a 0 es c,.j i,.j h]] N Q:=by
 refine Bw N a es c i h Q λE _ N1 am=>xd I 4 (by omega) a c h N1 _ λx Y es' c' i' h' N2 ao J x0 x1 _ _ _=>?_;have x1:=x1 (by omega);rw[i64_in (1+x) (by omega)]
 have key:∀(m k:Nat) (g:List Pm) (r:List D) (q N':Nat) (a es c i h),(k:Int)+m=1+x->N<=N'->Cu es i->All2 Pm.Is g r->g.length=k->(∀ x∈g,x.ty.cnt<=1)->yS E Q N r.length q (1+x) k a es c i h r q N':=by
  intro m
  induction m with
  | zero=>intro k g r q N' a es c i h hk ac I hr aa O;have ae:=hr.len;refine sf _ _ _ _ _ _ _ _ _ _ _ _ _ _ _ (Br.dec (λah=>by omega) λ_=>⟨vN,⟨rfl,rfl⟩,λN4 ai=>hQ g _ _ _ _ _ _ _ _ (by omega) I ⟨by omega,hr⟩ (by omega) (by omega) O⟩)
  | succ m ih=>
    intro k g r q N' a es c i h hk ac I hr aa O;have ae:=hr.len;refine sf _ _ _ _ _ _ _ _ _ _ _ _ _ _ _ (Br.dec (λ_ N3 aq=>?_) λah=>by omega);have nm:∃ s,List.getD [D.t (bytes [120]),D.t (bytes [121]),D.t (bytes [110]),D.t (bytes [98])] (0+(k:Int).toNat) default=D.t s/\s.size<=4611686018427387904:=by
     have:k=0\/k=1\/k=2\/k=3:=by omega
     rcases this with rfl | rfl | rfl | rfl<;>exact⟨_,rfl,by decide⟩
    obtain⟨s,hs,aj⟩:=nm;have next:∀(t:Ty) (y:D) (b:Bool) (a es c i h) (N'' U:Nat),t.Is y->t.cnt<=1->N<=N''->Cu es i->yS E Q N (r++[D.ag [.t s,y.cell 0,y.cell 1,.lit (.bool b)]]).length U (1+x) (IntKind.i64.wrap ((k:Int)+1)) a es c i h (r++[D.ag [.t s,y.cell 0,y.cell 1,.lit (.bool b)]]) U N'':=λt y b a es c i h N'' U hy ht hN I=>by
     rw[i64_in ((k:Int)+1) (by omega)]
     have:=ih (k+1) (g++[⟨s,t,b⟩]) _ U N'' a es c i h (by omega) hN I (hr.snoc (t:=(⟨s,t,b⟩:Pm)) ⟨_,_,rfl,aj,Ty.is_cells hy⟩) (by simp[aa]) (λz hz=>by
      rcases oM.1 hz with hz | hz
      ·exact O z hz
      ·rw[oW]at hz;subst hz;exact ht)
     exact this
    have ab:∀ z:D,zA r [z] 56:=λz=>by unfold zA;rw[oK];simp only[oJ,oN];omega
    refine vF N3 _ λy N4 ai hy _ _ _=>Br.beq (λ_ N5 ak=>?_) λ_=>⟨⟨by omega,by omega,by omega⟩,by omega,s,hs,λN5 ak=>?_⟩
    ·refine tC N5 _ λy N6 au hy _ _ _=>⟨⟨by omega,by omega,by omega⟩,by omega,s,hs,λN7 aw=>?_⟩
     exact El I 2 (by omega) a c h N7 _ λb Y es' c' i' h' N8 al J _ _=>⟨⟨rfl,rfl⟩,ab _,λU=>next tBool y b _ _ _ _ _ _ _ hy (by simp[tBool,Ty.cnt,zN]) (by omega) J⟩
    ·exact El I 2 (by omega) a c h N5 _ λb Y es' c' i' h' N8 al J _ _=>⟨⟨rfl,rfl⟩,ab _,λU=>next tInt y b _ _ _ _ _ _ _ hy (by simp[tInt,Ty.cnt,zN]) (by omega) J⟩
 exact key (1+x).toNat 0 [] [] 0 N2 Y es' c' i' h' (by omega) (by omega) J rfl rfl (by simp)
theorem Y0 {g:List Pm}{I:List D}(hg:Pms g I)(ak:g.length<=1000000)(a0:Option Addr)(c0:Nat)(J:Cu es i)(a:Option Addr)(c:Nat)(h:Int)(N:Nat)(Q:QT [.row 3 0,.sl 0,.i,.i])(hQ:∀ ns c1 a' es' c' i' h' N',N<=N'->Cu es' i'->ns.length=g.length->Q (yp ns) c1 a' es' c' i' h' N'):BCalls prog 83 [.row 3 0,.sl 0,.i,.i] [.pb 0 0 0 0,.sv a0 4 I c0] [.var [.sv a 0 es c,.j i,.j h]] N Q:=by
 have hl:=hg.all.len;refine EX N a0 I c0 a es c i h Q λE _ _=>?_;refine up hg.all hg.len (λk xs=>∀(ns:List Int) (q N':Nat) (a es c i h),N<=N'->Cu es i->ns.length=k->yq E Q N a0 I c0 (yp ns).length q k a es c i h (yp ns) q N') ?_ ?_ [] 0 N a es c i h (oD _) J rfl
 ·intro k ac hk ns q N' a es c i h ae J Y;refine qr _ _ _ _ _ _ _ _ _ _ _ _ _ _ _ _ _ ?_;rw[ac];exact⟨vN,⟨rfl,rfl⟩,λN4 al=>hQ ns _ _ _ _ _ _ _ (by omega) J (by omega)⟩
 ·intro k x xs O _ ih ns q N' a es c i h ae J Y;have hb:=O.b;have aj:=tg ns;obtain⟨t0,t1,ah,am,aa⟩:=O.r;obtain⟨b,fs,kk,ht,_,_⟩:∃ b fs kk,(D.ag [t0,t1])=.ag [.j x.ty.k,.sl b 2 fs kk]/\True/\True:=by
   cases hx:x.ty with
   | mk k l=>rw[hx]at aa;obtain⟨b,fs,kk,h1,_,_⟩:=Ty.is_mk.1 aa;exact⟨b,fs,kk,h1,trivial,trivial⟩
  obtain⟨rfl,rfl⟩:t0=.j x.ty.k/\t1=.sl b 2 fs kk:=by simpa using ht
  refine qr _ _ _ _ _ _ _ _ _ _ _ _ _ _ _ _ _ ?_;rw[O.lt];simp only[oI];rw[ah];refine λN1 ao=>?_;refine rM (l:=[0,1,2,3,10006,500]) J (by decide) (by decide) a c h 6 6 N1 _ λs a' es' c' i' h' N2 aq ai _ _ _ _=>⟨⟨by omega,by omega⟩,x.ty.k,rfl,?_⟩
  have next:∀(m:Int) (U:Nat),yq E Q N a0 I c0 (yp ns++[D.j m]).length U (IntKind.i64.wrap ((k:Int)+1)) a' es' c' i' h' (yp ns++[D.j m]) U N2:=λm U=>by
   have e:yp ns++[D.j m]=yp (ns++[m]):=by simp[yp]
   rw[e,O.w];exact ih (ns++[m]) U N2 _ _ _ _ _ (by omega) ai (by simp[Y])
  have ab:∀ z:D,zA (yp ns) [z] 8:=λz=>by unfold zA;rw[oK];simp only[oJ,oN];omega
  exact Br.beq (λ_=>⟨by decide,⟨by trivial,by trivial⟩,ab _,λU=>next _ U⟩) λ_=>⟨⟨by trivial,by trivial⟩,ab _,λU=>next _ U⟩
end Go.Proofs.YtlaniepnglheoaaGreat
set_option maxRecDepth 100000
namespace Go.Proofs.YtlaniepnglheoaaGreat
open Go Go.Proofs Go.Proofs.Tryz Go.IntWalk
def Bs (t:Ty):Prop:=t=tInt\/t=tBool
theorem Bs.wf {t:Ty}(h:Bs t):Wf t:=by rcases h with rfl | rfl;exact .int;exact .bool
theorem Bs.cnt {t:Ty}(h:Bs t):t.cnt=1:=by rcases h with rfl | rfl<;>rfl
theorem Bs.cell {t:Ty}{d:D}(h:Bs t)(hd:t.Is d):∃ n:Int,d.cell 0=.j n:=by rcases h with rfl | rfl<;>obtain⟨b,fs,k,rfl,_,_⟩:=Ty.is_mk.1 hd<;>exact⟨_,rfl⟩
theorem Vo (f:Nat):3+4*(6*5 ^ f)<=6*5 ^ (f+1)/\6<=6*5 ^ f:=by have I:0<5 ^ f:=Nat.pow_pos (by decide);rw[Nat.pow_succ];omega
theorem ZV {f:Nat}(h:f<=10):6*5 ^ f<=1073741824:=oP (mw 6 (lG (by decide) h)) (by decide)
theorem zBI {s a b c d:ByteArray}(h:s∈[a,b,c,d])(I:a.size<=1000)(J:b.size<=1000)(hc:c.size<=1000)(hd:d.size<=1000):s.size<=1000:=by simp only[oH,oh,mK]at h;rcases h with rfl | rfl | rfl | rfl<;>assumption
theorem zAP:∀(f:Nat),f<=10->∀ {g:List Tg} {U:List D} (_:Ctx g U) (_:g.length+f<=1000) {t:Ty} (_:Bs t) {d:D} (_:t.Is d) (n:Int) (_:n<=f) (a0:Option Addr) (c0:Nat) {es:List D} {i:Int} (_:Cu es i) (a:Option Addr) (c:Nat) (h:Int) (N:Nat) (Q:QT [.ag 9,.sl 0,.i,.i])
  (_:∀ d' a' es' c' i' h' N',N<=N'->Cu es' i'->Some (6*5 ^ f) d'->Q d' a' es' c' i' h' N'),BCalls prog 81 [.ag 9,.sl 0,.i,.i] [.pb 0 0 0 0,.sv a0 4 U c0,.dg 2 d,.j n] [.var [.sv a 0 es c,.j i,.j h]] N Q:=by
 intro f
 induction f with
 | zero=>
   intro _ g U O hg t hb d hd n hn a0 c0 es i Y a c h N Q hQ;have J:∀(E:Env) a es c i h N',N<=N'->Cu es i->yO E Q N a0 U c0 n a es c i h d 0 (bytes []) (bytes []) 0 0 none [] 0 0 none [] 0 none [] 0 N':=λE a es c i h N' bz Y=>by refine pv _ _ _ _ _ _ _ _ _ _ _ _ _ _ _ _ _ _ _ _ _ _ _ _ _ _ _ _ _ (Br.dec (λ_ N1 am=>PY hb.wf (by rw[hb.cnt];omega) hd 0 Y a c h N1 _ λx a' es' c' i' h' N2 ao I hx _ _ _=>⟨vN,λN3 ae=>hQ _ _ _ _ _ _ _ (by omega) I (hx.mono (by rw[hb.cnt];decide))⟩) λb1=>by omega)
   have K:∀(E:Env) a es c i h N1,N<=N1->Cu es i->BCalls prog 134 [.ag 9,.bool,.sl 0,.i,.i] [.pb 0 0 0 0,.sv a0 4 U c0,.dg 2 d,.j 0] [.var [.sv a 0 es c,.j i,.j h]] N1 (λx b a es c i h N4=>N1<=N4->Bel N4 x->Bel N4 (D.sl a 0 es c)->Br b (WF E [.var [.sv none 0 [] 0,.j 0,.j 0]]/\∀ N5,N4<=N5->Q x a es c i h N5) (yO E Q N a0 U c0 n a es c i h d 0 (bytes []) (bytes []) 0 0 none [] 0 0 none [] 0 none [] 0 N4)):=λE a es c i h N1 am Y=>SV O (by omega) hd 0 a0 c0 Y a c h N1 _ λx b a' es' c' i' h' N2 ao I hx _ _ _=>Br.of (λ_=>⟨vN,λN3 ae=>hQ _ _ _ _ _ _ _ (by omega) I (hx.mono (by decide))⟩) λ_=>J E _ _ _ _ _ N2 (by omega) I;exact pA N a0 U c0 d n a es c i h Q λE _ _ _ N1 am=>El Y 3 (by omega) a c h N1 _ λb a' es' c' i' h' N2 ao I _ _=>Br.not (λ_ N3 ae=>K E _ _ _ _ _ N3 (by omega) I) λ_=>Br.dec (λ_ N3 ae=>K E _ _ _ _ _ N3 (by omega) I) λ_=>J E _ _ _ _ _ N2 (by omega) I
 | succ f ih1x=>
   intro b7 g U O hg t hb d hd n hn a0 c0 es i Y a c h N Q hQ;have ps:=Vo f;have aq:=ZV (f:=f) (by omega);have ih:=@ih1x (by omega);have J:∀(E:Env) a es c i h N',N<=N'->Cu es i->yO E Q N a0 U c0 n a es c i h d 0 (bytes []) (bytes []) 0 0 none [] 0 0 none [] 0 none [] 0 N':=λE a es c i h N' bz Y=>by
    refine pv _ _ _ _ _ _ _ _ _ _ _ _ _ _ _ _ _ _ _ _ _ _ _ _ _ _ _ _ _ (Br.dec (λ_ N1 am=>PY hb.wf (by rw[hb.cnt];omega) hd 0 Y a c h N1 _ λx a' es' c' i' h' N2 ao I hx _ _ _=>⟨vN,λN3 ae=>hQ _ _ _ _ _ _ _ (by omega) I (hx.mono (by rw[hb.cnt];omega))⟩) λb1 N1 am=>?_);rw[i64_in (n - 1) (by omega)];obtain⟨kk,b2⟩:=hb.cell hd;refine vF N1 _ λy N2 ao hy _ _ _ N3 ae=>xd Y 5 (by omega) a c h N3 _ λx a1 b9 c1 i1 h1 N4 ca ay _ _ _ _ _=>Br.beq (λ_ N5 bi=>?_) λ_=>Br.beq (λ_ N5 bi=>?_) λ_=>⟨kk,b2,Br.beq (λ_ N5 bi=>?_) λ_ N5 bi=>?_⟩
    ·refine tC N5 _ λz N6 bj hz _ _ _ N7 az=>?_;refine ih O (by omega) (.inr rfl) hz _ (by omega) a0 c0 ay a1 c1 h1 N7 _ λx1 a2 bm c2 i2 h2 N8 a7 ah au _ _ _ N9 bp=>?_;refine ih O (by omega) hb hd _ (by omega) a0 c0 ah a2 c2 h2 N9 _ λx2 a3 a8 c3 i3 h3 bq aw ab ba _ _ _ ax bg=>?_;refine ih O (by omega) hb hd _ (by omega) a0 c0 ab a3 c3 h3 ax _ λx3 a4 bt c4 i4 h4 bv bh ai cc _ _ _=>⟨⟨rfl,rfl⟩,λa5 _ ac aj aa=>?_⟩
     refine WR 5 aq (es:=[x1,x2,x3]) (by simp only[oH,oh,mK];rintro _ (rfl | rfl | rfl)<;>assumption) (by simp) a5 3 ac _ λu bb ak hu ho _=>⟨xI aa ho,λ_=>⟨vN,λbc al=>hQ _ _ _ _ _ _ _ (by omega) ai (hu.mono (by simp only[oJ,oN];omega))⟩⟩
    ·refine pV (l:=[bytes [120],bytes [117],bytes [118],bytes [121]]) ay (by decide) (by decide) a1 c1 h1 4 4 N5 _ λs a2 bm c2 i2 h2 N6 bj ah hs _ _ _ N7 az=>?_;have hs:=zBI hs (by decide) (by decide) (by decide) (by decide);refine ih O (by omega) (.inl rfl) hy _ (by omega) a0 c0 ah a2 c2 h2 N7 _ λx1 a3 a8 c3 i3 h3 N8 a7 ab au _ _ _ N9 bp=>?_;refine xD O (by omega) a0 c0 (s:=s) (by omega) hy 0 N9 _ λa9 cd c9 bq aw bw _ _ ax bg=>?_;refine ih bw (by simp;omega) hb hd _ (by omega) a9 c9 ab a3 c3 h3 ax _ λx2 a4 bt c4 i4 h4 bv bh ai ba _ _ _ ac aj=>?_;refine zAS (by omega) aq au ba ac _ λu bb ak hu _ _=>⟨vN,λbc al=>hQ _ _ _ _ _ _ _ (by omega) ai (hu.mono (by omega))⟩
    ·refine pV (l:=[bytes [43],bytes [42],bytes [45]]) ay (by decide) (by decide) a1 c1 h1 3 3 N5 _ λs a2 bm c2 i2 h2 N6 bj ah hs _ _ _ N7 az=>?_;have hs:s.size<=1000:=by simp only[oH,oh,mK]at hs;rcases hs with rfl | rfl | rfl<;>decide
     refine ih O (by omega) (.inl rfl) hy _ (by omega) a0 c0 ah a2 c2 h2 N7 _ λx1 a3 a8 c3 i3 h3 N8 a7 ab au _ _ _ N9 bp=>?_;refine ih O (by omega) (.inl rfl) hy _ (by omega) a0 c0 ab a3 c3 h3 N9 _ λx2 a4 bt c4 i4 h4 bq aw ai ba _ _ _=>⟨⟨rfl,rfl⟩,λa5 _ ac aj aa=>?_⟩
     refine zAU (by omega) aq (es:=[x1,x2]) (by simp only[oH,oh,mK];rintro _ (rfl | rfl)<;>assumption) (by simp) a5 2 ac _ λu bb ak hu ho _=>⟨xI aa ho,λ_=>⟨vN,λbc al=>hQ _ _ _ _ _ _ _ (by omega) ai (hu.mono (by simp only[oJ,oN];omega))⟩⟩
    ·refine El ay 4 (by omega) a1 c1 h1 N5 _ λb a2 bm c2 i2 h2 N6 bj ah _ _=>Br.of (λ_ N7 az=>?_) λ_ N7 az=>?_
     ·refine ih O (by omega) hb hd _ (by omega) a0 c0 ah a2 c2 h2 N7 _ λx1 a3 a8 c3 i3 h3 N8 a7 ab au _ _ _=>⟨⟨rfl,rfl⟩,λa5 _ ac aj aa=>?_⟩
      refine zAU (by decide) aq (es:=[x1]) (by simp only[oH,oh,mK];rintro _ rfl;assumption) (by simp) a5 1 ac _ λu bb ak hu ho _=>⟨xI aa ho,λ_=>⟨vN,λbc al=>hQ _ _ _ _ _ _ _ (by omega) ab (hu.mono (by simp only[oJ,oN];omega))⟩⟩
     ·refine pV (l:=[bytes [61],bytes [60]]) ah (by decide) (by decide) a2 c2 h2 2 2 N7 _ λs a3 a8 c3 i3 h3 N8 a7 ab hs _ _ _ N9 bp=>?_;have hs:s.size<=1000:=by simp only[oH,oh,mK]at hs;rcases hs with rfl | rfl<;>decide
      refine ih O (by omega) (.inl rfl) hy _ (by omega) a0 c0 ab a3 c3 h3 N9 _ λx1 a4 bt c4 i4 h4 bq aw ai au _ _ _ ax bg=>?_;refine ih O (by omega) (.inl rfl) hy _ (by omega) a0 c0 ai a4 c4 h4 ax _ λx2 a5 ce c5 i5 h5 bv bh b6 ba _ _ _=>⟨⟨rfl,rfl⟩,λa6 _ ac aj aa=>?_⟩
      refine zAU (by omega) aq (es:=[x1,x2]) (by simp only[oH,oh,mK];rintro _ (rfl | rfl)<;>assumption) (by simp) a6 2 ac _ λu bb ak hu ho _=>⟨xI aa ho,λ_=>⟨vN,λbc al=>hQ _ _ _ _ _ _ _ (by omega) b6 (hu.mono (by simp only[oJ,oN];omega))⟩⟩
   have K:∀(E:Env) a es c i h N1,N<=N1->Cu es i->BCalls prog 134 [.ag 9,.bool,.sl 0,.i,.i] [.pb 0 0 0 0,.sv a0 4 U c0,.dg 2 d,.j 0] [.var [.sv a 0 es c,.j i,.j h]] N1 (λx b a es c i h N4=>N1<=N4->Bel N4 x->Bel N4 (D.sl a 0 es c)->Br b (WF E [.var [.sv none 0 [] 0,.j 0,.j 0]]/\∀ N5,N4<=N5->Q x a es c i h N5) (yO E Q N a0 U c0 n a es c i h d 0 (bytes []) (bytes []) 0 0 none [] 0 0 none [] 0 none [] 0 N4)):=λE a es c i h N1 am Y=>SV O (by omega) hd 0 a0 c0 Y a c h N1 _ λx b a' es' c' i' h' N2 ao I hx _ _ _=>Br.of (λ_=>⟨vN,λN3 ae=>hQ _ _ _ _ _ _ _ (by omega) I (hx.mono (by omega))⟩) λ_=>J E _ _ _ _ _ N2 (by omega) I;exact pA N a0 U c0 d n a es c i h Q λE _ _ _ N1 am=>El Y 3 (by omega) a c h N1 _ λb a' es' c' i' h' N2 ao I _ _=>Br.not (λ_ N3 ae=>K E _ _ _ _ _ N3 (by omega) I) λ_=>Br.dec (λ_ N3 ae=>K E _ _ _ _ _ N3 (by omega) I) λ_=>J E _ _ _ _ _ N2 (by omega) I
theorem SC {g:List Pm} {es:List D} (h:Pms g es) (hg:g.length<=1000000) (a:Option Addr) (c:Nat) (N:Nat) (Q:QT [.sl 4])
  (hQ:∀ a' es' c' N',N<=N'->Ctx (xS g) es'->(∀ x∈(D.sl a' 4 es' c').foot,x∈zF es\/N<=x)->Q a' es' c' N'):ACalls prog 25 [.sl 4] [.sv a 4 es c] N Q:=by
 have hl:=h.all.len;refine DV N a es c Q λ_=>?_;refine up h.all h.len (λi xs=>∀(done:List D) (q:Nat) (N':Nat),N<=N'->All2 Tg.Is ((xS g).take i) done->done.length=i->(∀ x∈zF done,x∈zF es)->wF Q N a es c done.length q i done q N') ?_ ?_ [] 0 N (oD _) rfl rfl (by simp[zF])
 ·intro i Y hi done q N' J hd hs U;refine vp ?_;rw[oX (by rw[tZ];omega)]at hd;rw[Y];refine⟨⟨rfl,rfl⟩,⟨rfl,rfl⟩,⟨rfl,rfl⟩,λa2 N2 aj aa N3 ak=>hQ _ _ _ _ (by omega) ⟨by omega,hd⟩ λx hx=>?_⟩;cases a2 with
  | none=>simp only[D.foot]at hx;exact .inl (U x hx)
  | some ad=>
    simp only[D.foot]at hx;split at hx
    ·simp at hx
    ·rcases oH.1 hx with rfl | hx
     ·exact .inr (aa.lo ad rfl)
     ·exact .inl (U x hx)
 ·intro i x xs I _ ab done q N' J hd hs U;have hb:=I.b;obtain⟨t0,t1,ac,ae,ah⟩:=I.r;refine vp ?_;have O:(xS g)[i]?=some ⟨x.nm,x.ty,0⟩:=by rw[xS,oG,I.g];rfl
  have ai:es.getD i default∈es:=KY (by omega);rw[I.lt];simp only[oI];rw[ac,I.w]at *;refine⟨⟨by omega,by omega⟩,x.nm,rfl,⟨by omega,by omega⟩,⟨by trivial,by trivial⟩,by unfold zA;rw[oK];simp only[oJ,oN];omega,λc1=>?_⟩;exact ab _ _ _ J (by rw[zX O];exact hd.snoc ⟨_,_,rfl,ae,ah⟩) (by simp[hs]) (λy hy=>by
   rw[zC]at hy;rcases oM.1 hy with hy | hy
   ·exact U y hy
   ·refine zQ.2 ⟨_,ai,?_⟩;simpa [D.foot,zF,D.cell,D.sub,D.cells]using hy)
theorem WP {es:List D} {i:Int} (J:Cu es i) (a:Option Addr) (c:Nat) (h:Int) (N:Nat) (Q:QT [.row 49 4,.ag 9,.sl 0,.i,.i])
  (hQ:∀ g e1 c1 d a' es' c' i' h' N',N<=N'->Cu es' i'->Pms g e1->1<=g.length->g.length<=4->(∀ x∈g,x.ty.cnt<=1)->Some 30000 d->Q e1 c1 d a' es' c' i' h' N'):BCalls prog 34 [.row 49 4,.ag 9,.sl 0,.i,.i] [.pb 0 0 0 0] [.var [.sv a 0 es c,.j i,.j h]] N Q:=by
 refine EZ N a es c i h Q λE _ N1 ai=>U3 J a c h N1 _ λg e1 c1 a2 aj c2 i2 h2 N2 ak O hg g1 g4 gc _ _ _=>⟨⟨rfl,rfl⟩,λa1 U N3 al I=>?_⟩
 refine SC hg (by omega) a1 c1 N3 _ λa3 e3 c3 N4 am Y aa _=>⟨Wg U I aa,λ_ N5 ao=>vF N5 _ λy N6 aq hy _ _ _ N7 au=>?_⟩
 refine xd O 4 (by omega) a2 c2 h2 N7 _ λx a4 aw c4 i4 h4 N8 ax ab x0 x1 _ _ _ N9 ay=>?_;have x1:=x1 (by omega);rw[i64_in (2+x) (by omega)];exact zAP 5 (by omega) Y (by rw[tZ];omega) (.inl rfl) hy (2+x) (by omega) a3 c3 ab a4 c4 h4 N9 _ λd a5 az c5 i5 h5 a0 ae ac hd _ _ _=>⟨vN,⟨rfl,rfl⟩,λa6 ah=>hQ g _ _ _ _ _ _ _ _ _ (by omega) ac hg g1 g4 gc (hd.mono (by decide))⟩
end Go.Proofs.YtlaniepnglheoaaGreat
set_option maxRecDepth 100000
namespace Go.Proofs.YtlaniepnglheoaaGreat
open Go Go.Proofs Go.Proofs.Tryz Go.IntWalk
variable {E:Env} {I s:ByteArray} {J O U d x:D} {N N':Nat} {es:List D} {i m6 n:Int}
def SmT (m:Nat)(d:D):Prop:=∃ t:Ty,t.Is d/\t.cnt<=m
theorem SmT.mono {m n:Nat}(h:SmT m d)(hn:m<=n):SmT n d:=by obtain⟨t,I,J⟩:=h;exact⟨t,I,by omega⟩
theorem SmT.cells {m:Nat}(h:SmT m d):SmT m (.ag [d.cell 0,d.cell 1]):=by obtain⟨t,I,J⟩:=h;exact⟨t,Ty.is_cells I,J⟩
def Ex (d:D):Prop:=∃ k a es c,d=.ag [.j k,.sl a 2 es c]/\(c=es.length/\es.length<=1000)
theorem O0 (k:Int):SmT 1 (.ag [.j k,.sl none 2 [] 0]):=⟨_,xm k,by simp[Ty.cnt,zN]⟩
theorem SU {m:Nat}(hm:m<=1073741824)(hd:SmT m d)(N:Nat)(Q:QT [.ag 2])(I:∀ d' N',N<=N'->SmT (1+m) d'->Ex d'->Q d' N'):ACalls prog 138 [.ag 2] [.dg 2 d] N Q:=by
 obtain⟨t,J,h2⟩:=hd;refine DW N d Q λ_ N1 O=>zO t d J (by omega) N1 _ λx N2 U hx _ _ _=>⟨⟨rfl,rfl⟩,⟨rfl,rfl⟩,⟨rfl,rfl⟩,λa N3 Y _ N4 aa=>I _ _ (by omega) ⟨wM t,Ty.is_mk.2 ⟨_,_,_,rfl,by simp,x,[],rfl,hx,rfl⟩,?_⟩ ⟨_,_,_,_,rfl,rfl,by simp⟩⟩
 simp only[wM,Ty.cnt,zN];omega
theorem WO {m:Nat}(hm:m<=1073741824){e:D}(hd:SmT m d)(I:SmT m e)(N:Nat)(Q:QT [.ag 2])(J:∀ d' N',N<=N'->SmT (1+2*m) d'->Ex d'->Q d' N'):ACalls prog 139 [.ag 2] [.dg 2 d,.dg 2 e] N Q:=by
 obtain⟨t,O,h2⟩:=hd;obtain⟨u,U,h4⟩:=I;refine Ez N d e Q λ_ _ N1 Y=>zO t d O (by omega) N1 _ λx N2 aa hx _ _ _ N3 ab=>zO u e U (by omega) N3 _ λy N4 ac hy _ _ _=>⟨⟨rfl,rfl⟩,⟨rfl,rfl⟩,⟨rfl,rfl⟩,λa N5 ae _ N6 ah=>J _ _ (by omega) ⟨wD t u,Ty.is_mk.2 ⟨_,_,_,rfl,by simp,x,[y],rfl,hx,y,[],rfl,hy,rfl⟩,?_⟩ ⟨_,_,_,_,rfl,rfl,by simp⟩⟩
 simp only[wD,Ty.cnt,zN];omega
def TyC (b:Int) (X:Nat):Prop:=∀(n:Int),n<=b->∀ {es:List D} {i:Int} (_:Cu es i) (a:Option Addr) (c:Nat) (h:Int) (N:Nat) (Q:QT [.ag 2,.sl 0,.i,.i])
    (_:∀ d' I es' J i' O N',N<=N'->Cu es' i'->SmT X d'->Ex d'->Q d' I es' J i' O N'),BCalls prog 86 [.ag 2,.sl 0,.i,.i] [.pb 0 0 0 0,.j n] [.var [.sv a 0 es c,.j i,.j h]] N Q
theorem Zn:TyC 1 1:=λn hn es i I a c h N Q O=>by refine pC N n a es c i h Q λE _=>Br.dec (λ_ N1 U=>?_) λg=>absurd (by omega) g;exact rM (l:=[1,1,2]) I (by decide) (by decide) a c h 3 3 N1 _ λk a' es' c' i' h' N2 Y J _ _ _ _=>⟨vN,λN3 aa=>O _ _ _ _ _ _ _ (by omega) J (O0 k) ⟨_,_,_,_,rfl,rfl,by simp⟩⟩
theorem PD {b:Int}{X:Nat}(hb:b<=1000)(hX:1<=X)(a5:X<=1000000)(ih:TyC b X):TyC (b+1) (1+2*X):=λn hn es i I a c h N Q hQ=>by
 have pk:∀(E:Env) {es:List D} {i:Int} (_:Cu es i) a c h N1,N<=N1->BCalls prog 137 [.i,.sl 0,.i,.i,.sl 0] [.pb 0 0 0 0,.sb 1 0 0 3 3] [.var [.sv a 0 es c,.j i,.j h],.arr 3 0 (yp [1,1,2]) 3] N1
   (λn a es c ac ae ah U ai N2=>N1<=N2->Bel N2 (D.sl a 0 es c)->Bel N2 (D.sl ah 0 U ai)->WF E [.var [.sv none 0 [] 0,.j 0,.j 0]]/\∀ N3,N2<=N3->Q (D.ag [D.j n,D.sl Option.none 2 [] 0]) a es c ac ae N3):=λE es i I a c h N1 J=>
  rM (l:=[1,1,2]) I (by decide) (by decide) a c h 3 3 N1 _ λk a' es' c' i' h' N2 aj ak _ _ _ _=>⟨vN,λN3 Y=>hQ _ _ _ _ _ _ _ (by omega) ak ((O0 k).mono (by omega)) ⟨_,_,_,_,rfl,rfl,by simp⟩⟩
 refine pC N n a es c i h Q λE _=>Br.dec (λ_ N1 J=>pk E I _ _ _ N1 J) λa6 N1 J=>El I 2 (by omega) a c h N1 _ λb1 a1 a7 c1 i1 h1 N2 aj aa _ _=>Br.of (λ_ N3 Y=>pk E aa _ _ _ N3 (by omega)) λ_ N3 Y=>?_;refine El aa 2 (by omega) a1 c1 h1 N3 _ λb2 a2 a8 c2 i2 h2 N4 a9 ab _ _=>Br.of (λ_ N5 al=>?_) λ_ N5 al=>?_
 ·rw[i64_in (n - 1) (by omega)];exact ih (n - 1) (by omega) ab a2 c2 h2 N5 _ λd a3 am c3 i3 h3 N6 ao O hd _ _ _ _ N7 aq=>SU (by omega) hd N7 _ λe N8 au he hx _ _=>⟨vN,λN9 aw=>hQ _ _ _ _ _ _ _ (by omega) O (he.mono (by omega)) hx⟩
 ·rw[i64_in (n - 1) (by omega)];refine ih (n - 1) (by omega) ab a2 c2 h2 N5 _ λd a3 am c3 i3 h3 N6 ao O hd _ _ _ _ N7 aq=>?_;exact ih (n - 1) (by omega) O a3 c3 h3 N7 _ λd2 a4 ba c4 i4 h4 N8 au ax ay _ _ _ _ N9 aw=>WO (by omega) hd ay N9 _ λe bb az he hx _ _=>⟨vN,λbc a0=>hQ _ _ _ _ _ _ _ (by omega) ax he hx⟩
theorem Ji:TyC 2 3:=PD (b:=1) (by omega) (by omega) (by omega) Zn
theorem YA:TyC 4 15:=PD (b:=3) (by omega) (by omega) (by omega) (PD (b:=2) (by omega) (by omega) (by omega) Ji)
theorem XK (I:Cu es i)(a:Option Addr)(c:Nat)(h:Int)(N:Nat)(Q:QT [.ag 2,.sl 0,.i,.i])(hQ:∀ d' a' es' c' i' h' N',N<=N'->Cu es' i'->SmT 200 d'->Q d' a' es' c' i' h' N'):BCalls prog 142 [.ag 2,.sl 0,.i,.i] [.pb 0 0 0 0] [.var [.sv a 0 es c,.j i,.j h]] N Q:=by
 refine Fk N a es c i h Q λE _ N1 ao=>YA 4 (by omega) I a c h N1 _ λd a1 aq c1 i1 h1 N2 au ai hd hx _ _ _ N3 aw=>?_;have lc:∀(m:Nat) (y:D) (a es c i h) (N':Nat) (n4 n5:Int),n4<=n5+m->0<=n5->n4<=1000->m<=6->N<=N'->Cu es i->SmT (21 - m) y->ww E Q N n4 n5 a es c i h 0 none [] 0 y N':=by
  intro m
  induction m with
  | zero=>intro y a es c i h N' n4 n5 h1 h2 h5 h6 h3 I O;exact qw _ _ _ _ _ _ _ _ _ _ _ _ _ _ _ _ (Br.dec (λg=>by omega) λ_=>⟨vN,λN4 J=>hQ _ _ _ _ _ _ _ (by omega) I (O.mono (by omega))⟩)
  | succ m ab=>intro y a es c i h N' n4 n5 h1 h2 h5 h6 h3 I O;refine qw _ _ _ _ _ _ _ _ _ _ _ _ _ _ _ _ (Br.dec (λg N4 J=>SU (by omega) O N4 _ λe N5 U he _ _ _=>?_) λ_=>⟨vN,λN4 J=>hQ _ _ _ _ _ _ _ (by omega) I (O.mono (by omega))⟩);rw[i64_in (n5+1) (by omega)];exact ab _ _ _ _ _ _ _ _ _ (by omega) (by omega) (by omega) (by omega) (by omega) I (he.mono (by omega))
 have lf:∀(m k:Nat) (y:D) (a es c i h) (N':Nat),m+k=3->N<=N'->Cu es i->SmT (16*2 ^ k - 1) y->wx E Q N k a es c i h 0 none [] 0 y N':=by
  have p3:∀ k:Nat,k<=3->2 ^ k<=8:=λk hk=>by rcases(by omega:k=0\/k=1\/k=2\/k=3)with rfl | rfl | rfl | rfl<;>decide
  intro m
  induction m with
  | zero=>
    intro k y a es c i h N' h1 h3 I O
    have:=p3 k (by omega)
    exact qx _ _ _ _ _ _ _ _ _ _ _ _ _ _ _ (Br.dec (λg=>by omega) λ_=>⟨vN,λN4 J=>hQ _ _ _ _ _ _ _ (by omega) I (O.mono (by omega))⟩)
  | succ m ab=>
    intro k y a es c i h N' h1 h3 I O
    have:=p3 k (by omega)
    have h0:1<=2 ^ k:=Nat.one_le_two_pow;refine qx _ _ _ _ _ _ _ _ _ _ _ _ _ _ _ (Br.dec (λg N4 J=>WO (by omega) O O N4 _ λe N5 U he _ _ _=>?_) λ_=>⟨vN,λN4 J=>hQ _ _ _ _ _ _ _ (by omega) I (O.mono (by omega))⟩);rw[i64_in ((k:Int)+1) (by omega)];exact ab (k+1) _ _ _ _ _ _ _ (by omega) (by omega) I (he.mono (by rw[Nat.pow_succ];omega))
 obtain⟨k,ra,rs,rc,rfl,aj,ax⟩:=hx;obtain⟨t,ht,ae⟩:=hd;obtain⟨k',l,rfl⟩:∃ k l,t=Ty.mk k l:=by cases t;exact⟨_,_,rfl⟩
 obtain⟨_,_,_,he,hl,Y⟩:=Ty.is_mk.1 ht;cases he;simp only[Ty.cnt]at ae;refine xd ai 10 (by omega) a1 c1 h1 N3 _ λx a2 ay c2 i2 h2 N4 J aa _ _ _ _ _=>Br.beq (λ_ N5 U=>?_) λ_=>Br.beq (λ_=>⟨_,_,_,rfl,λN5 U=>?_⟩) λ_=>Br.beq (λ_ N5 U=>?_) λ_=>Br.beq (λ_=>?_) λ_=>⟨vN,λN5 U=>hQ _ _ _ _ _ _ _ (by omega) aa ⟨_,ht,by simp only[Ty.cnt];omega⟩⟩
 ·exact xd aa 6 (by omega) a2 c2 h2 N5 _ λy a3 ak c3 i3 h3 N6 ah ac _ _ _ _ _=>⟨vN,λN7 al=>hQ _ _ _ _ _ _ _ (by omega) ac ⟨.mk y l,Ty.is_mk.2 ⟨_,_,_,rfl,hl,Y⟩,by simp only[Ty.cnt];omega⟩⟩
 ·refine vF N5 _ λy N6 ah O _ _ _=>⟨?_,by unfold zA;rw[oK];simp only[oJ,oN];omega,λc4=>⟨⟨rfl,rfl⟩,⟨rfl,rfl⟩,⟨rfl,rfl⟩,⟨rfl,rfl⟩,λa4 N7 al _=>⟨vN,λN8 az=>hQ _ _ _ _ _ _ _ (by omega) aa ⟨.mk k (l++[tInt]),Ty.is_mk.2 ⟨_,_,_,rfl,by simp;omega,Y.snoc O⟩,?_⟩⟩⟩⟩
  ·unfold YU;split
   ·trivial
   ·exact⟨aj,by simp⟩
  ·have:zN (l++[tInt])=zN l+1:=by
    clear ht ae Y hl
    induction l with
    | nil=>rfl
    | cons u l am=>simp only[nE,zN,am];omega
   simp only[Ty.cnt];omega
 ·refine xd aa 6 (by omega) a2 c2 h2 N5 _ λy a3 ak c3 i3 h3 N6 ah ac y0 y1 _ _ _=>?_;have y1:=y1 (by omega);simp only[i64_in (1+y) (by omega)];exact lc 6 _ _ _ _ _ _ _ _ _ (by omega) (by omega) (by omega) (by omega) (by omega) ac ⟨_,ht,by simp only[Ty.cnt];omega⟩
 ·exact lf 3 0 _ _ _ _ _ _ _ (by omega) (by omega) aa ⟨_,ht,by simp only[Ty.cnt];omega⟩
def PkT (m:Nat)(s I:ByteArray)(x J O U:D)(es:List D):Prop:=∃(ty re:Ty) (l:List Tm),s.size<=4611686018427387904/\I.size<=4611686018427387904/\ty.Is (.ag [x,J])/\re.Is (.ag [O,U])/\All2 Tm.Is l es/\es.length<=1000/\1+ty.cnt+re.cnt+4*rm l<=m
theorem PkT.some {m:Nat}(h:PkT m s I x J O U es)(k n:Int)(a:Option Addr)(c:Nat):Some m (.ag [.j k,.t s,.t I,.j n,x,J,O,U,.sl a 9 es c]):=by obtain⟨ty,re,l,Y,h2,h3,h4,h5,h6,h7⟩:=h;exact⟨.mk k s I n ty re l,Tm.is_mk.2 ⟨_,_,_,_,_,_,_,rfl,⟨Y,h2,h3,h4⟩,by omega,h5⟩,by have h8:2 ^ bn k<=2 ^ 2:=lG (by omega) (zAI k);have h9:=oc (rm l) h8;simp only[Tm.wt];omega⟩
theorem PkT.mono {m n:Nat}(h:PkT m s I x J O U es)(hn:m<=n):PkT n s I x J O U es:=by obtain⟨ty,re,l,Y,h2,h3,h4,h5,h6,h7⟩:=h;exact⟨ty,re,l,Y,h2,h3,h4,h5,h6,by omega⟩
theorem PkT.name {m:Nat}(h:PkT m s I x J O U es){t:ByteArray}(ht:t.size<=1000):PkT m t I x J O U es:=by obtain⟨ty,re,l,h1,Y,h3,h4,h5,h6,h7⟩:=h;exact⟨ty,re,l,by omega,Y,h3,h4,h5,h6,h7⟩
theorem PkT.other {m:Nat}{U:ByteArray}{I:D}(h:PkT m s U x I J O es){t:ByteArray}(ht:t.size<=1000):PkT m s t x I J O es:=by obtain⟨ty,re,l,Y,h2,h3,h4,h5,h6,h7⟩:=h;exact⟨ty,re,l,Y,by omega,h3,h4,h5,h6,h7⟩
theorem PkT.type {m M:Nat}{Y y:D}(h:PkT m s I x Y J O es)(hy:SmT M (.ag [y,U])):PkT (m+M) s I y U J O es:=by obtain⟨ty,re,l,h1,h2,h3,h4,h5,h6,h7⟩:=h;obtain⟨t,h8,h9⟩:=hy;exact⟨t,re,l,h1,h2,h8,h4,h5,h6,by omega⟩
theorem Jg (t:Tm):∀ l:List Tm,rm (l++[t])=rm l+t.wt
 | []=>by simp[rm]
 | x::l=>by simp only[nE,rm,Jg t l];omega
theorem PkT.snoc {m M:Nat}(h:PkT m s I x J O U es)(hd:Some M d)(hl:es.length<=999):PkT (m+4*M) s I x J O U (es++[d]):=by obtain⟨ty,re,l,Y,h2,h3,h4,h5,h6,h7⟩:=h;obtain⟨t,h8,h9⟩:=hd;exact⟨ty,re,l++[t],Y,h2,h3,h4,h5.snoc h8,by simp;omega,by rw[Jg];omega⟩
theorem JQ (hs:s.size<=1000)(Y:I.size<=1000)(h1:SmT 7 (.ag [x,J]))(h2:SmT 7 (.ag [O,U])):PkT 15 s I x J O U []:=by obtain⟨t,h3,h4⟩:=h1;obtain⟨u,h5,h6⟩:=h2;exact⟨t,u,[],by omega,by omega,h3,h5,rfl,by simp,by simp only[rm];omega⟩
theorem O1:SmT 7 (.ag [D.j 0,D.sl none 2 [] 0]):=(O0 0).mono (by omega)
def PL (b:Int) (X:Nat):Prop:=∀(n:Int),n<=b->∀ {es:List D} {i:Int} (_:Cu es i) (a:Option Addr) (c:Nat) (h:Int) (N:Nat) (Q:QT [.pk,.i,.str,.str,.i,.dc,.dc,.dc,.dc,.row 30 9,.sl 0,.i,.i])
    (_:∀ k s I Y x J O U r q a' es' c' i' h' N',N<=N'->Cu es' i'->PkT X s I x J O U r->r.length<=3->Q k s I Y x J O U r q a' es' c' i' h' N'),BCalls prog 140 [.pk,.i,.str,.str,.i,.dc,.dc,.dc,.dc,.row 30 9,.sl 0,.i,.i] [.pb 0 0 0 0,.j n] [.var [.sv a 0 es c,.j i,.j h]] N Q
theorem WQ (ae:Cu es i)(a:Option Addr)(c:Nat)(h:Int)(N:Nat)(Q:QT [.pk,.i,.str,.str,.i,.dc,.dc,.dc,.dc,.row 30 9,.sl 0,.i,.i])(hQ:∀ k s s1 n' x x1 x2 x3 r q a' es' c' i' h' N',N<=N'->Cu es' i'->PkT 15 s s1 x x1 x2 x3 r->r.length<=3->Q k s s1 n' x x1 x2 x3 r q a' es' c' i' h' N'):BCalls prog 184 [.pk,.i,.str,.str,.i,.dc,.dc,.dc,.dc,.row 30 9,.sl 0,.i,.i] [.pb 0 0 0 0] [.var [.sv a 0 es c,.j i,.j h]] N Q:=by
 have z:PkT 15 (bytes []) (bytes []) (D.j 0) (D.sl none 2 [] 0) (D.j 0) (D.sl none 2 [] 0) []:=JQ (by decide) (by decide) O1 O1;refine Fm N a es c i h Q λE _ N1 ah=>xd ae 4 (by omega) a c h N1 _ λx a1 ai c1 i1 h1 N2 aj J _ _ _ _ _=>Br.beq (λ_ N3 O=>?_) λ_=>Br.beq (λ_ N3 O=>?_) λ_ N3 O=>?_
 ·exact rM (l:=[0,1,2,3,10006]) J (by decide) (by decide) a1 c1 h1 5 5 N3 _ λk a2 U c2 i2 h2 N4 Y I _ _ _ _ N5 aa=>In N5 k _ λN6 ab _ _=>⟨vN,⟨rfl,rfl⟩,λN7 ac=>hQ _ _ _ _ _ _ _ _ _ _ _ _ _ _ _ _ (by omega) I z (by simp)⟩
 ·exact xd J 2 (by omega) a1 c1 h1 N3 _ λk a2 U c2 i2 h2 N4 Y I _ _ _ _ _ N5 aa=>Hp N5 k _ λN6 ab _ _=>⟨vN,⟨rfl,rfl⟩,λN7 ac=>hQ _ _ _ _ _ _ _ _ _ _ _ _ _ _ _ _ (by omega) I z (by simp)⟩
 ·refine pV (l:=[bytes [120],bytes [121],bytes [102]]) J (by decide) (by decide) a1 c1 h1 3 3 N3 _ λs a2 U c2 i2 h2 N4 Y I hs _ _ _ N5 aa=>BX N5 s _ λN6 ab _ _=>⟨vN,⟨rfl,rfl⟩,λN7 ac=>hQ _ _ _ _ _ _ _ _ _ _ _ _ _ _ _ _ (by omega) I (z.name ?_) (by simp)⟩
  simp only[oH,oh,mK]at hs;rcases hs with rfl | rfl | rfl<;>decide
theorem Wz:PL 1 15:=λn hn es i I a c h N Q O=>AX N n a es c i h Q λE _=>Br.dec (λ_ N1 U=>WQ I a c h N1 _ λk s s1 n' x x1 x2 x3 r q a' es' c' i' h' N2 Y J hp hr _ _ _=>⟨vN,⟨rfl,rfl⟩,λN3 aa=>O _ _ _ _ _ _ _ _ _ _ _ _ _ _ _ _ (by omega) J hp hr⟩) λg=>absurd (by omega) g
theorem zAC {b:Int}{X:Nat}(hb:b<=1000)(hX:15<=X)(ih:PL b X){Q:QT [.pk,.i,.str,.str,.i,.dc,.dc,.dc,.dc,.row 30 9,.sl 0,.i,.i]}(hn:n - 1<=b)(ah:2<=n)(kd n3:Int)(s J:ByteArray)(O U Y x7:D)(hm:m6<=3)(hQ:∀ r q a es c i h N',N<=N'->Cu es i->PkT (15+3*(4*X)) s J O U Y x7 r->r.length<=3->Q kd s J n3 O U Y x7 r q a es c i h N'):
  ∀(rem k:Nat) (r:List D) (q:Nat) a es c i h N',m6<=k+rem->k<=3->r.length=k->N<=N'->Cu es i->PkT (15+k*(4*X)) s J O U Y x7 r->vh E Q N n m6 k a es c i h 0 (bytes []) (bytes []) 0 0 none [] 0 0 none [] 0 none [] 0 kd s J n3 O U Y x7 r.length q r q N':=by
 intro rem
 induction rem with
 | zero=>intro k r q a es c i h N' h1 h2 h3 h4 I hp;have hk:k*(4*X)<=3*(4*X):=oc _ h2;refine p9 _ _ _ _ _ _ _ _ _ _ _ _ _ _ _ _ _ _ _ _ _ _ _ _ _ _ _ _ _ _ _ _ _ _ _ _ _ _ _ (Br.dec (λg=>by omega) λ_=>⟨vN,⟨rfl,rfl⟩,λN4 aa=>hQ _ _ _ _ _ _ _ _ (by omega) I (hp.mono (by omega)) (by omega)⟩)
 | succ rem ab=>
   intro k r q a es c i h N' h1 h2 h3 h4 I hp;have hk:k*(4*X)<=3*(4*X):=oc _ h2;refine p9 _ _ _ _ _ _ _ _ _ _ _ _ _ _ _ _ _ _ _ _ _ _ _ _ _ _ _ _ _ _ _ _ _ _ _ _ _ _ _ (Br.dec (λg N1 ai=>?_) λ_=>⟨vN,⟨rfl,rfl⟩,λN4 aa=>hQ _ _ _ _ _ _ _ _ (by omega) I (hp.mono (by omega)) (by omega)⟩);rw[i64_in (n - 1) (by omega)];refine ih (n - 1) hn I a c h N1 _ λk' t t1 n' y y1 y2 y3 es' c' a' aj c2 i2 h2 N2 ak ac ae _ _ _ _=>⟨⟨rfl,rfl⟩,λa1 N3 al _=>⟨⟨rfl,rfl⟩,by unfold zA;rw[oK];simp only[oJ,oN];omega,λc3=>?_⟩⟩
   rw[i64_in ((k:Int)+1) (by omega)];exact ab (k+1) _ c3 _ _ _ _ _ _ (by omega) (by omega) (by simp[h3]) (by omega) ac ((hp.snoc (ae.some _ _ _ _) (by omega)).mono (by rw[nG,mt];omega))
theorem zAB {b:Int}{X:Nat}(hb:b<=1000)(hX:15<=X)(ih:PL b X){Q:QT [.pk,.i,.str,.str,.i,.dc,.dc,.dc,.dc,.row 30 9,.sl 0,.i,.i]}(hn:n - 1<=b)(J:2<=n)(kd n3:Int)(hs:s.size<=1000)(O:I.size<=1000)(U Y x6 x7:D)(hT:SmT 7 (.ag [U,Y]))(hR:SmT 7 (.ag [x6,x7]))(hQ:∀ k s I n' x x1 x2 x3 r q a es c i h N',N<=N'->Cu es i->PkT (15+3*(4*X)) s I x x1 x2 x3 r->r.length<=3->Q k s I n' x x1 x2 x3 r q a es c i h N')(aa:Cu es i)(a:Option Addr)(c:Nat)(h:Int)(ab:N<=N'):
  tU E Q N n a es c i h 0 (bytes []) (bytes []) 0 0 none [] 0 0 none [] 0 none [] 0 kd s I n3 U Y x6 x7 0 0 [] 0 N':=by
 refine Gx _ _ _ _ _ _ _ _ _ _ _ _ _ _ _ _ _ _ _ _ _ _ _ _ _ _ _ _ _ _ _ _ _ _ _ _ _ ⟨⟨rfl,rfl⟩,λa7 _ N1 ac _=>wc N1 _ λN2 ae _=>zAC hb hX ih hn J kd n3 s I U Y x6 x7 (tV _ _) (λr q a es c i h N'=>hQ _ _ _ _ _ _ _ _ r q a es c i h N') 3 0 [] 0 a es c i h N2 (by have:=tV kd s;omega) (by omega) rfl (by omega) aa ((JQ hs O hT hR).mono (by omega))⟩
theorem Ua {b:Int}{X:Nat}(hb:b<=1000)(hX:15<=X)(ih:PL b X){Q:QT [.pk,.i,.str,.str,.i,.dc,.dc,.dc,.dc,.row 30 9,.sl 0,.i,.i]}(hn:n - 1<=b)(ah:2<=n)(kd n3:Int)(s J:ByteArray)(O U:D)(hm:m6<=3)(hQ:∀ r q a es c i h N',N<=N'->Cu es i->PkT (15+3*(4*X)) s J O U (D.j 0) (D.sl none 2 [] 0) r->r.length<=3->Q kd s J n3 O U (D.j 0) (D.sl none 2 [] 0) r q a es c i h N'):
  ∀(rem k:Nat) (r:List D) (q:Nat) a es c i h N',m6<=k+rem->k<=3->r.length=k->N<=N'->Cu es i->PkT (15+k*(4*X)) s J O U (D.j 0) (D.sl none 2 [] 0) r->xz E Q N n m6 k a es c i h 0 (bytes []) (bytes []) 0 0 none [] 0 0 none [] 0 none [] 0 kd s J n3 O U 0 none [] 0 r.length q r q N':=by
 intro rem
 induction rem with
 | zero=>intro k r q a es c i h N' h1 Y h3 h4 I hp;have hk:k*(4*X)<=3*(4*X):=oc _ Y;refine sj _ _ _ _ _ _ _ _ _ _ _ _ _ _ _ _ _ _ _ _ _ _ _ _ _ _ _ _ _ _ _ _ _ _ _ _ _ _ _ _ _ (Br.dec (λg=>by omega) λ_=>⟨vN,⟨rfl,rfl⟩,λN4 aa=>hQ _ _ _ _ _ _ _ _ (by omega) I (hp.mono (by omega)) (by omega)⟩)
 | succ rem ab=>
   intro k r q a es c i h N' h1 Y h3 h4 I hp;have hk:k*(4*X)<=3*(4*X):=oc _ Y;refine sj _ _ _ _ _ _ _ _ _ _ _ _ _ _ _ _ _ _ _ _ _ _ _ _ _ _ _ _ _ _ _ _ _ _ _ _ _ _ _ _ _ (Br.dec (λg N1 ai=>?_) λ_=>⟨vN,⟨rfl,rfl⟩,λN4 aa=>hQ _ _ _ _ _ _ _ _ (by omega) I (hp.mono (by omega)) (by omega)⟩);rw[i64_in (n - 1) (by omega)];refine ih (n - 1) hn I a c h N1 _ λk' t t1 n' y y1 y2 y3 es' c' a' aj c2 i2 Y N2 ak ac ae _ _ _ _=>⟨⟨rfl,rfl⟩,λa1 N3 al _=>⟨⟨rfl,rfl⟩,by unfold zA;rw[oK];simp only[oJ,oN];omega,λc3=>?_⟩⟩
   rw[i64_in ((k:Int)+1) (by omega)];exact ab (k+1) _ c3 _ _ _ _ _ _ (by omega) (by omega) (by simp[h3]) (by omega) ac ((hp.snoc (ae.some _ _ _ _) (by omega)).mono (by rw[nG,mt];omega))
theorem UX {b:Int}{X:Nat}(hb:b<=1000)(hX:15<=X)(ih:PL b X){Q:QT [.pk,.i,.str,.str,.i,.dc,.dc,.dc,.dc,.row 30 9,.sl 0,.i,.i]}(hn:n - 1<=b)(J:2<=n)(kd n3:Int)(hs:s.size<=1000)(O:I.size<=1000)(U Y:D)(hT:SmT 7 (.ag [U,Y]))(hR:SmT 7 (.ag [(D.j 0),(D.sl none 2 [] 0)]))(hQ:∀ k s I n' x x1 x2 x3 r q a es c i h N',N<=N'->Cu es i->PkT (15+3*(4*X)) s I x x1 x2 x3 r->r.length<=3->Q k s I n' x x1 x2 x3 r q a es c i h N')(aa:Cu es i)(a:Option Addr)(c:Nat)(h:Int)(ab:N<=N'):
  ve E Q N n a es c i h 0 (bytes []) (bytes []) 0 0 none [] 0 0 none [] 0 none [] 0 kd s I n3 U Y 0 none [] 0 0 0 [] 0 N':=by
 refine Cv _ _ _ _ _ _ _ _ _ _ _ _ _ _ _ _ _ _ _ _ _ _ _ _ _ _ _ _ _ _ _ _ _ _ _ _ _ _ _ ⟨⟨rfl,rfl⟩,λa7 _ N1 ac _=>wc N1 _ λN2 ae _=>Ua hb hX ih hn J kd n3 s I U Y (tV _ _) (λr q a es c i h N'=>hQ _ _ _ _ _ _ _ _ r q a es c i h N') 3 0 [] 0 a es c i h N2 (by have:=tV kd s;omega) (by omega) rfl (by omega) aa ((JQ hs O hT hR).mono (by omega))⟩
theorem Ub {b:Int}{X:Nat}(hb:b<=1000)(hX:15<=X)(ih:PL b X){Q:QT [.pk,.i,.str,.str,.i,.dc,.dc,.dc,.dc,.row 30 9,.sl 0,.i,.i]}(hn:n - 1<=b)(ah:2<=n)(kd n3:Int)(s J:ByteArray)(O U:D)(hm:m6<=3)(hQ:∀ r q a es c i h N',N<=N'->Cu es i->PkT (15+3*(4*X)) s J (D.j 0) (D.sl none 2 [] 0) O U r->r.length<=3->Q kd s J n3 (D.j 0) (D.sl none 2 [] 0) O U r q a es c i h N'):
  ∀(rem k:Nat) (r:List D) (q:Nat) a es c i h N',m6<=k+rem->k<=3->r.length=k->N<=N'->Cu es i->PkT (15+k*(4*X)) s J (D.j 0) (D.sl none 2 [] 0) O U r->x8 E Q N n m6 k a es c i h 0 (bytes []) (bytes []) 0 0 none [] 0 0 none [] 0 none [] 0 kd s J n3 0 none [] 0 O U r.length q r q N':=by
 intro rem
 induction rem with
 | zero=>intro k r q a es c i h N' h1 Y h3 h4 I hp;have hk:k*(4*X)<=3*(4*X):=oc _ Y;refine sk _ _ _ _ _ _ _ _ _ _ _ _ _ _ _ _ _ _ _ _ _ _ _ _ _ _ _ _ _ _ _ _ _ _ _ _ _ _ _ _ _ (Br.dec (λg=>by omega) λ_=>⟨vN,⟨rfl,rfl⟩,λN4 aa=>hQ _ _ _ _ _ _ _ _ (by omega) I (hp.mono (by omega)) (by omega)⟩)
 | succ rem ab=>
   intro k r q a es c i h N' h1 Y h3 h4 I hp;have hk:k*(4*X)<=3*(4*X):=oc _ Y;refine sk _ _ _ _ _ _ _ _ _ _ _ _ _ _ _ _ _ _ _ _ _ _ _ _ _ _ _ _ _ _ _ _ _ _ _ _ _ _ _ _ _ (Br.dec (λg N1 ai=>?_) λ_=>⟨vN,⟨rfl,rfl⟩,λN4 aa=>hQ _ _ _ _ _ _ _ _ (by omega) I (hp.mono (by omega)) (by omega)⟩);rw[i64_in (n - 1) (by omega)];refine ih (n - 1) hn I a c h N1 _ λk' t t1 n' y y1 y2 y3 es' c' a' aj c2 i2 Y N2 ak ac ae _ _ _ _=>⟨⟨rfl,rfl⟩,λa1 N3 al _=>⟨⟨rfl,rfl⟩,by unfold zA;rw[oK];simp only[oJ,oN];omega,λc3=>?_⟩⟩
   rw[i64_in ((k:Int)+1) (by omega)];exact ab (k+1) _ c3 _ _ _ _ _ _ (by omega) (by omega) (by simp[h3]) (by omega) ac ((hp.snoc (ae.some _ _ _ _) (by omega)).mono (by rw[nG,mt];omega))
theorem UY {b:Int}{X:Nat}(hb:b<=1000)(hX:15<=X)(ih:PL b X){Q:QT [.pk,.i,.str,.str,.i,.dc,.dc,.dc,.dc,.row 30 9,.sl 0,.i,.i]}(hn:n - 1<=b)(J:2<=n)(kd n3:Int)(hs:s.size<=1000)(O:I.size<=1000)(U Y:D)(hT:SmT 7 (.ag [(D.j 0),(D.sl none 2 [] 0)]))(hR:SmT 7 (.ag [U,Y]))(hQ:∀ k s I n' x x1 x2 x3 r q a es c i h N',N<=N'->Cu es i->PkT (15+3*(4*X)) s I x x1 x2 x3 r->r.length<=3->Q k s I n' x x1 x2 x3 r q a es c i h N')(aa:Cu es i)(a:Option Addr)(c:Nat)(h:Int)(ab:N<=N'):
  vf E Q N n a es c i h 0 (bytes []) (bytes []) 0 0 none [] 0 0 none [] 0 none [] 0 kd s I n3 0 none [] 0 U Y 0 0 [] 0 N':=by
 refine Cw _ _ _ _ _ _ _ _ _ _ _ _ _ _ _ _ _ _ _ _ _ _ _ _ _ _ _ _ _ _ _ _ _ _ _ _ _ _ _ ⟨⟨rfl,rfl⟩,λa7 _ N1 ac _=>wc N1 _ λN2 ae _=>Ub hb hX ih hn J kd n3 s I U Y (tV _ _) (λr q a es c i h N'=>hQ _ _ _ _ _ _ _ _ r q a es c i h N') 3 0 [] 0 a es c i h N2 (by have:=tV kd s;omega) (by omega) rfl (by omega) aa ((JQ hs O hT hR).mono (by omega))⟩
theorem Uc {b:Int}{X:Nat}(hb:b<=1000)(hX:15<=X)(ih:PL b X){Q:QT [.pk,.i,.str,.str,.i,.dc,.dc,.dc,.dc,.row 30 9,.sl 0,.i,.i]}(hn:n - 1<=b)(ah:2<=n)(kd n3:Int)(s J:ByteArray){Y:Int}(hm:Y<=3)(hQ:∀ r q a es c i h N',N<=N'->Cu es i->PkT (15+3*(4*X)) s J (D.j 0) (D.sl none 2 [] 0) (D.j 0) (D.sl none 2 [] 0) r->r.length<=3->Q kd s J n3 (D.j 0) (D.sl none 2 [] 0) (D.j 0) (D.sl none 2 [] 0) r q a es c i h N'):
  ∀(rem k:Nat) (r:List D) (q:Nat) a es c i h N',Y<=k+rem->k<=3->r.length=k->N<=N'->Cu es i->PkT (15+k*(4*X)) s J (D.j 0) (D.sl none 2 [] 0) (D.j 0) (D.sl none 2 [] 0) r->x9 E Q N n Y k a es c i h 0 (bytes []) (bytes []) 0 0 none [] 0 0 none [] 0 none [] 0 kd s J n3 0 none [] 0 0 none [] 0 r.length q r q N':=by
 intro rem
 induction rem with
 | zero=>intro k r q a es c i h N' h1 O h3 h4 I U;have hk:k*(4*X)<=3*(4*X):=oc _ O;refine sm _ _ _ _ _ _ _ _ _ _ _ _ _ _ _ _ _ _ _ _ _ _ _ _ _ _ _ _ _ _ _ _ _ _ _ _ _ _ _ _ _ _ _ (Br.dec (λg=>by omega) λ_=>⟨vN,⟨rfl,rfl⟩,λN4 aa=>hQ _ _ _ _ _ _ _ _ (by omega) I (U.mono (by omega)) (by omega)⟩)
 | succ rem ab=>
   intro k r q a es c i h N' h1 O h3 h4 I U;have hk:k*(4*X)<=3*(4*X):=oc _ O;refine sm _ _ _ _ _ _ _ _ _ _ _ _ _ _ _ _ _ _ _ _ _ _ _ _ _ _ _ _ _ _ _ _ _ _ _ _ _ _ _ _ _ _ _ (Br.dec (λg N1 ai=>?_) λ_=>⟨vN,⟨rfl,rfl⟩,λN4 aa=>hQ _ _ _ _ _ _ _ _ (by omega) I (U.mono (by omega)) (by omega)⟩);rw[i64_in (n - 1) (by omega)];refine ih (n - 1) hn I a c h N1 _ λk' t t1 n' y y1 y2 y3 es' c' a' aj c2 i2 O N2 ak ac ae _ _ _ _=>⟨⟨rfl,rfl⟩,λa1 N3 al _=>⟨⟨rfl,rfl⟩,by unfold zA;rw[oK];simp only[oJ,oN];omega,λc3=>?_⟩⟩
   rw[i64_in ((k:Int)+1) (by omega)];exact ab (k+1) _ c3 _ _ _ _ _ _ (by omega) (by omega) (by simp[h3]) (by omega) ac ((U.snoc (ae.some _ _ _ _) (by omega)).mono (by rw[nG,mt];omega))
theorem UZ {b:Int}{X:Nat}(hb:b<=1000)(hX:15<=X)(ih:PL b X){Q:QT [.pk,.i,.str,.str,.i,.dc,.dc,.dc,.dc,.row 30 9,.sl 0,.i,.i]}(hn:n - 1<=b)(J:2<=n)(kd Y:Int)(hs:s.size<=1000)(O:I.size<=1000)(hT:SmT 7 (.ag [(D.j 0),(D.sl none 2 [] 0)]))(hR:SmT 7 (.ag [(D.j 0),(D.sl none 2 [] 0)]))(hQ:∀ k s I n' x x1 x2 x3 r q a es c i h N',N<=N'->Cu es i->PkT (15+3*(4*X)) s I x x1 x2 x3 r->r.length<=3->Q k s I n' x x1 x2 x3 r q a es c i h N')(U:Cu es i)(a:Option Addr)(c:Nat)(h:Int)(aa:N<=N'):
  vg E Q N n a es c i h 0 (bytes []) (bytes []) 0 0 none [] 0 0 none [] 0 none [] 0 kd s I Y 0 none [] 0 0 none [] 0 0 0 [] 0 N':=by
 refine Cx _ _ _ _ _ _ _ _ _ _ _ _ _ _ _ _ _ _ _ _ _ _ _ _ _ _ _ _ _ _ _ _ _ _ _ _ _ _ _ _ _ ⟨⟨rfl,rfl⟩,λa7 _ N1 ab _=>wc N1 _ λN2 ac _=>Uc hb hX ih hn J kd Y s I  (tV _ _) (λr q a es c i h N'=>hQ _ _ _ _ _ _ _ _ r q a es c i h N') 3 0 [] 0 a es c i h N2 (by have:=tV kd s;omega) (by omega) rfl (by omega) U ((JQ hs O hT hR).mono (by omega))⟩
theorem Yk {b:Int}{X:Nat}(hb:b<=1000)(hX:15<=X)(ih:PL b X){Q:QT [.pk,.i,.str,.str,.i,.dc,.dc,.dc,.dc,.row 30 9,.sl 0,.i,.i]}(hn:n - 1<=b)(I:2<=n)(kd n3:Int)(hs:s.size<=1000)(O U:D)(hT:SmT 7 (.ag [O,U]))(hQ:∀ k s s1 n' x x1 x2 x3 r q a es c i h N',N<=N'->Cu es i->PkT (15+3*(4*X)) s s1 x x1 x2 x3 r->r.length<=3->Q k s s1 n' x x1 x2 x3 r q a es c i h N')(J:Cu es i)(a:Option Addr)(c:Nat)(h:Int)(aa:N<=N'):
  va E Q N n a es c i h 0 (bytes []) (bytes []) 0 0 none [] 0 0 none [] 0 none [] 0 kd s (bytes []) n3 O U 0 none [] 0 0 0 [] 0 N':=by
 refine Gw _ _ _ _ _ _ _ _ _ _ _ _ _ _ _ _ _ _ _ _ _ _ _ _ _ _ _ _ _ _ _ _ _ _ _ _ _ _ _ (Br.beq (λ_ N1 ae=>?_) λ_=>UX hb hX ih hn I kd n3 hs (by decide) O U hT O1 hQ J a c h aa);refine pV (l:=[bytes [122],bytes [119]]) J (by decide) (by decide) a c h 2 2 N1 _ λt a1 ah c1 i1 h1 N2 ai ab Y _ _ _ N3 aj=>?_;have Y:t.size<=1000:=by simp only[oH,oh,mK]at Y;rcases Y with rfl | rfl<;>decide
 exact Ji 2 (by omega) ab a1 c1 h1 N3 _ λd a2 ak c2 i2 h2 N4 al ac hd _ _ _ _=>zAB hb hX ih hn I kd n3 hs Y O U _ _ hT (hd.cells.mono (by omega)) hQ ac a2 c2 h2 (by omega)
theorem UW {b:Int}{X:Nat}(hb:b<=1000)(hX:15<=X)(ih:PL b X){Q:QT [.pk,.i,.str,.str,.i,.dc,.dc,.dc,.dc,.row 30 9,.sl 0,.i,.i]}(hn:n - 1<=b)(I:2<=n)(kd U:Int)(hs:s.size<=1000)(hT:SmT 7 (.ag [(D.j 0),(D.sl none 2 [] 0)]))(hQ:∀ k s s1 n' x x1 x2 x3 r q a es c i h N',N<=N'->Cu es i->PkT (15+3*(4*X)) s s1 x x1 x2 x3 r->r.length<=3->Q k s s1 n' x x1 x2 x3 r q a es c i h N')(J:Cu es i)(a:Option Addr)(c:Nat)(h:Int)(Y:N<=N'):
  vb E Q N n a es c i h 0 (bytes []) (bytes []) 0 0 none [] 0 0 none [] 0 none [] 0 kd s (bytes []) U 0 none [] 0 0 none [] 0 0 0 [] 0 N':=by
 refine Ct _ _ _ _ _ _ _ _ _ _ _ _ _ _ _ _ _ _ _ _ _ _ _ _ _ _ _ _ _ _ _ _ _ _ _ _ _ _ _ _ _ (Br.beq (λ_ N1 ac=>?_) λ_=>UZ hb hX ih hn I kd U hs (by decide) hT O1 hQ J a c h Y);refine pV (l:=[bytes [122],bytes [119]]) J (by decide) (by decide) a c h 2 2 N1 _ λt a1 ae c1 i1 h1 N2 ah aa O _ _ _ N3 ai=>?_;have O:t.size<=1000:=by simp only[oH,oh,mK]at O;rcases O with rfl | rfl<;>decide
 exact Ji 2 (by omega) aa a1 c1 h1 N3 _ λd a2 aj c2 i2 h2 N4 ak ab hd _ _ _ _=>UY hb hX ih hn I kd U hs O _ _ hT (hd.cells.mono (by omega)) hQ ab a2 c2 h2 (by omega)
theorem J6 {b:Int}{X:Nat}(hb:b<=1000)(hX:15<=X)(ih:PL b X):PL (b+1) (15+3*(4*X)):=λn hn es i J a c h N Q hQ=>by
 have lf:∀(E:Env) {es:List D} {i:Int} (_:Cu es i) a c h N1,N<=N1->BCalls prog 184 [.pk,.i,.str,.str,.i,.dc,.dc,.dc,.dc,.row 30 9,.sl 0,.i,.i] [.pb 0 0 0 0] [.var [.sv a 0 es c,.j i,.j h]] N1 (λn s ao ab x aq au aw es c a Y aa ac ax N2=>N1<=N2->Bel N2 (D.sl a 0 Y aa)->Bel N2 (D.ag es)->WF E [.var [.sv none 0 [] 0,.j 0,.j 0]]/\(es.length=es.length/\c=c)/\∀ N3,N2<=N3->Q n s ao ab x aq au aw es c a Y aa ac ax N3):=λE es i J a c h N1 ae=>WQ J a c h N1 _ λk s s1 n' x x1 x2 x3 r q a' es' c' i' h' N2 ay az hp hr _ _ _=>⟨vN,⟨rfl,rfl⟩,λN3 al=>hQ _ _ _ _ _ _ _ _ _ _ _ _ _ _ _ _ (by omega) az (hp.mono (by omega)) hr⟩
 refine AX N n a es c i h Q λE _=>Br.dec (λ_ N1 ae=>lf E J a c h N1 ae) λa6 N1 ae=>El J 5 (by omega) a c h N1 _ λb1 a1 a7 c1 i1 h1 N2 ay am _ _=>Br.of (λ_ N3 al=>lf E am a1 c1 h1 N3 (by omega)) λ_ N3 al=>?_;refine rM (l:=[4,5,6,7,8,9,10,11,12,13,10,4]) am (by decide) (by decide) a1 c1 h1 12 12 N3 _ λkd a2 ah c2 i2 h2 N4 a8 U _ _ _ _=>?_;have ai:∀ {s:ByteArray} (_:s.size<=1000) {es:List D} {i:Int} (_:Cu es i) a c h N',N<=N'->yP E Q N n a es c i h 0 (bytes []) (bytes []) 0 0 none [] 0 0 none [] 0 none [] 0 kd s (bytes []) 0 0 none [] 0 0 none [] 0 0 0 [] 0 N':=λhs es i J a c h N' a0=>by refine Gv _ _ _ _ _ _ _ _ _ _ _ _ _ _ _ _ _ _ _ _ _ _ _ _ _ _ _ _ _ _ _ _ _ _ _ _ _ _ _ _ _ (Br.beq (λ_ O I=>Ji 2 (by omega) J a c h O _ λd a2 ah c2 i2 h2 N6 aj U hd _ _ _ _=>Yk hb hX ih (by omega) (by omega) kd 0 hs _ _ (hd.cells.mono (by omega)) hQ U a2 c2 h2 (by omega)) λ_=>Br.beq (λ_ O I=>Ji 2 (by omega) J a c h O _ λd a2 ah c2 i2 h2 N6 aj U hd _ _ _ _=>Yk hb hX ih (by omega) (by omega) kd 0 hs _ _ (hd.cells.mono (by omega)) hQ U a2 c2 h2 (by omega)) λ_=>UW hb hX ih (by omega) (by omega) kd 0 hs O1 hQ J a c h a0)
 have L3:∀ O,N4<=O->BCalls prog 85 [.str,.sl 0,.i,.i,.sl 0] [.pb 0 0 0 0,.sb 1 0 0 3 3] [.var [.sv a2 0 ah c2,.j i2,.j h2],.arr 9 0 (zD [bytes [120],bytes [121],bytes [102]]) 3] O (λs a es c ab ac a4 Y aa N6=>O<=N6->Bel N6 (D.sl a 0 es c)->Bel N6 (D.sl a4 0 Y aa)->yP E Q N n a es c ab ac 0 (bytes []) (bytes []) 0 0 none [] 0 0 none [] 0 none [] 0 kd s (bytes []) 0 0 none [] 0 0 none [] 0 0 0 [] 0 N6):=λO I=>pV (l:=[bytes [120],bytes [121],bytes [102]]) U (by decide) (by decide) a2 c2 h2 3 3 O _ λt a3 a5 c3 i3 h3 N6 aj ak ht _ _ _=>ai (by simp only[oH,oh,mK]at ht;rcases ht with rfl | rfl | rfl<;>decide) ak a3 c3 h3 N6 (by omega);refine Br.beq (λ_ O I=>?_) λ_=>Br.beq (λ_ O I=>L3 O I) λ_=>Br.beq (λ_ O I=>L3 O I) λ_=>Br.beq (λ_ O I=>L3 O I) λ_=>ai (by decide) U a2 c2 h2 N4 (by omega);refine pV (l:=[bytes [43],bytes [45],bytes [42],bytes [61],bytes [60],bytes [38],bytes [124],bytes [33]]) U (by decide) (by decide) a2 c2 h2 8 8 O _ λt a3 a5 c3 i3 h3 N6 aj ak ht _ _ _=>ai ?_ ak a3 c3 h3 N6 (by omega);simp only[oH,oh,mK]at ht;rcases ht with rfl | rfl | rfl | rfl | rfl | rfl | rfl | rfl<;>decide
theorem Ue:PL 4 28275:=by have h:=J6 (b:=3) (by omega) (by omega) (J6 (b:=2) (by omega) (by omega) (J6 (b:=1) (by omega) (by omega) Wz));exact λn hn es i I a c J N Q O=>h n (by omega) I a c J N Q λk s s1 n' x x1 x2 x3 r q a' es' c' i' J N' U Y h3 h4=>O _ _ _ _ _ _ _ _ _ _ _ _ _ _ _ _ U Y (h3.mono (by omega)) h4
theorem XL (ae:Cu es i)(a:Option Addr)(c:Nat)(h:Int)(N:Nat)(Q:QT [.ag 9,.sl 0,.i,.i])(hQ:∀ d' a' es' c' i' h' N',N<=N'->Cu es' i'->Some 30000 d'->Q d' a' es' c' i' h' N'):BCalls prog 87 [.ag 9,.sl 0,.i,.i] [.pb 0 0 0 0] [.var [.sv a 0 es c,.j i,.j h]] N Q:=by
 have z:PkT 15 (bytes [120]) (bytes []) (D.j 0) (D.sl none 2 [] 0) (D.j 0) (D.sl none 2 [] 0) []:=JQ (by decide) (by decide) O1 O1;refine Fl N a es c i h Q λE _ N1 ak=>xd ae 4 (by omega) a c h N1 _ λx a1 al c1 i1 h1 N2 am ah x0 x1 _ _ _ N3 ao=>?_;have x1:=x1 (by omega);rw[i64_in (1+x) (by omega)];refine Ue (1+x) (by omega) ah a1 c1 h1 N3 _ λk s s1 n y y1 y2 y3 r q a2 aq c2 i2 h2 N4 au ai hp hr _ _ _ N5 aw=>?_;refine xd ai 14 (by omega) a2 c2 h2 N5 _ λz1 a3 ax c3 i3 h3 N6 ay O _ _ _ _ _=>Br.beq (λ_ N7 aa=>?_) λ_=>Br.beq (λ_ N7 aa=>?_) λ_=>Br.beq (λ_ N7 aa=>?_) λ_=>Br.beq (λ_ N7 aa=>?_) λ_=>Br.beq (λ_ N7 aa=>?_) λ_=>Br.beq (λ_ N7 aa=>?_) λ_=>?_
 ·exact xd O 15 (by omega) a3 c3 h3 N7 _ λw a4 ac c4 i4 h4 N8 ab J _ _ _ _ _=>⟨⟨rfl,rfl⟩,⟨rfl,rfl⟩,⟨rfl,rfl⟩,⟨rfl,rfl⟩,λa5 N9 U _=>⟨vN,λY I=>hQ _ _ _ _ _ _ _ (by omega) J ((hp.some _ _ _ _).mono (by omega))⟩⟩
 ·exact rM (l:=[0,1,10006,10007, -1]) O (by decide) (by decide) a3 c3 h3 5 5 N7 _ λw a4 ac c4 i4 h4 N8 ab J _ _ _ _=>⟨⟨rfl,rfl⟩,⟨rfl,rfl⟩,⟨rfl,rfl⟩,⟨rfl,rfl⟩,λa5 N9 U _=>⟨vN,λY I=>hQ _ _ _ _ _ _ _ (by omega) J ((hp.some _ _ _ _).mono (by omega))⟩⟩
 ·refine pV (l:=[bytes [],bytes [120],bytes [108,101,116],bytes [97,98,99,100,101],bytes [43]]) O (by decide) (by decide) a3 c3 h3 5 5 N7 _ λw a4 ac c4 i4 h4 N8 ab J hw _ _ _=>⟨⟨rfl,rfl⟩,⟨rfl,rfl⟩,⟨rfl,rfl⟩,⟨rfl,rfl⟩,λa5 N9 U _=>⟨vN,λY I=>hQ _ _ _ _ _ _ _ (by omega) J (((hp.name ?_).some _ _ _ _).mono (by omega))⟩⟩
  simp only[oH,oh,mK]at hw;rcases hw with rfl | rfl | rfl | rfl | rfl<;>decide
 ·exact BX N7 _ _ λN8 ab _ _=>⟨⟨rfl,rfl⟩,λa5 N9 U _=>⟨⟨rfl,rfl⟩,by unfold zA;rw[oK];simp only[oJ,oN];omega,λc9=>⟨⟨rfl,rfl⟩,⟨rfl,rfl⟩,⟨rfl,rfl⟩,⟨rfl,rfl⟩,λa6 Y I _=>⟨vN,λaz aj=>hQ _ _ _ _ _ _ _ (by omega) O (((hp.snoc (z.some _ _ _ _) (by omega)).some _ _ _ _).mono (by omega))⟩⟩⟩⟩
 ·exact XK O a3 c3 h3 N7 _ λw a4 ac c4 i4 h4 N8 ab J hw _ _ _=>⟨⟨rfl,rfl⟩,⟨rfl,rfl⟩,⟨rfl,rfl⟩,⟨rfl,rfl⟩,λa5 N9 U _=>⟨vN,λY I=>hQ _ _ _ _ _ _ _ (by omega) J (((hp.type hw.cells).some _ _ _ _).mono (by omega))⟩⟩
 ·refine pV (l:=[bytes [120],bytes [122]]) O (by decide) (by decide) a3 c3 h3 2 2 N7 _ λw a4 ac c4 i4 h4 N8 ab J hw _ _ _=>⟨⟨rfl,rfl⟩,⟨rfl,rfl⟩,⟨rfl,rfl⟩,⟨rfl,rfl⟩,λa5 N9 U _=>⟨vN,λY I=>hQ _ _ _ _ _ _ _ (by omega) J (((hp.other ?_).some _ _ _ _).mono (by omega))⟩⟩
  simp only[oH,oh,mK]at hw;rcases hw with rfl | rfl<;>decide
 ·exact⟨⟨rfl,rfl⟩,⟨rfl,rfl⟩,⟨rfl,rfl⟩,⟨rfl,rfl⟩,λa5 N9 U _=>⟨vN,λY I=>hQ _ _ _ _ _ _ _ (by omega) O ((hp.some _ _ _ _).mono (by omega))⟩⟩
end Go.Proofs.YtlaniepnglheoaaGreat
set_option maxRecDepth 100000
namespace Go.Proofs.YtlaniepnglheoaaGreat
open Go Go.Proofs Go.Proofs.Tryz Go.IntWalk
theorem U2 {es:List D} {i:Int} (Y:Cu es i) (a:Option Addr) (c:Nat) (h:Int) (N:Nat) (Q:QT [.sl 4,.ag 9,.sl 0,.i,.i])
  (hQ:∀ g a1 e1 c1 d a' es' c' i' h' N',N<=N'->Cu es' i'->Pms g e1->g.length<=4->(∀ x∈g,x.ty.cnt<=3)->Some 30000 d->Q a1 e1 c1 d a' es' c' i' h' N'):BCalls prog 37 [.sl 4,.ag 9,.sl 0,.i,.i] [.pb 0 0 0 0] [.var [.sv a 0 es c,.j i,.j h]] N Q:=by
 refine EY N a es c i h Q λE _ N1 am=>WP Y a c h N1 _ λg e1 c1 d a2 ao c2 i2 h2 N2 aq ai hg g1 g4 gc hd _ _ _ _ N3 au=>?_;have aw:=hg.all.len;have L9:∀(g:List Pm) (e1:List D) {es:List D} {i:Int} (_:Cu es i) a c h N',N<=N'->Pms g e1->g.length<=4->(∀ x∈g,x.ty.cnt<=3)->xj E Q N e1.length c1 a es c i h 0 (bytes []) (bytes []) 0 0 none [] 0 0 none [] 0 none [] 0 e1 c1 d N':=λg e1 es i Y a c h N' ax hg g4 gc=>by refine FK _ _ _ _ _ _ _ _ _ _ _ _ _ _ _ _ _ _ _ _ _ _ _ _ _ _ _ _ _ ⟨⟨rfl,rfl⟩,⟨rfl,rfl⟩,⟨rfl,rfl⟩,λa4 N5 aa _=>⟨vN,λN6 ab=>hQ g _ _ _ _ _ _ _ _ _ _ (by omega) Y hg g4 gc hd⟩⟩
 have J:∀ x∈g,x.ty.cnt<=3:=λx hx=>oP (gc x hx) (by omega);have ac:=hg.len;obtain⟨p,g',rfl⟩:∃ p g',g=p::g':=by
  cases g with
  | nil=>simp at g1
  | cons p g'=>exact⟨p,g',rfl⟩
 obtain⟨dp,ds,rfl,⟨t0,t1,rfl,aj,ak⟩,U⟩:=hg.all;have ae:∀ {s a b c:ByteArray},s∈[a,b,c]->a.size<=1000->b.size<=1000->c.size<=1000->s.size<=1000:=λ{s a b c} h ha hb hc=>by simp only[oH,oh,mK]at h;rcases h with rfl | rfl | rfl<;>assumption
 refine xd ai 8 (by omega) a2 c2 h2 N3 _ λx a3 ay c3 i3 h3 N4 az O _ _ _ _ _=>Br.beq (λ_ N5 aa=>?_) λ_=>Br.beq (λ_ N5 aa=>?_) λ_=>Br.beq (λ_ N5 aa=>?_) λ_=>L9 _ _ O _ _ _ N4 (by omega) hg g4 J
 ·refine pV (l:=[bytes [121],bytes [108,101,116],bytes [120]]) O (by decide) (by decide) a3 c3 h3 3 3 N5 _ λs a4 ah c4 i4 h4 N6 ab I hs _ _ _=>⟨⟨by omega,by simp,by simp⟩,by simp,?_⟩
  have hs:=ae hs (by decide) (by decide) (by decide)
  have:=L9 (⟨s,p.ty,p.dy⟩::g') (D.ag [.t s,t0,t1,.lit (.bool p.dy)]::ds) I a4 c4 h4 N6 (by omega) ⟨by simpa using ac,⟨_,_,rfl,⟨t0,t1,rfl,by show s.size<=_;omega,ak⟩,U⟩⟩ (by simpa using g4) (by simpa using J)
  simpa [Oj,D.cells]using this
 ·refine Ji 2 (by omega) O a3 c3 h3 N5 _ λy a4 ah c4 i4 h4 N6 ab I hy _ _ _ _=>⟨⟨by omega,by simp,by simp⟩,by simp,?_⟩
  obtain⟨t,ht,al⟩:=hy.cells
  have:=L9 (⟨p.nm,t,p.dy⟩::g') (D.ag [.t p.nm,y.cell 0,y.cell 1,.lit (.bool p.dy)]::ds) I a4 c4 h4 N6 (by omega) ⟨by simpa using ac,⟨_,_,rfl,⟨_,_,rfl,aj,ht⟩,U⟩⟩ (by simpa using g4) (λz hz=>by
   rcases oH.1 hz with rfl | hz
   ·exact al
   ·exact J z (by simp[hz]))
  simpa [Oj,D.cells]using this
 ·exact XL O a3 c3 h3 N5 _ λy a4 ah c4 i4 h4 N6 ab I hy _ _ _=>⟨⟨rfl,rfl⟩,⟨rfl,rfl⟩,⟨rfl,rfl⟩,⟨rfl,rfl⟩,λa5 N7 a0 _=>⟨vN,λN8 a6=>hQ _ _ _ _ _ _ _ _ _ _ _ (by omega) I hg g4 J (hy.mono (by omega))⟩⟩
end Go.Proofs.YtlaniepnglheoaaGreat
set_option maxRecDepth 100000
namespace Go.Proofs.YtlaniepnglheoaaGreat
open Go Go.Proofs Go.Proofs.Tryz Go.IntWalk
variable {g:List Pm} {ns:List Int}
theorem Pq (t:Ty)(n:Int):LitT (C1 t n) (C1 t n).no/\(C1 t n).res=true/\(C1 t n).no=n:=by
 unfold C1;split
 ·exact⟨⟨.inr rfl,rfl,rfl,rfl⟩,rfl,rfl⟩
 ·exact⟨⟨.inl rfl,rfl,rfl,rfl⟩,rfl,rfl⟩
theorem Ms:∀(g:List Pm)(ns:List Int),Px g (Eo g ns)=D8 g ns
 | [],[]=>rfl
 | [],_::_=>rfl
 | _::_,[]=>rfl
 | p::g,n::ns=>by simp only[Eo,Px,D8];rw[Ms g ns,(Pq p.ty n).2.2]
def Eu (g:List Pm)(e:Tm)(ns:List Int):Option Tm:=(ya g e ns).map (yV (wK g))
theorem Jc {e:Tm}{t:Tm}(h:ya g e ns=some t):rB g=true:=by
 unfold ya at h;split at h
 ·rename_i I;exact(tX I.1).1
 ·cases h
theorem qD {es:List D}(h:Pms g es)(hg:g.length<=1073741)(I:∀ x∈g,x.ty.cnt<=2000000){e:Tm}{d:D}(he:e.Is d)(hc:e.cnt<=250000000)(ns:List Int)(hn:ns.length<=1073741824)(a U:Option Addr)(c Y:Nat):
  YX 7 [.sv a 4 es c,.dg 9 d,.sv U 0 (yp ns) Y] (Eu g e ns):=λN Q J=>by
 have O:∀ x∈g,x.ty.cnt<=1073741824:=λx hx=>by have:=I x hx;omega
 have ab:=wU g;have h1:=HI g e ns;unfold Eu at J;refine qX N a es c d U _ Y Q λ_ _ _ N1 ac=>?_;refine rJ h hg O he hc ns hn a U c Y N1 _ λx N2 ae hx _ _ _=>?_;cases ho:ya g e ns with
 | none=>rw[ho]at J;exact Br.not (λ_ N3 ah=>J _ _ (by omega) (JK rfl (by simp)) (Am 0)) λhb=>by cases hb
 | some t=>have h2:=EB (Jc ho) I;rw[ho]at J hx h1;simp only[ob]at hx h1;refine Br.not (λhb=>by cases hb) λ_ N4 ai=>?_;refine xC h (by omega) O a c N4 _ λa3 aj c3 a4 ak c4 N5 al p3 p4 _ _ _ N6 am=>?_;refine uM p4 (by omega) (by omega) hx (by omega) a4 c4 N6 _ λd3 N7 ao aa o3 _ _ N8 aq=>?_;exact J _ _ (by omega) aa (o3.mono (by omega) (by omega))
theorem qA {es:List D}(h:Pms g es)(hg:g.length<=1073741)(I:∀ x∈g,x.ty.cnt<=2000000){e:Tm}{d:D}(he:e.Is d)(hc:e.cnt<=250000000)(ns:List Int)(hn:ns.length<=1073741824)(a U:Option Addr)(c Y:Nat):
  YX 6 [.sv a 4 es c,.dg 9 d,.sv U 0 (yp ns) Y] (Eu g e ns):=λN Q J=>by
 have O:∀ x∈g,x.ty.cnt<=1073741824:=λx hx=>by have:=I x hx;omega
 have ab:=wU g;have h1:=HI g e ns;unfold Eu at J;refine qU N a es c d U _ Y Q λ_ _ _ N1 ac=>?_;refine sS h (by omega) O a c N1 _ λa3 ae c3 a4 ah c4 N2 ai p3 p4 _ _ _ N3 aj=>?_;refine rH h hg O he hc ns hn a U c Y N3 _ λx N4 ak hx _ _ _=>?_;cases ho:ya g e ns with
 | none=>rw[ho]at J;exact Br.not (λ_ N5 al=>J _ _ (by omega) (JK rfl (by simp)) (Am 0)) λhb=>by cases hb
 | some t=>have h2:=EB (Jc ho) I;rw[ho]at J hx h1;simp only[ob]at hx h1;refine Br.not (λhb=>by cases hb) λ_ N6 am=>?_;refine Dl p4 (by omega) (by omega) hx (by omega) a4 c4 N6 _ λd3 N7 ao aa o3 _ _ N8 aq=>?_;exact J _ _ (by omega) aa (o3.mono (by omega) (by omega))
def Wv:List Pm->List Tm->Prop
 | [],[]=>True
 | p::g,a::ys=>(LitY a p.ty a.no/\a.res=true/\p.ty.base=true)/\Wv g ys
 | _,_=>False
def gR:List Pm->Rho
 | []=>λ_ _=>none
 | p::g=>λs m=>if p.nm=s then(if m=0 then some p.ty else none)else gR g s m
theorem ZD:∀ {g:List Pm},(g.map Pm.nm).Nodup->∀ p∈g,∀ m,gR g p.nm m=if m=0 then some p.ty else none
 | q::g,hn,p,hp,m=>by
   simp only[oZ,na]at hn;simp only[gR];rcases oH.1 hp with rfl | hp
   ·rw[if_pos rfl]
   ·rw[if_neg (show ¬(q.nm=p.nm)from λe=>hn.1 (e ▸ lL hp))];exact ZD hn.2 p hp m
structure WayG (x p:Tm):Prop where
 h:∃ g ys B,x=spn (yV g B) ys/\Wv g ys/\(g.map Pm.nm).Nodup/\G true (gR g) (Px g ys) B p
theorem WayG.step {x p:Tm}(h:WayG x p)(hx:x.ok=true)(hr:x.res=false):WayG (x.stp x.dp).1 p:=by
 obtain⟨g,ys,B,rfl,O,hn,hG⟩:=h
 match g,ys,O with
 | [],[],_=>exact⟨[],[],_,rfl,trivial,mR,G.stp _ B (oD _) hx p hG hr⟩
 | q :: g,a::ys,O=>
   obtain⟨⟨I,U,J⟩,O⟩:=O;have hs:((spn (yV (q::g) B) (a::ys)).stp (spn (yV (q::g) B) (a::ys)).dp).1=spn ((yV g B).sb q.nm a) ys:=
    T2 ys (Tm.nod 7 [yV (q::g) B,a]) _ (λf hf=>V3 (p:=q) (B:=yV g B) U f hf) rfl _ (oD (spn (yV (q::g) B) (a::ys)).dp)
   simp only[oZ,na]at hn;have Y:∀ p∈g,q.nm≠p.nm:=λp hp e=>hn.1 (e ▸ lL hp);obtain⟨e',h1,h2⟩:=Mg (b:=a) (x:=q.nm) I.l.2.2.1 g B (yV g B).dp Y (oD _);have hB:B.ok=true:=by have h3:=Wl ys (Tm.nod 7 [yV (q::g) B,a]) hx;exact Pe (q::g) B ((Tm.ok_mk.1 h3).1 _ (by simp))
   rw[hs];unfold Tm.sb;rw[h1];have aa:∀ s,s≠q.nm->∀ m,gR (q::g) s m=gR g s m:=λs hs m=>by simp only[gR];rw[if_neg (λe=>hs e.symm)]
   have hv:∀ s,s≠q.nm->wT s (Px (q::g) (a::ys))=wT s (Px g ys):=λs hs=>by
    show wT s ((q.nm,a.no)::Px g ys)=_;rw[rg];cases wT s (Px g ys)with
    | some m=>rfl
    | none=>simp only;rw[if_neg (λe=>hs e.symm)]
   refine⟨g,ys,e',rfl,O,hn.2,?_⟩;rcases h2 with⟨rfl,ab⟩ | ⟨f',ac,rfl⟩
   ·exact hG.cong hB _ _ (λs hs=>aa s λe=>ab (e ▸ hs)) λs hs u _=>hv s λe=>ab (e ▸ hs)
   ·refine G.sub I J f' B ac hB true _ _ _ _ p hG ⟨aa,hv,λk t hk=>?_,?_,?_⟩
    ·simp only[gR,nj]at hk;split at hk
     ·rename_i e;cases hk;exact⟨e,rfl⟩
     ·cases hk
    ·simp[gR]
    ·show wT q.nm ((q.nm,a.no)::Px g ys)=_;rw[rg,S2 λb hb=>by obtain⟨p,hp,e⟩:=Py hb;exact λe2=>Y p hp (by rw[<-e2,e])];simp
theorem Vw {p:Tm}:∀(m i:Nat)(x:Tm),x.ok=true->WayG x p->(Ox m i x).1.1=1->(Ox m i x).1.2.1.res=true/\WayG (Ox m i x).1.2.1 p:=by
 intro m
 induction m with
 | zero=>
   intro i x J h hd;rw[rC]at hd ⊢;split at hd
   ·cases hd
   ·rename_i hs;rw[if_neg hs];split at hd
    ·rename_i I;rw[if_pos I];exact⟨I,h⟩
    ·cases hd
 | succ m ih=>
   intro i x J h hd;rw[rC]at hd ⊢;split at hd
   ·cases hd
   ·rename_i hs;rw[if_neg hs];split at hd
    ·rename_i I;rw[if_pos I];exact⟨I,h⟩
    ·rename_i I;rw[if_neg I];simp only at hd ⊢;split at hd
     ·cases hd
     ·rename_i hz;rw[if_neg hz];have U:(x.stp x.dp).1.sz<=400:=by
       have Y:(Ox m (i+1) (x.stp x.dp).1).1.1=1:=hd;rw[rC]at Y;split at Y
       ·cases Y
       ·omega
      have O:=O6 _ x (oD _) J U;exact ih _ _ O (h.step J (by simpa using I)) hd
theorem WA {x p:Tm}(h:WayG x p)(hr:x.res=true):x.kd=10/\x.pt 0=p:=by
 obtain⟨g,ys,B,rfl,I,hn,J⟩:=h
 match g,ys,I with
 | [],[],_=>exact J.done hr
 | q::g,a::ys,_=>
   have:=Tx ys (Tm.nod 7 [yV (q::g) B,a]) rfl
   have hr:(spn (Tm.nod 7 [yV (q::g) B,a]) ys).res=true:=hr;rw[this]at hr;cases hr
theorem ZR {t:Ty}(I:t.base=true)(n:Int)(r:Rho):HT r (C1 t n) 0 t:=by
 cases t with
 | mk k l=>
   simp only[Ty.base,Ty.k,Ty.as,oE,nB,nF]at I;have:l=[]:=oL (by omega);subst this;rcases I.1 with rfl | rfl
   ·exact .int
   ·exact .bool
theorem Ps:∀ {g:List Pm}{ns:List Int},(∀ p∈g,p.ty.base=true)->ns.length=g.length->Wv g (Eo g ns)
 | [],[],_,_=>trivial
 | [],_::_,_,h=>by simp at h
 | _::_,[],_,h=>by simp at h
 | p::g,n::ns,I,h=>by have J:=Pq p.ty n;exact⟨⟨⟨J.1,λr=>ZR (I p (by simp)) n r⟩,J.2.1,I p (by simp)⟩,Ps (λq O=>I q (by simp[O])) (by simpa using h)⟩
def U4:List Pm->Rho->Rho
 | [],r=>r
 | p::g,r=>U4 g (r.del p.nm)
theorem PZ:∀ {g:List Pm}{r:Rho}{s:ByteArray},(∀ p∈g,s≠p.nm)->∀ m,U4 g r s m=r s m
 | [],_,_,_,_=>rfl
 | p::g,r,s,h,m=>by simp only[U4];rw[PZ (λq I=>h q (by simp[I])) m,Rho.del,if_neg (h p (by simp))]
theorem MR:∀ {g:List Pm}{r:Rho}{s:ByteArray}{m:Int},r s m=none->U4 g r s m=none
 | [],_,_,_,h=>h
 | p::g,r,s,m,h=>by
   simp only[U4];refine MR ?_;unfold Rho.del;split
   ·rfl
   ·exact h
theorem Sa:∀ {g:List Pm}{r:Rho}{p:Pm},p∈g->∀ m,U4 g r p.nm m=none
 | q::g,r,p,hp,m=>by
   simp only[U4];rcases oH.1 hp with rfl | hp
   ·refine MR ?_;unfold Rho.del;rw[if_pos rfl]
   ·exact Sa hp m
theorem G.fun_:∀(g:List Pm)(r:Rho)(v:List Nb)(x y:Tm),G false (U4 g r) v x y->G false r v (yV g x) (yV g y)
 | [],r,v,x,y,h=>h
 | p::g,r,v,x,y,h=>by
   have:=G.fun_ g (r.del p.nm) v x y h
   refine .node rfl (λe=>absurd e (by decide)) (λ_=>rfl) (λe=>absurd e (by decide)) rfl λj z z' J I=>?_;obtain⟨rfl,rfl⟩:=D9 J;obtain⟨_,rfl⟩:=D9 I;have e:Ey 6 p.nm 0 r=r.del p.nm:=by unfold Ey;rw[if_pos (.inl ⟨rfl,rfl⟩)]
   rw[e];exact this
theorem JS:∀(g:List Pm)(ns:List Int),(pF g ns).map plB=wE g
 | [],_=>rfl
 | p::g,ns=>by
   simp only[pF];split
   ·rename_i h;simp[plB,wE,h];exact JS g ns
   ·rename_i h;simp[plB,wE,h];exact JS g ns.tail
theorem TQ (s:ByteArray):∀(g:List Pm)(ns:List Int),ns.length=(wL g).length->(∀ q∈g,q.dy=true->q.nm≠s)->wT s ((pF g ns).map plN)=wT s (D8 (wL g) ns)
 | [],ns,h,_=>by have:ns=[]:=oL h;subst this;rfl
 | p :: g,ns,h,I=>by
   cases hd:p.dy with
   | true=>
     have e:wL (p::g)=wL g:=by simp[wL,hd]
     rw[e]at h ⊢;simp only[pF,hd,nj,oZ];rw[rg,TQ s g ns h λq J=>I q (by simp[J])];cases wT s (D8 (wL g) ns)with
     | some m=>rfl
     | none=>simp only;rw[if_neg (show ¬(plN (p.nm,0,true)).1=s from I p (by simp) hd)]
   | false=>
     have e:wL (p::g)=p::wL g:=by simp[wL,hd]
     rw[e]at h ⊢;cases ns with
     | nil=>simp at h
     | cons n ns=>simp only[pF,hd,mI,nQ,oZ,List.headD_cons,List.tail_cons,D8];rw[rg,rg,TQ s g ns (by simpa using h) λq J=>I q (by simp[J])];rfl
theorem zAf (I:rB g=true)(hl:ns.length=(wL g).length):Kn (pF g ns) (xS g) (U4 (wK g) (gR (wL g))) (Px (wL g) (Eo (wL g) ns)):=by
 obtain⟨hn,hb⟩:=Mz I;have ab:∀ p∈g,∀ m,yF (xS g) p.nm m=if(0:Int)=m then some p.ty else none:=λp I m=>by
  have:=HZ g []
  rw[oV]at this;rw[this];exact M7 g _ 0 hn p I m
 have Y:∀ s,s∉g.map Pm.nm->∀ m,yF (xS g) s m=none:=λs hs m=>by
  have:=HZ g []
  rw[oV]at this;rw[this,EG g _ 0 s hs m,Xw]
 have J:∀ s,s∈g.map Pm.nm->∃ p∈g,p.nm=s:=λs hs=>by simpa using hs
 have O:∀ s b,s8 s (wE g)=some b->∃ p∈g,p.nm=s/\p.dy=b:=λs b h=>by
  by_cases hs:s∈g.map Pm.nm
  ·obtain⟨p,I,rfl⟩:=J s hs;rw[C0 hn p I]at h;cases h;exact⟨p,I,rfl,rfl⟩
  ·unfold s8 at h;cases hf:(wE g).reverse.find? λp=>decide (p.1=s)with
   | none=>rw[hf]at h;cases h
   | some x=>exfalso;have h1:=List.mem_of_find?_eq_some hf;have h2:=List.find?_some hf;simp only[wE,mj,oT,oq]at h1 h2;obtain⟨p,I,rfl⟩:=h1;exact hs (h2 ▸ lL I)
 have aa:∀ p∈g,∀ q∈g,q.nm=p.nm->q.dy=p.dy:=λp I q hq e=>by have h1:=C0 hn p I;have h2:=C0 hn q hq;rw[e]at h2;rw[h1]at h2;exact(oU h2).symm
 refine⟨λs hs=>?_,λs hs=>?_,λs u U=>?_,λs m u U=>?_⟩
 ·rw[JS]at hs;obtain⟨p,I,rfl,hd⟩:=O s false hs;have ac:p∈wL g:=nW.2 ⟨I,by simp[hd]⟩;have ae:∀ q∈wK g,p.nm≠q.nm:=λq hq e=>by
   obtain⟨ai,ah⟩:=nW.1 hq
   have:=aa p I q ai e.symm
   rw[hd]at this;rw[this]at ah;cases ah
  refine⟨λm=>?_,?_⟩
  ·rw[ab p I m,PZ ae m,ZD (show((wL g).map Pm.nm).Nodup from(TC (List.filter_sublist)).nodup hn) p ac m];by_cases e:m=0
   ·rw[if_pos e.symm,if_pos e]
   ·rw[if_neg (λh=>e h.symm),if_neg e]
  ·rw[Ms];exact TQ _ g ns hl λq hq aj e=>by
    have:=aa p I q hq e
    rw[hd,aj]at this;cases this
 ·rw[JS]at hs;obtain⟨p,I,rfl,hd⟩:=O s true hs;exact Sa (nW.2 ⟨I,hd⟩) 0
 ·rw[JS];by_cases hs:s∈g.map Pm.nm
  ·obtain⟨p,I,rfl⟩:=J s hs;exact⟨_,C0 hn p I⟩
  ·rw[Y s hs]at U;cases U
 ·by_cases hs:s∈g.map Pm.nm
  ·obtain⟨p,I,rfl⟩:=J s hs;rw[ab p I]at U;split at U
   ·rename_i e;cases U;exact⟨e.symm,(hb p I).2⟩
   ·cases U
  ·rw[Y s hs]at U;cases U
theorem Xa {e t X:Tm}(hc:e.cnt<=536870000)(I:ya g e ns=some t)(J:tz g e=some X)(U:(wa (Lu X (wL g) ns) 200).1=1):
  (wa (Lu X (wL g) ns) 200).2.1.kd=10/\(wa (Lu X (wL g) ns) 200).2.1.res=true/\(wa (Lu X (wL g) ns) 200).2.1.pt 0=yV (wK g) t:=by
 unfold ya at I;split at I
 rotate_left
 ·cases I
 rename_i aa;obtain⟨Y,hl,hf⟩:=aa;cases I;have J:X=yV (wL g) (Tm.nod 10 [yV (wK g) (Tm.nod 11 [e.code (wE g)])]):=by unfold tz at J;rw[if_pos Y]at J;cases J;unfold pU;rw[if_pos Y]
 obtain⟨hp,_,_⟩:=tX Y;obtain⟨hn,ab⟩:=Mz hp;have hS:=K2 Y hl hf hc;have hG:=Uz e _ _ _ _ hS (zAf hp hl);rw[JS]at hG;have ac:WayG (Lu X (wL g) ns) (yV (wK g) (e.sp (pF g ns) (xS g))):=by rw[J,PP];exact⟨wL g,Eo (wL g) ns,_,rfl,Ps (λp hp=>(ab p (nW.1 hp).1).2) hl,(TC (List.filter_sublist)).nodup hn,.quote (G.fun_ (wK g) _ _ _ _ (.splice hG))⟩
 unfold wa at U ⊢;split at U
 ·rename_i O;rw[if_pos O];have ae:=(lF.1 (lF.1 O).1).1;obtain⟨r2,r3⟩:=Vw 200 0 _ ae ac U
  have:=WA r3 r2
  exact⟨this.1,r2,this.2⟩
 ·cases U
end Go.Proofs.YtlaniepnglheoaaGreat
