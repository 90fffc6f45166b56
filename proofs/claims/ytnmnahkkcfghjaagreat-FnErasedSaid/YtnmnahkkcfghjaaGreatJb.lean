/- The model's value operations do what 'nevV' says. -/
import Derived.Test.YtnmnahkkcfghjaaGreatJa
import Derived.Laws.BytesString
set_option linter.unusedVariables false
set_option linter.unusedSimpArgs false
namespace Go.Proofs.YtnmnahkkcfghjaaGreat
open Go
variable {av:Nat->Prop} {P:Program} {w:World} {e:Env} {pB:List Nat} {bx:List Bx} {a:Act}
theorem qY {t:TypeId} {f o z:Nat} (h:rh P t f=some (o,z)):∃ fs I,P.underlying t=some (.struct fs)/\fs[f]?=some I/\kz P I.type=some z/\I.offset=o:=by
 unfold rh at h
 split at h
 ·rename_i fs J
  split at h
  ·rename_i I O
   split at h
   ·rename_i z' U
    simp at h
    exact ⟨fs,I,J,O,by rw [U,h.2],h.1⟩
   ·cases h
  ·cases h
 ·cases h
theorem Good.slice {live:Nat->Prop} {ad:Option Addr} {z:Nat} {es:List D} {cap l h:Nat} (hg:Good w live (.sl ad z es cap)) (ac:l<=h) (hh:h<=es.length) :
  Good w live (.sl (if (cap:Int)=(l:Int) then ad else ad.map (·.add (l*ez z))) z ((es.take h).drop l) (cap - l)):=by
 obtain ⟨h1,h2⟩:=hg
 cases h1 with
 | nil=>
   simp at hh
   have:l=0:=by omega
   subst this;subst hh
   refine ⟨?_,by simp [D.foot,zF]⟩
   simp
   exact .nil
 | @sl ad z es cap h3 h4 h5 h6 h7=>
   have I:∀ x∈(es.take h).drop l,x∈es:=λx J=>oh (ou J)
   have U:((es.take h).drop l).length=h - l:=by simp;omega
   by_cases O:es=[]
   ·subst O
    have h0:l=0:=by simp at hh;omega
    subst h0
    simp only [List.take_nil,List.drop_nil,mo,Nat.sub_zero]
    have:(if (cap:Int)=((0:Nat):Int) then some ad else (some ad).map (·.add 0))=some ad:=by split<;>simp [Addr.add]
    rw [this]
    exact ⟨.sl (by simp) (by simp) (by simp) (by simp) (.inl rfl),by simp [D.foot]⟩
   have h3:=h3 O
   have Y:((some ad).map (·.add (l*ez z)):Option Addr)=some ⟨ad.block,ad.off+l*ez z,none⟩:=by
    obtain ⟨b,o,s⟩:=ad;simp at h3;subst h3;simp [xA]
   by_cases aa:(cap:Int)=(l:Int)
   ·have:l=h:=by omega
    subst this
    have he:(es.take l).drop l=[]:=by simp [List.drop_take]
    rw [if_pos aa,he]
    exact ⟨.sl (by simp) (by simp) (by simp) (by simp) (.inl rfl),by simp [D.foot]⟩
   ·rw [if_neg aa,Y]
    refine ⟨.sl (λ_=>rfl) (by rw [U];omega) (λx J=>h5 x (I x J)) (λx J=>h6 x (I x J)) ?_,?_⟩
    ·rcases h7 with h7 | ⟨c,t,fz,h8,h9⟩
     ·left
      have hl:=zQ h5
      rw [h7] at hl
      have hp:=zA2 z
      have:es.length=0:=by
       rcases my es.length with h0 | h0
       ·exact h0
       ·have:=Nat.mul_pos h0 hp;simp at hl;omega
      have:es=[]:=List.length_eq_zero_iff.1 this
      subst this;simp [z9]
     ·right
      refine ⟨c,t,fz,h8,λi u hu=>?_⟩
      have ae:z9 es=z9 (es.take l)++z9 ((es.take h).drop l)++z9 (es.drop h):=by
       rw [<-xL,<-xL]
       congr 1
       have e1:es.take l=(es.take h).take l:=by rw [List.take_take,Nat.min_eq_left ac]
       rw [e1,ni,ni]
      have ab:(z9 (es.take l)).length=l*ez z:=by
       rw [zQ (z:=z) (λx J=>h5 x (oh J))];simp;rw [Nat.min_eq_left (by omega)]
      have:(z9 es)[l*ez z+i]?=some u:=by
       have ai:i<(z9 ((es.take h).drop l)).length:=(oC.1 hu).1
       rw [ae,oM (by rw [oI,ab];omega),oS (by omega),ab]
       rw [show l*ez z+i - l*ez z=i by omega];exact hu
      have:=h9 _ _ this
      rw [<-mi] at this
      exact this
    ·intro b hb
     apply h2
     by_cases he:es=[]
     ·subst he;simp [D.foot,zF] at hb
     ·simp only [D.foot] at hb ⊢
      split at hb
      ·simp at hb
      ·rw [if_neg (by simpa using he)]
       rcases oF.1 hb with h10 | h10
       ·exact oF.2 (.inl h10)
       ·refine oF.2 (.inr ?_)
        obtain ⟨x,J,ah⟩:=zP.1 h10
        exact zP.2 ⟨x,I x J,ah⟩
theorem zOD {ad:Option Addr} {z:Nat} {es:List D} {cap:Nat} (h:Good w (zT av pB e bx) (.sl ad z es cap)):ValOk av w e pB bx (.slice ad es.length cap) (.sv ad z es cap):=
 ⟨.inr rfl,h,by simp [PV.refs]⟩
theorem vf {I:Option Operand} {ρ:Operand->PV} {d:Int} {R:Int->Prop} (J:∀ x,I=some x->ValOk av w e pB bx (a.eval x) (ρ x)) (h:zN1 (I.map ρ) d R) :
  ∃ n,R n/\((I=none/\n=d)\/∃ x k,I=some x/\a.eval x=.int k n):=by
 cases I with
 | none=>exact ⟨d,h,.inl ⟨rfl,rfl⟩⟩
 | some x=>
   obtain ⟨k,n,O,U⟩:=ve (J x rfl) h
   exact ⟨n,O,.inr ⟨x,k,rfl,U⟩⟩
theorem zO {k:IntKind} {n:Int} {y:Nat} {c:BoundsCode} (I:0<=n) (J:n<=y):(Instr.sliceBound (.int k n) y c).run P w=.ok n.toNat w:=by
 simp [Instr.sliceBound,asIntOf,I,J]
theorem zEY (w:World) (ad:Addr) (c:Nat) (ns:List Int) (h:∀ (j:Nat) (v:Value),((ns.map λn=>D.lit (.int .u8 n)).map D.cv)[j]?=some v->w.cell? (ad.add j)=some v) :
  (Conv.bytesToString (.slice (some ad) ns.length c)).run P w=.ok (.string (bytesOf ns)) w:=by
 refine run_bytesToString w ad ns.length c ns ?_
 have:=run_loadCells_list (P:=P) w ad (ns.map (Value.int .u8)) λj v I=>h j v (by
  rw [mH]
  exact I)
 simpa using this
theorem zJw (ns:List Int):z9 (ns.map λn=>D.lit (.int .u8 n))=ns.map λn=>D.lit (.int .u8 n):=by
 induction ns with
 | nil=>rfl
 | cons n ns I=>rw [ol,vn,I];rfl
theorem zDN {w:World} {ad:Addr} (hs:ad.spot=none) {c:Array Value} {t:TypeId} {fz:Nat × Nat} (h:w.heap[ad.block]?=some (.cells c t fz)) (j:Nat):w.cell? (ad.add j)=c[ad.off+j]?:=by
 obtain ⟨b,o,s⟩:=ad
 simp only at hs h ⊢
 subst hs
 rw [xA]
 exact tQ h
theorem zIC {rb:Nat->Option Bx} (hm:Mem av pB w e bx) (hb:∀ k B,rb k=some B->bx[k]?=some B/\k∉pB) {v:Value} {p:PV} {R:PV->Prop} (hv:ValOk av w e pB bx v p) (h:zCR rb p R) :
  ∃ ns,(∃ (a:Option Addr) (n c:Nat),v=.slice a n c/\(Conv.bytesToString v).run P w=.ok (.string (bytesOf ns)) w)/\R (.str (bytesOf ns)):=by
 unfold zCR at h
 split at h
 ·rename_i a z es c
  split at h
  rotate_left
  ·exact h.elim
  obtain ⟨ns,J,hR⟩:=h
  have O:v=.slice a es.length c:=hv.1.resolve_left (by simp)
  refine ⟨ns,⟨a,_,c,O,?_⟩,hR⟩
  have hg:=hv.2.1
  simp only [PV.Ok] at hg
  obtain ⟨hh,ac⟩:=hg
  clear ac
  rw [O]
  cases hh with
  | nil=>
    have:ns=[]:=by cases ns<;>simp at J;rfl
    subst this
    simp [Conv.bytesToString,bytesOf]
  | sl h1 h2 h3 h4 h5=>
    rename_i ad
    have I:es.length=ns.length:=by rw [J];simp
    rw [I]
    refine zEY w ad c ns λj u Y=>?_
    rw [J,zJw] at h5
    rw [oE] at Y
    cases U:(ns.map λn=>D.lit (.int .u8 n))[j]? with
    | none=>rw [U] at Y;simp at Y
    | some y=>
      rw [U] at Y
      simp at Y;subst Y
      rcases h5 with h5 | ⟨cc,t,fz,h6,h7⟩
      ·rw [h5] at U;simp at U
      ·rw [zDN (h1 λh=>by rw [h] at I;have:ns=[]:=oP I.symm;rw [this] at U;simp at U) h6];exact h7 j y U
 ·rename_i k z lo n c
  split at h
  rotate_left
  ·exact h.elim
  rename_i t z' es cb hk
  split at h
  rotate_left
  ·exact h.elim
  obtain ⟨ak,ns,J,hR⟩:=h
  obtain ⟨ae,ah⟩:=hb k _ hk
  have O:=hv.1.resolve_left (by simp)
  have I:n=ns.length:=by have:=mC List.length J;simp at this;omega
  rcases hm.br k _ ae ah with ⟨h1,h2,h3⟩ | ⟨b,c',h1,h2,h3,h4,h5,h6,h7⟩
  ·subst h2
   have:ns=[]:=by cases ns<;>simp at J;rfl
   subst this
   refine ⟨[],⟨none,n,c,by rw [O];simp [PV.val,PV.val1,PV.cv,h1],?_⟩,hR⟩
   rw [O]
   simp [PV.val,PV.val1,PV.cv,h1,Conv.bytesToString,bytesOf]
  ·refine ⟨ns,⟨some ⟨b,0,none⟩,n,c,by rw [O];simp [PV.val,PV.val1,PV.cv,h1],?_⟩,hR⟩
   rw [O]
   have aa:(PV.sb k 0 0 n c).val e=.slice (some ⟨b,0,none⟩) ns.length c:=by simp [PV.val,PV.val1,PV.cv,h1,I]
   rw [aa]
   refine zEY w ⟨b,0,none⟩ c ns λj u Y=>?_
   rw [oE] at Y
   cases U:(ns.map λn=>D.lit (.int .u8 n))[j]? with
   | none=>rw [U] at Y;simp at Y
   | some y=>
     rw [U] at Y
     simp at Y;subst Y
     rw [zDN rfl h2]
     have hy:es[j]?=some y:=by
      rw [<-J,oa] at U
      split at U
      ·exact U
      ·cases U
     have ai:(z9 es)[j]?=some y:=by
      have ab:=h6 y (oB hy)
      have aj:y.cells[0]?=some y:=by
       simp [eOk] at ab
       cases y<;>simp [D.isCell] at ab<;>rfl
      have:=rX h6 hy aj
      simpa [ez] using this
     simpa using h7 j y ai
 ·exact h.elim
theorem zEE {ρ:Operand->PV} {rb:Nat->Option Bx} {o:Oper} {R:PV->Prop} (hm:Mem av pB w e bx) (ho:∀ x∈o.op.operands,OpdOk av a w e pB bx x (ρ x))
  (hrb:∀ k B,rb k=some B->bx[k]?=some B/\k∉pB) (h:qn P ρ rb o.op o.type R) :
  ∃ v p,(execOp a.eval o).run P w=.ok (.value v) w/\R p/\ValOk av w e pB bx v p:=by
 obtain ⟨dst,op,ty,pos,after,guard⟩:=o
 simp only at ho h ⊢
 cases op<;>simp only [qn] at h<;>try exact h.elim
 case move x=>exact ⟨_,_,rfl,h,((ho x (by simp [Op.operands])).valOk).retag ty⟩
 case assign x=>exact ⟨_,_,rfl,h,((ho x (by simp [Op.operands])).valOk).retag ty⟩
 case pick c x y=>
  obtain ⟨v,h1,h2⟩:=zJ2 ((ho c (by simp [Op.operands])).valOk) h
  cases v with
  | true=>exact ⟨_,_,by simp [execOp,asBool,h2],by simpa using h1,(ho x (by simp [Op.operands])).valOk⟩
  | false=>exact ⟨_,_,by simp [execOp,asBool,h2],by simpa using h1,(ho y (by simp [Op.operands])).valOk⟩
 case load t x=>
  have hx:=ho x (by simp [Op.operands])
  split at h
  ·exact h.elim
  ·rename_i z hz
   split at h
   ·rename_i k zz i o' hρ
    split at h
    ·rename_i B hB
     obtain ⟨h1,h2⟩:=hrb k B hB
     obtain ⟨v,q,h3,h4,h5⟩:=zH8 hm h1 h2 hz h
     have hv:=hx.h.resolve_left (by rw [hρ];simp)
     rw [hρ] at hv
     refine ⟨v,q,?_,h4,h5⟩
     simp only [execOp,Instr.loadAt,hv,PV.val,PV.val1,PV.cv,Instr.sureAddr,Sem.run_bind,Sem.run_pure,Result.andThen_ok,h3]
    ·exact h.elim
   ·rename_i ad z' y hρ
    split at h
    ·rename_i hzz
     subst hzz
     have hok:=hx.ok
     rw [hρ] at hok
     simp only [PV.Ok] at hok
     obtain ⟨h1,h2,h3,h4,h5,h6⟩:=hok
     have hv:=hx.h.resolve_left (by rw [hρ];simp)
     rw [hρ] at hv
     obtain ⟨b,off,sp⟩:=ad
     simp at h3;subst h3
     by_cases hz0:z'=0
     ·subst hz0
      simp only [mV] at h
      simp only [eOk,mV] at h2
      have hc0:y.cells[0]?=some y:=by cases y<;>simp [D.isCell,D.cells] at h2 ⊢
      rcases h4 with h4 | ⟨c,t',fz,h7,h8⟩
      ·rw [h4] at hc0;simp at hc0
      ·have hl:=wU hz (w:=w) (ad:=⟨b,off,none⟩) ((tQ h7).trans (h8 0 y hc0))
       refine ⟨y.cv,_,?_,h,qd h1 h2⟩
       simp only [execOp,Instr.loadAt,hv,PV.val,PV.val1,PV.cv,Instr.sureAddr,Sem.run_bind,Sem.run_pure,Result.andThen_ok,hl]
     ·simp only [hz0,na] at h
      simp only [eOk,hz0,na] at h2
      have hlen:=h2.length
      have hcell:∀ j v,(y.cells.map D.cv)[j]?=some v->w.cell? ((⟨b,off,none⟩:Addr).add j)=some v:=fun j v hj=>by
       rw [xA]
       rcases h4 with h4 | ⟨c,t',fz,h7,h8⟩
       ·rw [h4] at hj;simp at hj
       ·rw [tQ h7]
        rw [oE] at hj
        cases hu:y.cells[j]? with
        | none=>simp [hu] at hj
        | some u=>rw [hu] at hj;simp at hj;subst hj;exact h8 j u hu
      have hl:=tX hz hz0 (w:=w) (ad:=⟨b,off,none⟩) (cs:=y.cells.map D.cv) (by simp [hlen]) hcell
      refine ⟨y.val,_,?_,h,rT h1 h2⟩
      rw [h2.val]
      simp only [execOp,Instr.loadAt,hv,PV.val,PV.val1,PV.cv,Instr.sureAddr,Sem.run_bind,Sem.run_pure,Result.andThen_ok,hl]
    ·exact h.elim
   ·exact h.elim
 case nilCheck x=>
  have hx:=ho x (by simp [Op.operands])
  have hv:=hx.valOk
  split at h
  ·rename_i hρ
   have h1:=hx.h.resolve_left (by rw [hρ];simp)
   rw [hρ] at h1 hv
   exact ⟨_,_,by simp only [execOp,h1,PV.val,PV.val1,PV.cv];rfl,h,by rw [h1] at hv;exact hv⟩
  ·rename_i hρ
   have h1:=hx.h.resolve_left (by rw [hρ];simp)
   rw [hρ] at h1 hv
   exact ⟨_,_,by simp only [execOp,h1,PV.val,PV.val1,PV.cv];rfl,h,by rw [h1] at hv;exact hv⟩
  ·rename_i hρ
   have h1:=hx.h.resolve_left (by rw [hρ];simp)
   rw [hρ] at h1 hv
   exact ⟨_,_,by simp only [execOp,h1,PV.val,PV.val1,PV.cv];rfl,h,by rw [h1] at hv;exact hv⟩
  ·exact h.elim
 case binOp op t x y yt=>
  obtain ⟨p,h1,h2, -⟩:=zt (ho x (by simp [Op.operands])).valOk h
  obtain ⟨q,h3,h4, -⟩:=zt (ho y (by simp [Op.operands])).valOk h1
  obtain ⟨v,r,h5,h6,h7⟩:=zKQ (x:=x) (y:=y) h2 h4 h3
  exact ⟨v,r,by simp only [execOp,Sem.run_bind] at h5 ⊢;rw [h5];rfl,h6,h7⟩
 case unOp op t x=>
  cases op<;>simp only at h<;>try exact h.elim
  case not=>
   obtain ⟨p,h1,h2, -⟩:=zt (ho x (by simp [Op.operands])).valOk h
   split at h1
   ·have:=h2.1.resolve_left (by simp)
    exact ⟨_,_,by simp [execOp,this,Op.unary,PV.val,PV.val1,PV.cv],h1,zf⟩
   ·exact h1.elim
  case neg=>
   obtain ⟨p,h1,h2, -⟩:=zt (ho x (by simp [Op.operands])).valOk h
   split at h1
   ·have:=h2.1.resolve_left (by simp)
    exact ⟨_,_,by simp only [execOp,this,Op.unary,PV.val,PV.val1,PV.cv,Op.intArith,Sem.run_bind,Sem.run_pure,Result.andThen_ok],h1,zn⟩
   ·exact h1.elim
 case convert s d x=>
  split at h
  ·rename_i k hd
   split at h
   ·rename_i k' hs
    obtain ⟨p,h1,h2, -⟩:=zt (ho x (by simp [Op.operands])).valOk h
    split at h1
    ·have:=h2.1.resolve_left (by simp)
     exact ⟨_,_,by simp [execOp,this,convert,run_underlying hs,run_underlying hd,Conv.intToInt,PV.val,PV.val1,PV.cv],h1,zn⟩
    ·exact h1.elim
   ·exact h.elim
  ·rename_i hd
   split at h
   ·rename_i el hs
    split at h
    ·rename_i hz hu
     obtain ⟨p,h1,h2, -⟩:=zt (ho x (by simp [Op.operands])).valOk h
     obtain ⟨ns,⟨ad,n,c,e1,e2⟩,h4⟩:=zIC (P:=P) hm hrb h2 h1
     have hcv:(convert s d (a.eval x)).run P w=.ok (.string (bytesOf ns)) w:=by
      rw [e1] at e2 ⊢
      cases ad<;>simp [convert,run_underlying hs,run_underlying hd,run_underlying hu,e2]
     exact ⟨.string (bytesOf ns),_,by simp [execOp,hcv],h4,zDH⟩
    ·exact h.elim
   ·exact h.elim
  ·exact h.elim
 case fieldAddr t x f=>
  have hx:=ho x (by simp [Op.operands])
  split at h
  ·exact h.elim
  ·rename_i o' z hfi
   obtain ⟨fs,fd,hu,hf,hz,rfl⟩:=qY hfi
   have hne:ez z≠0:=by have:=zA2 z;omega
   have hplace:∀ ad:Addr,(fieldPlace ad fd).run P w=.ok (ad.add fd.offset) w:=fun ad=>by
    simp [fieldPlace,we hz,hne]
   split at h
   ·rename_i k z' i o'' hρ
    have hv:=hx.h.resolve_left (by rw [hρ];simp)
    have hrf:=hx.rf
    rw [hρ] at hv hrf
    refine ⟨_,_,?_,h,.inr rfl,trivial,hrf⟩
    simp only [execOp,Instr.fieldAt,run_underlying hu,hv,PV.val,PV.val1,PV.cv,Instr.sureAddr,Sem.run_bind,Sem.run_pure,Result.andThen_ok,hf,hplace,xA,mi]
   ·rename_i ad n y hρ
    split at h
    ·rename_i hle
     have hv:=hx.h.resolve_left (by rw [hρ];simp)
     have hok:=hx.ok
     rw [hρ] at hv hok
     simp only [PV.Ok] at hok
     obtain ⟨h1,h2,h3,h4,h5,h6⟩:=hok
     have hn0:n≠0:=by have:=zA2 z;omega
     simp only [eOk,hn0,na] at h2
     obtain ⟨b,off,sp⟩:=ad
     simp at h3;subst h3
     refine ⟨_,_,?_,h,.inr rfl,?_,by simp [PV.refs]⟩
     ·simp only [execOp,Instr.fieldAt,run_underlying hu,hv,PV.val,PV.val1,PV.cv,Instr.sureAddr,Sem.run_bind,Sem.run_pure,Result.andThen_ok,hf,hplace]
     ·simp only [PV.Ok,xA]
      have hrow:∀ (cs:List D) (q:Nat),(∀ (i:Nat) (u:D),cs[i]?=some u->y.cells[fd.offset+i]?=some u)->Row w ⟨b,off+fd.offset,none⟩ cs:=fun cs q hcs=>by
       rcases h4 with h4 | ⟨c,t',fz,h7,h8⟩
       ·left
        cases hc:cs with
        | nil=>rfl
        | cons u us=>have:=hcs 0 u (by simp [hc]);rw [h4] at this;simp at this
       ·exact .inr ⟨c,t',fz,h7,fun i u hu=>by have:=h8 _ _ (hcs i u hu);simp only at this ⊢;rw [mi];exact this⟩
      split
      ·rename_i hz0
       subst hz0
       have hlt:fd.offset<n:=by simp [ez] at hle;omega
       obtain ⟨h9,h10⟩:=h2.cell hlt
       refine ⟨h1.cell _,by simpa [eOk] using h9,trivial,hrow _ 0 fun i u hu=>?_,h5,h6⟩
       cases i with
       | zero=>rw [mW,h10];revert hu;generalize y.cell fd.offset=c at *;intro hu;cases c<;>simp [D.isCell,D.cells] at h9 hu ⊢<;>exact hu
       | succ i=>revert hu;generalize y.cell fd.offset=c at *;intro hu;cases c<;>simp [D.isCell,D.cells] at h9 hu
      ·rename_i hz0
       have he:ez z=z:=by simp [ez,hz0]
       rw [he] at hle
       refine ⟨h1.sub _ _,by simp only [eOk,hz0,na];exact h2.sub hle,trivial,hrow _ 0 fun i u hu=>?_,h5,h6⟩
       simp only [D.sub,D.cells,oa,nI] at hu
       split at hu
       ·exact hu
       ·cases hu
    ·exact h.elim
   ·exact h.elim
 case indexAddr t x i=>
  split at h
  ·rename_i el hu
   split at h
   ·exact h.elim
   ·rename_i z hz
    obtain ⟨k,n,h,hn⟩:=ve (ho i (by simp [Op.operands])).valOk h
    obtain ⟨p,h1,h2, -⟩:=zt (ho x (by simp [Op.operands])).valOk h
    split at h1
    ·rename_i ad z' es cap
     split at h1
     ·rename_i hzz
      subst hzz
      obtain ⟨⟨hn0,hn1⟩,h1⟩:=h1
      have hv:=h2.1.resolve_left (by simp)
      have hok:Good w (zT av pB e bx) (.sl ad z' es cap):=h2.2.1
      have hlt:n.toNat<es.length:=by omega
      have hx:es[n.toNat]?=some (es.getD n.toNat default):=by rw [oA];simp [hlt]
      have hmem:=oB hx
      have hge:=hok.elem hmem
      obtain ⟨hH,hF⟩:=hok
      cases hH with
      | nil=>simp at hlt
      | @sl ad _ _ _ h3 h4 h5 h6 h7=>
        have hes:es≠[]:=fun h=>by subst h;simp at hlt
        have h3:=h3 hes
        obtain ⟨b,off,sp⟩:=ad
        simp at h3;subst h3
        have hfb:b∈(D.sl (some ⟨b,off,none⟩) z' es cap).foot:=by simp [D.foot,hes]
        refine ⟨_,_,?_,h1,.inr rfl,?_,by simp [PV.refs]⟩
        ·simp only [execOp,Instr.indexAt,hn,hv,PV.val,PV.val1,PV.cv,asIntOf,run_underlying hu,Sem.run_bind,Sem.run_pure,Result.andThen_ok,o9]
         have hc:0<=n/\n<(es.length:Int):=⟨hn0,hn1⟩
         simp [hc,we hz]
        ·simp only [PV.Ok,o9,xA]
         refine ⟨hge,h5 _ hmem,trivial,?_,hF b hfb,Holds.lt (.sl (fun _=>rfl) h4 h5 h6 h7) b hfb⟩
         rcases h7 with h7 | ⟨c,t',fz,h8,h9⟩
         ·left
          generalize es.getD n.toNat default=y at *
          cases hc:y.cells with
          | nil=>rfl
          | cons u us=>have:=rX h5 hx (i:=0) (u:=u) (by simp [hc]);rw [h7] at this;simp at this
         ·exact .inr ⟨c,t',fz,h8,fun j u hj=>by
           have:=h9 _ _ (rX h5 hx hj)
           simp only at this ⊢
           rw [mi];exact this⟩
     ·exact h1.elim
    ·rename_i kb z' lo m c
     split at h1
     ·rename_i t' z'' es c' hB
      split at h1
      ·rename_i hzz
       obtain ⟨rfl,rfl⟩:=hzz
       obtain ⟨⟨hn0,hn1,hn2⟩,h1⟩:=h1
       have hv:=h2.1.resolve_left (by simp)
       have hrf:=h2.2.2
       obtain ⟨hB1,hB2⟩:=hrb kb _ hB
       refine ⟨_,_,?_,h1,.inr rfl,trivial,hrf⟩
       rcases hm.br kb _ hB1 hB2 with ⟨_,rfl,_⟩ | ⟨b,cc,hb,_⟩
       ·simp at hn2
       ·simp only [execOp,Instr.indexAt,hn,hv,PV.val,PV.val1,PV.cv,asIntOf,run_underlying hu,Sem.run_bind,Sem.run_pure,Result.andThen_ok,hb,o9]
        have hc:0<=n/\n<(m:Int):=⟨hn0,hn1⟩
        simp [hc,we hz,xA,o8]
      ·exact h1.elim
     ·exact h1.elim
    ·exact h1.elim
  ·exact h.elim
 case index t x i=>
  split at h
  ·rename_i hu
   obtain ⟨k,n,h,hn⟩:=ve (ho i (by simp [Op.operands])).valOk h
   obtain ⟨p,h1,h2, -⟩:=zt (ho x (by simp [Op.operands])).valOk h
   split at h1
   ·rename_i s
    obtain ⟨⟨hn0,hn1⟩,h1⟩:=h1
    have hv:=h2.1.resolve_left (by simp)
    have hlt:n.toNat<s.size:=by omega
    have hs:s[n.toNat]?=some (s.data.getD n.toNat 0):=by
     have:n.toNat<s.data.size:=hlt
     rw [getElem?_pos s n.toNat hlt]
     simp [Array.getD,hlt]
     rfl
    exact ⟨_,_,by simp [execOp,Instr.index,hn,hv,PV.val,PV.val1,PV.cv,asIntOf,run_underlying hu,hn0,hs],h1,zn⟩
   ·exact h1.elim
  ·exact h.elim
 case slice t x lo hi mx=>
  have hxo:=(ho x (by simp [Op.operands])).valOk
  split at h
  ·rename_i hu
   obtain ⟨p,h1,h2, -⟩:=zt hxo h
   split at h1
   ·rename_i s
    have hv:=h2.1.resolve_left (by simp)
    obtain ⟨l,h1,hl⟩:=vf (a:=a) (fun y hy=>(ho y (by simp [Op.operands,hy])).valOk) h1
    obtain ⟨u,h1,hh⟩:=vf (a:=a) (fun y hy=>(ho y (by simp [Op.operands,hy])).valOk) h1
    obtain ⟨⟨hl0,hlu,hus⟩,h1⟩:=h1
    refine ⟨_,_,?_,h1,zDH⟩
    have hu0:0<=u:=by omega
    have hln:l<=(u.toNat:Int):=by omega
    have hbounds:(Instr.sliceBounds false s.size s.size (lo.map a.eval) (hi.map a.eval) none).run P w=.ok (l.toNat,u.toNat,s.size) w:=by
     rcases hh with ⟨rfl,rfl⟩ | ⟨yh,kh,rfl,hyh⟩
     ·rcases hl with ⟨rfl,rfl⟩ | ⟨yl,kl,rfl,hyl⟩
      ·simp [Instr.sliceBounds]
      ·simp [Instr.sliceBounds,hyl,zO hl0 hlu]
     ·rcases hl with ⟨rfl,rfl⟩ | ⟨yl,kl,rfl,hyl⟩
      ·simp [Instr.sliceBounds,hyh,zO hu0 hus]
      ·simp [Instr.sliceBounds,hyh,hyl,zO hu0 hus,zO hl0 hln]
    simp only [execOp,Instr.sliceAt,Sem.run_bind,run_underlying hu,Result.andThen_ok,hv,PV.val,PV.val1,PV.cv,Instr.slice,mI,mN,mc,na,hbounds,Sem.run_pure]
   ·exact h1.elim
  ·rename_i el hu
   split at h
   ·exact h.elim
   ·rename_i z hz
    obtain ⟨p,h1,h2, -⟩:=zt hxo h
    split at h1
    ·rename_i ad z' es cap
     split at h1
     ·rename_i hzz
      subst hzz
      have hv:=h2.1.resolve_left (by simp)
      have hg:Good w (zT av pB e bx) (.sl ad z' es cap):=h2.2.1
      obtain ⟨l,h1,hl⟩:=vf (a:=a) (fun y hy=>(ho y (by simp [Op.operands,hy])).valOk) h1
      obtain ⟨u,h1,hh⟩:=vf (a:=a) (fun y hy=>(ho y (by simp [Op.operands,hy])).valOk) h1
      obtain ⟨⟨hl0,hlu,hus⟩,h1⟩:=h1
      have hu0:0<=u:=by omega
      have hln:l<=(u.toNat:Int):=by omega
      have hle:es.length<=cap:=by
       obtain ⟨hH,_⟩:=hg
       cases hH with
       | nil=>simp
       | sl _ h _ _ _=>exact h
      have huc:u<=(cap:Int):=by omega
      have hg':=hg.slice (l:=l.toNat) (h:=u.toNat) (by omega) (by omega)
      have hlc:((l.toNat:Nat):Int)=l:=by omega
      rw [hlc] at hg'
      have hlen:((es.take u.toNat).drop l.toNat).length=u.toNat - l.toNat:=by simp;omega
      refine ⟨_,_,?_,h1,zOD hg'⟩
      have hbounds:(Instr.sliceBounds true es.length cap (lo.map a.eval) (hi.map a.eval) none).run P w=.ok (l.toNat,u.toNat,cap) w:=by
       rcases hh with ⟨rfl,rfl⟩ | ⟨yh,kh,rfl,hyh⟩
       ·rcases hl with ⟨rfl,rfl⟩ | ⟨yl,kl,rfl,hyl⟩
        ·simp [Instr.sliceBounds]
        ·simp [Instr.sliceBounds,hyl,zO hl0 hlu]
       ·rcases hl with ⟨rfl,rfl⟩ | ⟨yl,kl,rfl,hyl⟩
        ·simp [Instr.sliceBounds,hyh,zO hu0 huc]
        ·simp [Instr.sliceBounds,hyh,hyl,zO hu0 huc,zO hl0 hln]
      rw [hlen]
      have hif:(if cap=l.toNat then ad else ad.map (·.add (l.toNat*ez z')))=(if (cap:Int)=l then ad else ad.map (·.add (l.toNat*ez z'))):=by
       by_cases hc:cap=l.toNat
       ·rw [if_pos hc,if_pos (by omega)]
       ·rw [if_neg hc,if_neg (by omega)]
      simp only [execOp,Instr.sliceAt,Sem.run_bind,run_underlying hu,Result.andThen_ok,hv,PV.val,PV.val1,PV.cv,Instr.slice,mI,hbounds,Sem.run_pure,we hz,hif]
     ·exact h1.elim
    ·rename_i kb z' lo' n c
     split at h1
     ·have hv:=h2.1.resolve_left (by simp)
      have hrf:=h2.2.2
      obtain ⟨u,h1,hh⟩:=vf (a:=a) (fun y hy=>(ho y (by simp [Op.operands,hy])).valOk) h1
      obtain ⟨⟨hu0,huc⟩,h1⟩:=h1
      refine ⟨_,_,?_,h1,.inr rfl,trivial,hrf⟩
      have hbounds:(Instr.sliceBounds true n c ((none:Option Operand).map a.eval) (hi.map a.eval) none).run P w=.ok (0,u.toNat,c) w:=by
       rcases hh with ⟨rfl,rfl⟩ | ⟨yh,kh,rfl,hyh⟩
       ·simp [Instr.sliceBounds]
       ·simp [Instr.sliceBounds,hyh,zO hu0 huc]
      simp only [mI] at hbounds
      cases hb:e.at kb with
      | none=>
        simp only [execOp,Instr.sliceAt,Sem.run_bind,run_underlying hu,Result.andThen_ok,hv,PV.val,PV.val1,PV.cv,hb,Instr.slice,mI,hbounds,Sem.run_pure,we hz]
        simp
      | some b=>
        simp only [execOp,Instr.sliceAt,Sem.run_bind,run_underlying hu,Result.andThen_ok,hv,PV.val,PV.val1,PV.cv,hb,Instr.slice,mI,hbounds,Sem.run_pure,we hz]
        simp [Addr.add]
     ·rename_i y
      split at h1
      rotate_left
      ·exact h1.elim
      rename_i hzz
      subst hzz
      have hv:=h2.1.resolve_left (by simp)
      have hrf:=h2.2.2
      obtain ⟨kl,l,h1,hl⟩:=ve (ho y (by simp [Op.operands])).valOk h1
      obtain ⟨u,h1,hh⟩:=vf (a:=a) (fun y hy=>(ho y (by simp [Op.operands,hy])).valOk) h1
      obtain ⟨⟨hl0,hlu,huc,hlc⟩,h1⟩:=h1
      have hu0:0<=u:=by omega
      have hln:l<=(u.toNat:Int):=by omega
      refine ⟨_,_,?_,h1,.inr rfl,trivial,hrf⟩
      have hbounds:(Instr.sliceBounds true n c ((some y:Option Operand).map a.eval) (hi.map a.eval) none).run P w=.ok (l.toNat,u.toNat,c) w:=by
       rcases hh with ⟨rfl,rfl⟩ | ⟨yh,kh,rfl,hyh⟩
       ·simp [Instr.sliceBounds,hl,zO hl0 hlu]
       ·simp [Instr.sliceBounds,hyh,hl,zO hu0 huc,zO hl0 hln]
      have hlo:∀ b:Nat,(if c=l.toNat then some (⟨b,lo'*ez z',none⟩:Addr) else some ((⟨b,lo'*ez z',none⟩:Addr).add (l.toNat*ez z')))=some ⟨b,(lo'+loN z' c l)*ez z',none⟩:=fun b=>by
       rcases zM8 hl0 hlc with ⟨h3,h4⟩ | ⟨h3,h4⟩
       ·rw [if_pos h3,h4,mW]
       ·rw [if_neg h3,h4];simp [Addr.add,o8]
      cases hb:e.at kb with
      | none=>
        simp only [execOp,Instr.sliceAt,Sem.run_bind,run_underlying hu,Result.andThen_ok,hv,PV.val,PV.val1,PV.cv,hb,Instr.slice,mI,hbounds,Sem.run_pure,we hz]
        simp
      | some b=>
        simp only [execOp,Instr.sliceAt,Sem.run_bind,run_underlying hu,Result.andThen_ok,hv,PV.val,PV.val1,PV.cv,hb,Instr.slice,mI,hbounds,Sem.run_pure,we hz]
        simp only [ob,nE]
        have:=hlo b
        simp [this]
    ·exact h1.elim
  ·exact h.elim
 case field t x f=>
  have hx:=ho x (by simp [Op.operands])
  split at h
  ·exact h.elim
  ·rename_i o' z hfi
   obtain ⟨fs,fd,hu,hf,hz,rfl⟩:=qY hfi
   have hpart:∀ (cs:List Value) (v:Value),(if z=0 then cs[fd.offset]?=some v else v=.agg ((cs.drop fd.offset).take z).toArray)->(part fd.type cs.toArray fd.offset).run P w=.ok v w:=fun cs v hcs=>by
    unfold part
    rw [Sem.run_bind,zEs hz]
    simp only [Result.andThen_ok]
    split at hcs
    ·rename_i hz0
     subst hz0
     simp [hcs]
    ·rename_i hz0
     subst hcs
     have he:ez z=z:=by simp [ez,hz0]
     simp [hz0,we hz,he]
   split at h
   ·rename_i cs hρ
    have hv:=hx.h.resolve_left (by rw [hρ];simp)
    have hok:=hx.ok
    have hrf:=hx.rf
    rw [hρ] at hv hok hrf
    simp only [PV.Ok] at hok
    obtain ⟨ho1,ho2⟩:=hok
    rw [PV.OkL_iff] at ho1
    simp only [PV.refs] at hrf
    split at h
    ·rename_i hz0
     subst hz0
     split at h
     ·rename_i hlt
      have hp:cs[fd.offset]?=some (cs.getD fd.offset .any):=by rw [oA];simp [hlt]
      have hmem:=oB hp
      have hr:=hpart (PV.cvs e cs) ((cs.getD fd.offset .any).cv e) (by simp only [mV,PV.cvs_eq,oE,hp,ob])
      refine ⟨_,_,?_,h,.inr (PV.val_isC (ho2 _ hmem)).symm,ho1 _ hmem,fun k hk=>hrf k (PV.refsL_mem.2 ⟨_,hmem,hk⟩)⟩
      simp only [execOp,Instr.field,run_underlying hu,hv,PV.val,PV.val1,asAgg,Sem.run_bind,Sem.run_pure,Result.andThen_ok,hf,hr]
     ·exact h.elim
    ·rename_i hz0
     split at h
     ·rename_i hle
      have hr:=hpart (PV.cvs e cs) (.agg (((PV.cvs e cs).drop fd.offset).take z).toArray) (by simp only [hz0,na])
      obtain ⟨q,hq,hvq⟩:=zCv (w:=w) (e:=e) (pB:=pB) (bx:=bx) (cs:=(cs.drop fd.offset).take z) (vs:=((PV.cvs e cs).drop fd.offset).take z)
       (by simp [PV.cvs_eq])
       (fun i p hp=>.inr (by
        simp only [PV.cvs_eq,oa,nI,oE] at hp ⊢
        split at hp
        ·rename_i hi;simp [hi,hp]
        ·cases hp))
       (fun p hp=>by
        have hmem:=ou (oh hp)
        exact ⟨ho1 _ hmem,.inr (ho2 _ hmem),fun k hk=>hrf k (PV.refsL_mem.2 ⟨_,hmem,hk⟩)⟩) h
      refine ⟨_,q,?_,hq,hvq⟩
      simp only [execOp,Instr.field,run_underlying hu,hv,PV.val,PV.val1,asAgg,Sem.run_bind,Sem.run_pure,Result.andThen_ok,hf,hr]
     ·exact h.elim
   ·rename_i n y hρ
    have hv:=hx.h.resolve_left (by rw [hρ];simp)
    have hok:=hx.ok
    rw [hρ] at hv hok
    simp only [PV.Ok] at hok
    obtain ⟨hg,ha⟩:=hok
    have hyv:=ha.val
    split at h
    ·rename_i hz0
     subst hz0
     split at h
     ·rename_i hlt
      obtain ⟨h1,h2⟩:=ha.cell hlt
      have hr:=hpart (y.cells.map D.cv) (y.cell fd.offset).cv (by simp only [mV,oE,h2,ob])
      refine ⟨_,_,?_,h,qd (hg.cell _) h1⟩
      simp only [execOp,Instr.field,run_underlying hu,hv,PV.val,PV.val1,hyv,asAgg,Sem.run_bind,Sem.run_pure,Result.andThen_ok,hf,hr]
     ·exact h.elim
    ·rename_i hz0
     split at h
     ·rename_i hle
      have hr:=hpart (y.cells.map D.cv) (y.sub fd.offset z).val (by simp only [hz0,na];simp [D.sub,D.val,List.map_take,List.map_drop])
      refine ⟨_,_,?_,h,rT (hg.sub _ _) (ha.sub hle)⟩
      simp only [execOp,Instr.field,run_underlying hu,hv,PV.val,PV.val1,hyv,asAgg,Sem.run_bind,Sem.run_pure,Result.andThen_ok,hf,hr]
     ·exact h.elim
   ·exact h.elim
 case extract x i=>
  have hx:=ho x (by simp [Op.operands])
  split at h
  ·rename_i l hρ
   split at h
   ·exact h.elim
   ·rename_i p htp hp
    have hv:=hx.h.resolve_left (by rw [hρ];simp)
    have hok:=hx.ok
    have hrf:=hx.rf
    rw [hρ] at hv hok hrf
    simp only [PV.Ok] at hok
    rw [PV.OkL_iff] at hok
    have hmem:=oB hp
    have hi:((l.map (PV.val1 e)).toArray)[i]?=some (p.val1 e):=by simp [hp]
    refine ⟨p.val1 e,p,?_,h,?_,hok p hmem,fun k hk=>hrf k (by simp only [PV.refs];exact PV.refsL_mem.2 ⟨p,hmem,hk⟩)⟩
    ·simp only [execOp,Instr.extract,hv,PV.val,hi,Sem.run_bind,Sem.run_pure,Result.andThen_ok]
    ·cases p<;>first | exact .inr rfl | exact .inl rfl | exact absurd rfl (htp _)
   ·exact h.elim
  ·exact h.elim
 case lookup t m x ok=>
  split at h
  ·rename_i k _ hu
   obtain ⟨p,h1,h2, -⟩:=zt (ho x (by simp [Op.operands])).valOk h
   split at h1
   ·rename_i s y hρ
    obtain ⟨b,es,c,rfl,oo,hg,hR⟩:=h1
    have hm':=ho m (by simp [Op.operands])
    have hok:=hm'.ok
    have hv:=hm'.h.resolve_left (by rw [hρ];simp)
    rw [hρ] at hok hv
    simp only [PV.Ok] at hok
    have hs:=h2.1.resolve_left (by simp)
    have hh:w.heap[b]?=some (.map es c):=by
     cases hok.1.1
     assumption
    refine ⟨_,_,?_,hR,.inr rfl,by simp [PV.Ok,PV.OkL],by simp [PV.refs,PV.refsL]⟩
    simp only [execOp,hs,hv,PV.val,PV.val1,PV.cv,D.cv,Sem.run_bind,hg w b hh,Result.andThen_ok,Sem.run_pure,ol,lA]
   ·exact h1.elim
  ·exact h.elim
 case makeFunc f first caps=>
  split at h
  ·rename_i f hfirst
   have hfi:first=#[]:=by cases first;simp_all
   subst hfi
   split at h
   ·rename_i hall
    rw [oZ] at hall
    have hc:∀ c∈caps.toList,(ρ c).cv e=a.eval c/\(ρ c).Ok w (zT av pB e bx)/\∀ k∈(ρ c).refs,k∉pB/\k<bx.length:=fun c hcm=>by
     have hx:=ho c (by simp [Op.operands];exact om.1 hcm)
     have hcap:=hall (ρ c) (List.mem_map_of_mem hcm)
     have hne:ρ c≠.any:=fun h=>by rw [h] at hcap;cases hcap
     refine ⟨?_,hx.ok,hx.rf⟩
     have hv:=hx.h.resolve_left hne
     rw [hv]
     revert hcap
     generalize ρ c=p
     intro hcap
     cases p<;>first | rfl | cases hcap
    refine ⟨_,_,rfl,h,.inr ?_,PV.OkL_iff.2 fun p hp=>?_,fun k hk=>?_⟩
    ·simp only [PV.val,PV.val1,PV.cv,PV.cvs_eq,mH]
     have:caps.toList.map (PV.cv e∘ρ)=caps.toList.map a.eval:=o6 fun c hcm=>(hc c hcm).1
     rw [this]
     simp only [List.map_toArray,lA]
     congr 1
     apply Array.ext';simp
    ·obtain ⟨c,hcm,rfl⟩:=oQ.1 hp
     exact (hc c hcm).2.1
    ·simp only [PV.refs] at hk
     obtain ⟨p,hp,hk⟩:=PV.refsL_mem.1 hk
     obtain ⟨c,hcm,rfl⟩:=oQ.1 hp
     exact (hc c hcm).2.2 k hk
   ·exact h.elim
  ·exact h.elim
 case call c=>
  obtain ⟨callee,args,argTypes⟩:=c
  simp only at h
  split at h
  ·rename_i x t hargs htys
   have ha:args=#[x]:=by cases args;simp_all
   have ht:argTypes=#[t]:=by cases argTypes;simp_all
   subst ha;subst ht
   have hx:=(ho x (by simp [Op.operands,Call.operands])).valOk
   split at h
   ·rename_i el hu
    obtain ⟨p,h1,h2, -⟩:=zt hx h
    split at h1
    ·have hv:=h2.1.resolve_left (by simp)
     exact ⟨_,_,by simp [execOp,resolve,invoke,builtin,Builtin.len_,run_underlying hu,hv,PV.val,PV.val1,PV.cv,goInt],h1,zn⟩
    ·rename_i kb z' lo n c
     have hv:=h2.1.resolve_left (by simp)
     refine ⟨_,_,?_,h1,zn⟩
     cases hb:e.at kb<;>simp [execOp,resolve,invoke,builtin,Builtin.len_,run_underlying hu,hv,PV.val,PV.val1,PV.cv,hb,goInt]
    ·exact h1.elim
   ·rename_i hu
    obtain ⟨p,h1,h2, -⟩:=zt hx h
    split at h1
    ·have hv:=h2.1.resolve_left (by simp)
     exact ⟨_,_,by simp [execOp,resolve,invoke,builtin,Builtin.len_,run_underlying hu,hv,PV.val,PV.val1,PV.cv,goInt],h1,zn⟩
    ·exact h1.elim
   ·exact h.elim
  ·rename_i x y s t hargs htys
   have ha:args=#[x,y]:=by cases args;simp_all
   have ht:argTypes=#[s,t]:=by cases argTypes;simp_all
   subst ha;subst ht
   obtain ⟨p,h1,h2, -⟩:=zt (ho x (by simp [Op.operands,Call.operands])).valOk h
   obtain ⟨q,h3,h4, -⟩:=zt (ho y (by simp [Op.operands,Call.operands])).valOk h1
   split at h3
   ·have hv:=h2.1.resolve_left (by simp)
    have hv':=h4.1.resolve_left (by simp)
    exact ⟨_,_,by simp [execOp,resolve,invoke,builtin,Builtin.max_,Builtin.max2,hv,hv',PV.val,PV.val1,PV.cv],h3,zn⟩
   ·exact h3.elim
  ·rename_i x y s t hargs htys
   have ha:args=#[x,y]:=by cases args;simp_all
   have ht:argTypes=#[s,t]:=by cases argTypes;simp_all
   subst ha;subst ht
   obtain ⟨p,h1,h2, -⟩:=zt (ho x (by simp [Op.operands,Call.operands])).valOk h
   obtain ⟨q,h3,h4, -⟩:=zt (ho y (by simp [Op.operands,Call.operands])).valOk h1
   split at h3
   ·have hv:=h2.1.resolve_left (by simp)
    have hv':=h4.1.resolve_left (by simp)
    exact ⟨_,_,by simp [execOp,resolve,invoke,builtin,Builtin.min_,Builtin.min2,hv,hv',PV.val,PV.val1,PV.cv],h3,zn⟩
   ·exact h3.elim
  ·exact h.elim
def sd:PV->Option (List PV)
 | .pg cs=>some cs
 | .dg n x=>some ((List.range n).map λj=>.dc (x.cell j))
 | .any=>none
 | .tp _=>none
 | .d _=>none
 | p=>some [p]
def zBF (P:Program) (t:TypeId):Option (List PV):=
 match (P.info? t).bind (·.zero) with
 | some z=>if z.cells.toList.all (·.oneCell')=true then some (r5 (zsh P 8 t) (z.cells.toList.map vO)) else none
 | none=>none
def tL (off:Nat) (ps cs:List PV):List PV:=cs.take off++ps++cs.drop (off+ps.length)
def zGd (I:List (Nat × Nat)):List PV->List (Nat × PV)->Option (List PV)
 | cs,[]=>some cs
 | cs,(i,p)::rest=>match I[i]?,sd p with
   | some (off,n),some ps=>if ps.length=n/\off+n<=cs.length then zGd I (tL off ps cs) rest else none
   | _,_=>none
def qq (P:Program):List Field->Option (List (Nat × Nat))
 | []=>some []
 | f::fs=>match kz P f.type,qq P fs with
   | some z,some l=>some ((f.offset,ez z)::l)
   | _,_=>none
/-- a composite value -/
def zAp (P:Program) (ρ:Operand->PV) (t:TypeId) (parts:List (Nat × Operand)) (R:PV->Prop):Prop:=
 match P.underlying t,zBF P t with
 | some (.struct fs),some cs=>match qq P fs.toList with
   | some I=>match zGd I cs (parts.map λ(i,x)=>(i,ρ x)) with
     | some cs'=>pgR cs' R
     | none=>False
   | none=>False
 | _,_=>False
mutual
def rQ:PV->Option D
 | .int k n=>some (.lit (.int k n))
 | .bool b=>some (.lit (.bool b))
 | .str s=>some (.lit (.string s))
 | .lit x=>some (.lit x)
 | .sv a z es cap=>some (.sl a z es cap)
 | .dc x=>some x
 | .pd ad z x=>some (.pt ad z x)
 | .fn f caps=>match zF2 caps with
   | some ds=>some (.fn f ds)
   | none=>none
 | _=>none
def zF2:List PV->Option (List D)
 | []=>some []
 | p::ps=>match rQ p,zF2 ps with
   | some d,some ds=>some (d::ds)
   | _,_=>none
end
/-- as an element of kind z -/
def zIP (z:Nat) (p:PV):Option D:=
 match p with
 | .pg cs=>if z=cs.length/\z≠0 then (match zF2 cs with | some ds=>some (.ag ds) | none=>none) else none
 | .dg n x=>if n=z/\z≠0 then some x else none
 | p=>if z=0 then rQ p else none
def qL (z:Nat) (ρ:Operand->PV):Nat->List (Nat × Operand)->Option (List D)
 | _,[]=>some []
 | k,(i,x)::rest=>if i=k then (match zIP z (ρ x),qL z ρ (k+1) rest with
  | some d,some ds=>some (d::ds)
  | _,_=>none) else none
def zKD (P:Program) (el:TypeId) (z:Nat):Option D:=
 match zBF P el with
 | some cs=>if z=0 then (match cs with | [p]=>rQ p | _=>none) else zIP z (.pg cs)
 | none=>none
/-- the operations that make a box: the box, and the value that leads to it -/
def zJT (P:Program) (ρ:Operand->PV) (op:Op) (R:Bx->(Nat->PV)->Prop):Prop:=
 match op with
 | .alloc t=>match zBF P t with
   | some cs=>R (.var cs) (λk=>.pb k 0 0 0)
   | none=>False
 | .box t x=>match ρ x with
   | .pg cs=>R (.var cs) (λk=>.pb k 0 0 0)
   | .dg n y=>R (.vd y n) (λk=>.pb k 0 0 0)
   | .any=>False
   | .tp _=>False
   | .d _=>False
   | p=>R (.var [retag P t p]) (λk=>.pb k 0 0 0)
 | .buildSlice t n parts=>match P.underlying t with
   | some (.slice el)=>match kz P el with
     | some z=>match qL z ρ 0 parts.toList with
       | some es=>if es.length=n/\n*ez z<=2 ^ 24/\(zBF P el).isSome=true then R (.arr el z es n) (λk=>.sb k z 0 n n) else False
       | none=>False
     | none=>False
   | _=>False
 | .makeSlice t l c=>match P.underlying t with
   | some (.slice el)=>match kz P el,P.info? el with
     | some z,some i=>match zKD P el z with
       | some zd=>zM5 (ρ l) λn=>zM5 (ρ c) λm=>(0<=n/\n<=m/\(i.bytes:Int)*m<=140737488355328/\m<=9223372036854775807) /\
        R (.arr el z (List.replicate n.toNat zd) m.toNat) (λk=>.sb k z 0 n.toNat m.toNat)
       | none=>False
     | _,_=>False
   | _=>False
 | _=>False
variable {av:Nat->Prop} {P:Program} {w:World} {e:Env} {pB:List Nat} {bx:List Bx} {a:Act}
mutual
theorem xI:∀ {p:PV} {d:D},rQ p=some d->∀ {live:Nat->Prop},p.Ok w live->Good w live d/\d.isCell/\d.cv=p.cv e/\p.isC/\p.refs=[]
 | .int ..,d,h,live,I=>by simp [rQ] at h;subst h;exact ⟨Good.lit,rfl,rfl,trivial,rfl⟩
 | .bool ..,d,h,live,I=>by simp [rQ] at h;subst h;exact ⟨Good.lit,rfl,rfl,trivial,rfl⟩
 | .str ..,d,h,live,I=>by simp [rQ] at h;subst h;exact ⟨Good.lit,rfl,rfl,trivial,rfl⟩
 | .lit ..,d,h,live,I=>by simp [rQ] at h;subst h;simp [PV.Ok] at I;exact ⟨Good.lit,I,rfl,I,rfl⟩
 | .sv ..,d,h,live,I=>by simp [rQ] at h;subst h;simp [PV.Ok] at I;exact ⟨I,trivial,rfl,trivial,rfl⟩
 | .dc ..,d,h,live,I=>by simp [rQ] at h;subst h;simp [PV.Ok] at I;exact ⟨I.1,I.2,rfl,trivial,rfl⟩
 | .pd ad z x,d,h,live,I=>by
   simp [rQ] at h;subst h;simp only [PV.Ok] at I
   obtain ⟨J,O,U,h4,h5,h6⟩:=I
   refine ⟨⟨.pt U O h4 J.1,λb hb=>?_⟩,trivial,rfl,trivial,rfl⟩
   simp only [D.foot] at hb
   rcases oF.1 hb with rfl | hb
   ·exact h5
   ·exact J.2 b hb
 | .fn f caps,d,h,live,I=>by
   simp only [rQ] at h
   split at h
   ·rename_i ds Y
    simp at h;subst h
    simp only [PV.Ok] at I
    obtain ⟨J,O,U⟩:=zAQ Y I
    refine ⟨⟨.fn (λc hc=>(J c hc).2) λc hc=>(J c hc).1.1,λb hb=>?_⟩,trivial,?_,trivial,by simp only [PV.refs];exact U⟩
    ·simp only [D.foot] at hb
     obtain ⟨c,hc,aa⟩:=zP.1 hb
     exact (J c hc).1.2 b aa
    ·simp only [D.cv,PV.cv,D.cvL_eq,O]
   ·cases h
 | .any,d,h,live,I=>by simp [rQ] at h
 | .d ..,d,h,live,I=>by simp [rQ] at h
 | .dg ..,d,h,live,I=>by simp [rQ] at h
 | .pb ..,d,h,live,I=>by simp [rQ] at h
 | .sb ..,d,h,live,I=>by simp [rQ] at h
 | .pg ..,d,h,live,I=>by simp [rQ] at h
 | .tp ..,d,h,live,I=>by simp [rQ] at h
theorem zAQ:∀ {ps:List PV} {ds:List D},zF2 ps=some ds->∀ {live:Nat->Prop},PV.OkL w live ps->(∀ d∈ds,Good w live d/\d.isCell)/\ds.map D.cv=PV.cvs e ps/\PV.refsL ps=[]
 | [],ds,h,live,I=>by simp [zF2] at h;subst h;simp [PV.cvs,PV.refsL]
 | p::ps,ds,h,live,I=>by
   simp only [zF2] at h
   split at h
   ·rename_i d ab J O
    simp at h;subst h
    obtain ⟨a1,a2,a3,_,a4⟩:=xI J I.1
    obtain ⟨b1,b2,b3⟩:=zAQ O I.2
    refine ⟨λx hx=>?_,by simp [PV.cvs,a3,b2],by simp [PV.refsL,a4,b3]⟩
    rcases oF.1 hx with rfl | hx
    ·exact ⟨a1,a2⟩
    ·exact b1 x hx
   ·cases h
end
theorem u9 {ps:List PV} {ds:List D} (h:zF2 ps=some ds) {live:Nat->Prop} (I:PV.OkL w live ps):(∀ d∈ds,Good w live d/\d.isCell)/\ds.map D.cv=PV.cvs e ps:=
 let ⟨J,O,_⟩:=zAQ h I;⟨J,O⟩
theorem v5 {ps:List PV} {ds:List D} (h:zF2 ps=some ds):ds.length=ps.length:=by
 induction ps generalizing ds with
 | nil=>simp [zF2] at h;subst h;rfl
 | cons p ps I=>
   simp only [zF2] at h
   split at h
   ·rename_i d J U O
    simp at h;subst h
    simp [I O]
   ·cases h
theorem zAY {z:Nat} {p:PV} {d:D} (h:zIP z p=some d) {live:Nat->Prop} (I:p.Ok w live):Good w live d/\eOk z d/\d.val=p.val e:=by
 unfold zIP at h
 split at h
 ·rename_i cs
  split at h
  ·rename_i J
   split at h
   ·rename_i ds O
    simp at h;subst h
    simp only [PV.Ok] at I
    obtain ⟨a1,U⟩:=u9 (e:=e) O I.1
    refine ⟨Good.ag λc hc=>(a1 c hc).1,?_,by simp [D.val,PV.val,PV.val1,U]⟩
    simp only [eOk,J.2,na]
    exact ⟨ds,rfl,by rw [v5 O,J.1],λc hc=>(a1 c hc).2⟩
   ·cases h
  ·cases h
 ·rename_i n x
  split at h
  ·rename_i J
   obtain ⟨rfl,J⟩:=J
   simp at h;subst h
   simp only [PV.Ok] at I
   exact ⟨I.1,by simp only [eOk,J,na];exact I.2,rfl⟩
  ·cases h
 ·split at h
  ·rename_i J
   subst J
   obtain ⟨a1,U,Y,a4,_⟩:=xI (e:=e) h I
   exact ⟨a1,by simpa [eOk] using U,by rw [D.val_isCell U,Y,PV.val_isC a4]⟩
  ·cases h
/-- the model's 'fill' with one part -/
theorem zM1 (off:Nat):∀ (vs:List Value) (k:Nat) (cs:Array Value),off+k+vs.length<=cs.size ->
  ((vs.zipIdx k).foldl (λcs (c,j)=>cs.setIfInBounds (off+j) c) cs).toList=cs.toList.take (off+k)++vs++cs.toList.drop (off+k+vs.length)
 | [],k,cs,h=>by simp
 | v::vs,k,cs,h=>by
   simp only [List.zipIdx_cons,List.foldl_cons]
   rw [zM1 off vs (k+1) _ (by simp at h ⊢;omega)]
   simp only [Array.toList_setIfInBounds]
   have:=list_seg_step cs.toList (off+k) v vs (by simp at h ⊢;omega)
   simpa [mi] using this
theorem zJB {place:Nat->Option (Nat × Nat)} {cells:Array Value} {i off n:Nat} {v:Value} {rest:List (Nat × Value)} (I:place i=some (off,n)) (J:v.cells.size=n) (O:off+n<=cells.size) :
  Instr.fill place cells ((i,v)::rest)=Instr.fill place (cells.toList.take off++v.cells.toList++cells.toList.drop (off+n)).toArray rest:=by
 have hc:(decide (v.cells.size≠n)||decide (off+v.cells.size>cells.size))=false:=by simp;omega
 have U:=zM1 off v.cells.toList 0 cells (by simp;omega)
 simp only [Instr.fill,I,hc,mc,na]
 congr 1
 apply Array.ext'
 rw [<-Array.foldl_toList]
 simp only [Array.toList_zipIdx]
 rw [U]
 simp [J]
/-- cells as the ghost has them -/
def CellsAre (e:Env) (vs:List Value) (ps:List PV):Prop:=vs.length=ps.length/\∀ (i:Nat) (p:PV),ps[i]?=some p->p=.any\/vs[i]?=some (p.cv e)
def zAI (av:Nat->Prop) (w:World) (e:Env) (pB:List Nat) (bx:List Bx) (ps:List PV):Prop:=∀ p∈ps,p.Ok w (zT av pB e bx)/\(p=.any\/p.isC)/\∀ k∈p.refs,k∉pB/\k<bx.length
theorem CellsAre.append {vs I:List Value} {ps J:List PV} (h:CellsAre e vs ps) (U:CellsAre e I J):CellsAre e (vs++I) (ps++J):=by
 refine ⟨by simp [h.1,U.1],λi p O=>?_⟩
 rw [mm] at O ⊢
 rw [h.1]
 split at O
 ·rename_i hi;rw [if_pos hi];exact h.2 i p O
 ·rename_i hi;rw [if_neg hi];exact U.2 _ p O
theorem CellsAre.take {vs:List Value} {ps:List PV} (h:CellsAre e vs ps) (n:Nat):CellsAre e (vs.take n) (ps.take n):=by
 refine ⟨by simp [h.1],λi p I=>?_⟩
 simp only [oa] at I ⊢
 split at I
 ·rename_i hi;rw [if_pos hi];exact h.2 i p I
 ·cases I
theorem CellsAre.drop {vs:List Value} {ps:List PV} (h:CellsAre e vs ps) (n:Nat):CellsAre e (vs.drop n) (ps.drop n):=by
 refine ⟨by simp [h.1],λi p I=>?_⟩
 simp only [nI] at I ⊢
 exact h.2 _ p I
theorem zC7 {p:PV} (h:p.isC) {live:Nat->Prop} (I:p.Ok w live):(p.cv e).oneCell'=true:=by
 cases p<;>simp [PV.isC] at h<;>simp only [PV.Ok] at I<;>simp only [PV.cv]<;>try rfl
 case lit=>exact h
 case d=>exact xH h
 case dc=>exact xH I.2
 case sb=>split<;>rfl
theorem xy {v:Value} {p:PV} {ps:List PV} (h:sd p=some ps) (Y:ValOk av w e pB bx v p) :
  CellsAre e v.cells.toList ps/\(∀ p∈ps,p.Ok w (zT av pB e bx)/\p.isC/\∀ k∈p.refs,k∉pB/\k<bx.length)/\∀ x∈v.cells.toList,x.oneCell'=true:=by
 obtain ⟨h1,U,h3⟩:=Y
 have one:∀ q:PV,q.isC->p=q->CellsAre e v.cells.toList [q]/\(∀ p∈[q],p.Ok w (zT av pB e bx)/\p.isC/\∀ k∈p.refs,k∉pB/\k<bx.length)/\∀ x∈v.cells.toList,x.oneCell'=true:=λq I ac=>by
  subst ac
  have ae:p≠.any:=λh=>by subst h;exact I
  have aa:=(h1.resolve_left ae).trans (PV.val_isC I)
  have ab:v.oneCell'=true:=by rw [aa];exact zC7 I U
  have J:v.cells=#[v]:=by cases v<;>simp [Value.cells,Value.oneCell'] at ab ⊢
  rw [J]
  refine ⟨⟨rfl,λi r O=>?_⟩,λr O=>?_,by simpa using ab⟩
  ·cases i with
   | zero=>simp at O;subst O;exact .inr (by simp [aa])
   | succ i=>simp at O
  ·simp at O;subst O;exact ⟨U,I,h3⟩
 cases p<;>simp [sd] at h
 case pg cs=>
  subst h
  have Y:=h1.resolve_left (by simp)
  simp only [PV.Ok] at U
  obtain ⟨a1,a2⟩:=U
  rw [PV.OkL_iff] at a1
  simp only [PV.refs] at h3
  have J:v.cells.toList=cs.map (PV.cv e):=by rw [Y];simp [PV.val,PV.val1,Value.cells,PV.cvs_eq]
  refine ⟨⟨by rw [J];simp,λi q I=>.inr (by rw [J,oE,I];rfl)⟩,λq I=>⟨a1 q I,a2 q I,λk hk=>h3 k (PV.refsL_mem.2 ⟨q,I,hk⟩)⟩,?_⟩
  rw [J]
  intro x hx
  obtain ⟨q,I,rfl⟩:=oQ.1 hx
  exact zC7 (a2 q I) (a1 q I)
 case dg n x=>
  subst h
  have Y:=h1.resolve_left (by simp)
  simp only [PV.Ok] at U
  obtain ⟨hg,ha⟩:=U
  have J:v.cells.toList=x.cells.map D.cv:=by rw [Y];simp only [PV.val,PV.val1,ha.val,Value.cells]
  have hl:=ha.length
  refine ⟨⟨by rw [J];simp [hl],λi q I=>.inr ?_⟩,λq I=>?_,?_⟩
  ·rw [oE] at I
   cases O:(List.range n)[i]? with
   | none=>simp [O] at I
   | some j=>
     rw [O] at I
     simp at I;subst I
     have hi:i<n:=by have:=(oC.1 O).1;simpa using this
     have hj:j=i:=by have:=(oC.1 O).2;simpa using this.symm
     subst hj
     rw [J,oE,(ha.cell hi).2];rfl
  ·obtain ⟨j,hj,rfl⟩:=oQ.1 I
   exact ⟨⟨hg.cell j,(ha.cell (by simpa using hj)).1⟩,trivial,by simp [PV.refs]⟩
  ·rw [J]
   intro y hy
   obtain ⟨u,hu,rfl⟩:=oQ.1 hy
   obtain ⟨cs,rfl,_,hc⟩:=ha
   exact xH (hc u hu)
 case lit x=>subst h;exact one _ U rfl
 all_goals (subst h;exact one _ (by simp [PV.isC]) rfl)
theorem wq {t:TypeId} {cs:List PV} (h:zBF P t=some cs):∃ i z,P.info? t=some i/\i.zero=some z/\(∀ (w:World) (e:Env),CellsAre e z.cells.toList cs) /\
  (∀ (w:World) (live:Nat->Prop),∀ p∈cs,p.Ok w live/\p.isC/\p.refs=[])/\∀ x∈z.cells.toList,x.oneCell'=true:=by
 unfold zBF at h
 cases hi:P.info? t with
 | none=>simp [hi] at h
 | some i=>
   cases U:i.zero with
   | none=>simp [hi,U] at h
   | some z=>
     simp only [hi,U,mq] at h
     split at h
     ·rename_i I
      rw [oZ] at I
      simp at h;subst h
      refine ⟨i,z,rfl,U,λw e=>?_,λw live=>?_,I⟩
      ·have Y:=rC (zsh P 8 t) (z.cells.toList.map vO) w (λ_=>False) e (PV.OkL_iff.2 λp J=>by obtain ⟨v,_,rfl⟩:=oQ.1 J;exact (zh v w _ e).1)
       obtain ⟨_,_,hc,_⟩:=Y
       rw [PV.cvs_eq,PV.cvs_eq,mH] at hc
       have aa:(z.cells.toList.map (PV.cv e∘vO))=z.cells.toList:=by
        conv=>rhs;rw [<-List.map_id z.cells.toList]
        exact o6 λv hv=>((zh v w (λ_=>False) e).2.2.2 (I v hv)).1
       rw [aa] at hc
       have hl:=mC List.length hc
       refine ⟨by simpa using hl.symm,λi p J=>.inr ?_⟩
       rw [<-hc,oE,J];rfl
      ·have Y:=rC (zsh P 8 t) (z.cells.toList.map vO) w live [] (PV.OkL_iff.2 λp J=>by obtain ⟨v,_,rfl⟩:=oQ.1 J;exact (zh v w _ []).1)
       obtain ⟨h1,h2,_,h4⟩:=Y
       rw [PV.OkL_iff] at h1
       intro p J
       refine ⟨h1 p J,h4 (λq hq=>by obtain ⟨v,hv,rfl⟩:=oQ.1 hq;exact ((zh v w live []).2.2.2 (I v hv)).2) p J,?_⟩
       refine nM.2 λk O=>?_
       have:k∈PV.refsL (z.cells.toList.map vO):=h2 ▸ PV.refsL_mem.2 ⟨p,J,O⟩
       obtain ⟨q,hq,O⟩:=PV.refsL_mem.1 this
       obtain ⟨v,_,rfl⟩:=oQ.1 hq
       rw [(zh v w live []).2.1] at O
       simp at O
     ·cases h
theorem wu {t:TypeId} {i:TypeInfo} {z:Value} (hi:P.info? t=some i) (I:i.zero=some z):(zeroValue t).run P w=.ok z w:=by
 simp [zeroValue,typeInfo,hi,I]
theorem zF7 {fs:List Field} {I:List (Nat × Nat)} (h:qq P fs=some I) :
  (fs.mapM λf=>do pure (f.offset,<-sizeOf f.type):Sem (List (Nat × Nat))).run P w=.ok I w:=by
 induction fs generalizing I with
 | nil=>simp [qq] at h;subst h;rfl
 | cons f fs J=>
   simp only [qq] at h
   split at h
   ·rename_i z l O U
    simp at h;subst h
    rw [List.mapM_cons]
    simp only [Sem.run_bind,we O,J U,Sem.run_pure,Result.andThen_ok]
   ·cases h
theorem zIL {pl:List (Nat × Nat)} {cs cs':List PV} {parts:List (Nat × PV)} {vs:List (Nat × Value)} {cells:Array Value} (h:zGd pl cs parts=some cs') (hc:CellsAre e cells.toList cs)
  (J:zAI av w e pB bx cs) (hp:parts.length=vs.length) (hv:∀ (j:Nat) i p,parts[j]?=some (i,p)->∃ v,vs[j]?=some (i,v)/\ValOk av w e pB bx v p) :
  ∃ I,Instr.fill (pl.toArray[·]?) cells vs=some I/\CellsAre e I.toList cs'/\zAI av w e pB bx cs':=by
 induction parts generalizing cs vs cells with
 | nil=>
   simp at hp
   have ah:vs=[]:=List.length_eq_zero_iff.1 hp.symm
   subst ah
   simp [zGd] at h;subst h
   exact ⟨cells,rfl,hc,J⟩
 | cons x parts ih=>
   obtain ⟨i,p⟩:=x
   cases vs with
   | nil=>simp at hp
   | cons y vs=>
     obtain ⟨v,U,Y⟩:=hv 0 i p rfl
     simp at U;subst U
     simp only [zGd] at h
     split at h
     ·rename_i off n ps h1 h2
      split at h
      ·rename_i ai
       obtain ⟨a1,a2,a3⟩:=xy h2 Y
       have aa:=a1.1
       have aj:=hc.1
       have ab:tL off ps cs=cs.take off++ps++cs.drop (off+ps.length):=rfl
       have O:=zJB (place:=(pl.toArray[·]?)) (cells:=cells) (i:=i) (off:=off) (n:=n) (v:=v) (rest:=vs) (by simpa using h1) (by simp at aa;omega) (by simp at aj;omega)
       have ac:CellsAre e (cells.toList.take off++v.cells.toList++cells.toList.drop (off+n)) (tL off ps cs):=by
        rw [ab,ai.1]
        exact ((hc.take off).append a1).append (hc.drop _)
       have ae:zAI av w e pB bx (tL off ps cs):=by
        rw [ab]
        intro q hq
        rcases oJ.1 hq with hq | hq
        ·rcases oJ.1 hq with hq | hq
         ·exact J q (oh hq)
         ·exact ⟨(a2 q hq).1,.inr (a2 q hq).2.1,(a2 q hq).2.2⟩
        ·exact J q (ou hq)
       obtain ⟨I,b1,b2,b3⟩:=ih h (cells:=(cells.toList.take off++v.cells.toList++cells.toList.drop (off+n)).toArray) (vs:=vs) (by simpa using ac) ae (by simpa using hp)
        (λj i p hj=>hv (j+1) i p (by simpa using hj))
       exact ⟨I,by rw [O];exact b1,b2,b3⟩
      ·cases h
     ·cases h
theorem zE5 {ρ:Operand->PV} {t:TypeId} {parts:Array (Nat × Operand)} {R:PV->Prop} (ho:∀ x∈(Op.build t parts).operands,OpdOk av a w e pB bx x (ρ x)) (h:zAp P ρ t parts.toList R) :
  ∃ v p,(Instr.build t (parts.map fun (i,x)=>(i,a.eval x))).run P w=.ok v w/\R p/\ValOk av w e pB bx v p:=by
 unfold zAp at h
 split at h
 ·rename_i fs cs hu hz
  split at h
  ·rename_i pl hpl
   split at h
   ·rename_i cs' hfill
    obtain ⟨i,z,hi,hz',hcells,hok,_⟩:=wq hz
    have hpl':=zF7 (w:=w) hpl
    obtain ⟨cells',b1,b2,b3⟩:=zIL (w:=w) (e:=e) (pB:=pB) (bx:=bx) (cells:=z.cells) (vs:=parts.toList.map fun (i,x)=>(i,a.eval x)) hfill (hcells w e)
     (fun p hp=>⟨(hok w _ p hp).1,.inr (hok w (fun _=>False) p hp).2.1,by rw [(hok w (zT av pB e bx) p hp).2.2];simp⟩) (by simp)
     (fun j i p hj=>by
      rw [oE] at hj
      cases hx:parts.toList[j]? with
      | none=>simp [hx] at hj
      | some y=>
        rw [hx] at hj
        simp at hj
        obtain ⟨rfl,rfl⟩:=hj
        have hmem:=oB hx
        refine ⟨a.eval y.2,by rw [oE,hx];rfl,(ho y.2 ?_).valOk⟩
        simp only [Op.operands]
        simp
        exact ⟨y.1,om.1 (by simpa using hmem)⟩)
    obtain ⟨q,hq,hvq⟩:=zCv (w:=w) (e:=e) (pB:=pB) (bx:=bx) (vs:=cells'.toList) b2.1.symm b2.2 b3 h
    refine ⟨_,q,?_,hq,by simpa using hvq⟩
    have hm:(fs.mapM (fun f=>do pure (f.offset,<-sizeOf f.type)):Sem (Array (Nat × Nat))).run P w=.ok pl.toArray w:=by
     rw [Array.mapM_eq_mapM_toList]
     simp only [Sem.run_map,hpl',Result.andThen_ok]
    have hparts:(parts.map fun (i,x)=>(i,a.eval x)).toList=parts.toList.map fun (i,x)=>(i,a.eval x):=by simp
    unfold Instr.build
    simp only [Sem.run_bind,wu hi hz',Result.andThen_ok,run_underlying hu,hm,hparts,b1,Sem.run_pure]
   ·exact h.elim
  ·exact h.elim
 ·exact h.elim
/-- what a new box is good for -/
structure NewBox (av:Nat->Prop) (w:World) (e:Env) (pB:List Nat) (bx:List Bx) (v:Value) (w':World) (B:Bx) (f:Nat->PV):Prop where
 val:∀ (k:Nat) (e':Env),e'.at k=some w.heap.size->v=(f k).val e'
 fr:∀ k,(f k).refs=[k]
 fok:∀ (k:Nat) (w:World) (live:Nat->Prop),(f k).Ok w live
 rel:∀ e':Env,(∀ k∈B.refs,e'.at k=e.at k)->B.Rel w' e' (some w.heap.size)
 ok:B.Ok w (zT av pB e bx)
 rf:∀ k∈B.refs,k∉pB/\k<bx.length
 ng:B≠.gone
theorem zIH {cs:List PV} {c:Array Value} {t:TypeId} {o:Obj} (hc:CellsAre e c.toList cs):∀ e':Env,(∀ k∈(Bx.var cs).refs,e'.at k=e.at k)->(Bx.var cs).Rel (w.alloc (.cells c t)) e' (some w.heap.size):=by
 intro e' J
 refine ⟨w.heap.size,c,t,rfl,heap_alloc_new w _,by have:=hc.1;simpa using this,λi p I=>?_⟩
 rcases hc.2 i p I with h | h
 ·exact .inl h
 ·refine .inr ?_
  rw [PV.cv_congr p λk O=>J k (by simp only [Bx.refs];exact PV.refsL_mem.2 ⟨p,oB I,O⟩)]
  simpa using h
theorem rL {B:Bx} {w':World} (rel:∀ e':Env,(∀ k∈B.refs,e'.at k=e.at k)->B.Rel w' e' (some w.heap.size)) (ok:B.Ok w (zT av pB e bx))
  (rf:∀ k∈B.refs,k∉pB/\k<bx.length) (ng:B≠.gone):NewBox av w e pB bx (.pointer (some ⟨w.heap.size,0,none⟩)) w' B (λk=>.pb k 0 0 0):=
 ⟨λk e' h=>by simp [PV.val,PV.val1,PV.cv,h],λ_=>rfl,λ_ _ _=>trivial,rel,ok,rf,ng⟩
theorem zEV {w':World} {t:TypeId} {z n m:Nat} {es:List D} {c:Array Value} (O:w'.heap[w.heap.size]?=some (.cells c t (0,0))) (hc:c.size=m*ez z) (hn:es.length=n) (U:n<=m) (Y:m<=maxLen)
   (I:∀ x∈es,eOk z x/\Good w (zT av pB e bx) x) (hf:∀ (i:Nat) (u:D),(z9 es)[i]?=some u->c[i]?=some u.cv) :
   NewBox av w e pB bx (.slice (some ⟨w.heap.size,0,none⟩) n m) w' (.arr t z es m) (λk=>.sb k z 0 n m):=
 ⟨λk e' h=>by simp [PV.val,PV.val1,PV.cv,h],λ_=>rfl,λ_ _ _=>trivial,
  λe' _=>.inr ⟨w.heap.size,c,rfl,O,Nat.le_of_eq hc.symm,by omega,Y,λx J=>(I x J).1,hf⟩,λx J=>(I x J).2,by simp [Bx.refs],by simp⟩
theorem zAM {z:Nat} {d:D} (h:eOk z d):d.val.cells.toList=d.cells.map D.cv:=by
 unfold eOk at h
 split at h
 ·cases d with
  | ag cs=>exact h.elim
  | lit x=>
    simp [D.isCell] at h
    cases x<;>simp [Value.oneCell'] at h<;>rfl
  | sl a z es cap=>rfl
  | pt ad z x=>rfl
  | fn f caps=>rfl
  | mp b es c=>rfl
 ·obtain ⟨cs,rfl,_,_⟩:=h
  simp [D.val,D.cells,Value.cells]
theorem zJR {z:Nat}:∀ (ds:List D) (k:Nat) (cells:Array Value),(∀ d∈ds,eOk z d)->(k+ds.length)*ez z<=cells.size ->
  ∃ I,Instr.fill (λi=>some (i*ez z,ez z)) cells ((ds.map D.val).zipIdx k |>.map λx=>(x.2,x.1))=some I /\
    I.toList=cells.toList.take (k*ez z)++(z9 ds).map D.cv++cells.toList.drop ((k+ds.length)*ez z)
 | [],k,cells,_,_=>⟨cells,rfl,by simp [z9]⟩
 | d::ds,k,cells,h,U=>by
   have hd:=h d (by simp)
   have aa:d.val.cells.size=ez z:=by
    rw [<-nU,zAM hd,oV,yc hd]
   have Y:k*ez z+ez z<=cells.size:=by
    simp only [oO] at U
    have:(k+1)*ez z<=(k+(ds.length+1))*ez z:=oe _ (by omega)
    rw [o8,mb] at this
    omega
   have h1:=zJB (place:=λi=>some (i*ez z,ez z)) (cells:=cells) (i:=k) (off:=k*ez z) (n:=ez z) (v:=d.val)
    (rest:=(ds.map D.val).zipIdx (k+1) |>.map λx=>(x.2,x.1)) rfl aa Y
   obtain ⟨I,h2,h3⟩:=zJR ds (k+1) (cells.toList.take (k*ez z)++d.val.cells.toList++cells.toList.drop (k*ez z+ez z)).toArray (λx hx=>h x (by simp [hx]))
    (by simp only [oO] at U;rw [show k+1+ds.length=k+(ds.length+1) by omega];simp;omega)
   refine ⟨I,by simpa using h1.trans h2,?_⟩
   rw [h3]
   simp only [List.toList_toArray,vn,nc,zAM hd]
   have e1:(k+1)*ez z=k*ez z+ez z:=by rw [o8,mb]
   have J:(cells.toList.take (k*ez z)).length=k*ez z:=by simp;omega
   have O:(d.cells.map D.cv).length=ez z:=by simp [yc hd]
   have ht:(cells.toList.take (k*ez z)++d.cells.map D.cv++cells.toList.drop (k*ez z+ez z)).take ((k+1)*ez z)=cells.toList.take (k*ez z)++d.cells.map D.cv:=by
    rw [List.take_append_of_le_length (by simp only [oI,J,O];omega),oi (by simp only [oI,J,O];omega)]
   have ab:(cells.toList.take (k*ez z)++d.cells.map D.cv++cells.toList.drop (k*ez z+ez z)).drop ((k+1+ds.length)*ez z)=cells.toList.drop ((k+(d::ds).length)*ez z):=by
    have e2:(k+1+ds.length)*ez z=k*ez z+ez z+ds.length*ez z:=by rw [o8,e1]
    rw [List.drop_append,md (by simp only [oI,J,O];omega),oc,List.drop_drop]
    simp only [oI,J,O]
    congr 1
    simp only [oO]
    rw [show k+(ds.length+1)=k+1+ds.length by omega,e2]
    omega
   rw [ht,ab]
   simp
theorem zDR {z:Nat} {ρ:Operand->PV}:∀ (parts:List (Nat × Operand)) (k:Nat) (ds:List D),qL z ρ k parts=some ds->(∀ x∈parts,OpdOk av a w e pB bx x.2 (ρ x.2)) ->
  (∀ d∈ds,eOk z d/\Good w (zT av pB e bx) d)/\(parts.map λ(i,x)=>(i,a.eval x))=((ds.map D.val).zipIdx k |>.map λx=>(x.2,x.1))
 | [],k,ds,h,_=>by simp [qL] at h;subst h;simp
 | (i,x)::rest,k,ds,h,Y=>by
   simp only [qL] at h
   split at h
   ·rename_i I
    subst I
    split at h
    ·rename_i d J O h2
     simp at h;subst h
     have hx:=Y (i,x) (by simp)
     obtain ⟨a1,a2,a3⟩:=zAY (e:=e) O hx.ok
     obtain ⟨b1,b2⟩:=zDR rest (i+1) J h2 (λy hy=>Y y (by simp [hy]))
     have U:ρ x≠.any:=λhh=>by rw [hh] at O;simp [zIP,rQ] at O
     have hv:=hx.h.resolve_left U
     refine ⟨λy hy=>?_,?_⟩
     ·rcases oF.1 hy with rfl | hy
      ·exact ⟨a2,a1⟩
      ·exact b1 y hy
     ·simp only [ol,List.zipIdx_cons,b2]
      rw [hv,a3]
    ·cases h
   ·cases h
theorem zJ1 {ρ:Operand->PV} {o:Oper} {R:Bx->(Nat->PV)->Prop} (ho:∀ x∈o.op.operands,OpdOk av a w e pB bx x (ρ x)) (h:zJT P ρ o.op R) :
  ∃ v c t B f,(execOp a.eval o).run P w=.ok (.value v) (w.alloc (.cells c t))/\R B f/\NewBox av w e pB bx v (w.alloc (.cells c t)) B f:=by
 obtain ⟨dst,op,ty,pos,after,guard⟩:=o
 simp only at ho h ⊢
 cases op<;>simp only [zJT] at h<;>try exact h.elim
 case alloc t=>
  split at h
  ·rename_i cs hz
   obtain ⟨i,z,hi,bp,U,O,_⟩:=wq hz
   refine ⟨_,z.cells,t,_,_,?_,h,rL (zIH (o:=.cells z.cells t) (U w e)) ⟨PV.OkL_iff.2 λp J=>(O w _ p J).1,λp J=>.inr (O w (λ_=>False) p J).2.1⟩ ?_ (by simp)⟩
   ·simp only [execOp,Instr.alloc,Sem.run_bind,wu hi bp,Result.andThen_ok,newVar,newRow,newObj,Sem.run,Sem.run_pure]
    rfl
   ·intro k hk
    simp only [Bx.refs] at hk
    obtain ⟨p,J,hk⟩:=PV.refsL_mem.1 hk
    rw [(O w (λ_=>False) p J).2.2] at hk
    simp at hk
  ·exact h.elim
 case box t x=>
  have hx:=ho x (by simp [Op.operands])
  have ab:∀ v,a.eval x=v->(execOp a.eval { dst:=dst,op:=Op.box t x,type:=ty,pos:=pos,after:=after,guard:=guard }).run P w=.ok (.value (.pointer (some ⟨w.heap.size,0,none⟩))) (w.alloc (.cells v.cells t)):=λv hv=>by
   simp only [execOp,Instr.box,Sem.run_bind,hv,newVar,newRow,newObj,Sem.run,Sem.run_pure,Result.andThen_ok]
   rfl
  have one:∀ q:PV,q=retag P t (ρ x)->q.isC->(∃ cs,sd (ρ x)=some cs/\cs.length=1/\∀ c∈cs,c=ρ x)->R (.var [q]) (λk=>.pb k 0 0 0) ->
    ∃ v c t' B f,(execOp a.eval { dst:=dst,op:=Op.box t x,type:=ty,pos:=pos,after:=after,guard:=guard }).run P w=.ok (.value v) (w.alloc (.cells c t'))/\R B f/\NewBox av w e pB bx v (w.alloc (.cells c t')) B f:=λq hq al ah hR=>by
   obtain ⟨cs,ac,hl,ae⟩:=ah
   have am:=hx.valOk
   obtain ⟨a1,a2,a3⟩:=xy ac am
   match cs,hl with
   | [c0],_=>
     have ao:=ae c0 (by simp)
     subst ao
     obtain ⟨r1,r2,r3,r4⟩:=zCE (P:=P) t (ρ x) w (zT av pB e bx) e hx.ok
     have ca:q.isC:=al
     refine ⟨_,_,t,_,_,ab _ rfl,hR,rL (zIH (o:=.cells (a.eval x).cells t) (e:=e) (cs:=[q]) ?_) ⟨⟨by rw [hq];exact r1,trivial⟩,λp J=>.inr (by simp at J;rw [J];exact al)⟩ ?_ (by simp)⟩
     ·refine ⟨a1.1,λi p J=>?_⟩
      cases i with
      | succ i=>simp at J
      | zero=>
        simp at J;subst J
        rcases a1.2 0 (ρ x) rfl with h | h
        ·left;rw [hq];exact r4.2 h
        ·right
         rw [h,<-PV.val_isC al,hq,r3,PV.val_isC (a2 _ (by simp)).2.1]
     ·intro k hk
      simp only [Bx.refs,PV.refsL,nO] at hk
      rw [hq,r2] at hk
      exact hx.rf k hk
  have aw:∀ p:PV,p.isC->(retag P t p).isC:=λp J=>by
   cases p<;>simp [PV.isC] at J<;>simp only [retag,wy]<;>try trivial
   ·split
    ·split<;>trivial
    ·trivial
  split at h
  ·rename_i cs hρ
   have am:=hx.valOk
   obtain ⟨a1,a2,a3⟩:=xy (ps:=cs) (by rw [hρ];rfl) am
   exact ⟨_,_,t,_,_,ab _ rfl,h,rL (zIH (o:=.cells (a.eval x).cells t) a1) ⟨PV.OkL_iff.2 λp J=>(a2 p J).1,λp J=>.inr (a2 p J).2.1⟩
    (λk hk=>by simp only [Bx.refs] at hk;obtain ⟨p,J,hk⟩:=PV.refsL_mem.1 hk;exact (a2 p J).2.2 k hk) (by simp)⟩
  ·rename_i n y hρ
   have hv:=hx.h.resolve_left (by rw [hρ];simp)
   have O:=hx.ok
   rw [hρ] at hv O
   simp only [PV.Ok] at O
   obtain ⟨hg,ha⟩:=O
   have ax:(a.eval x).cells.toList=y.cells.map D.cv:=by rw [hv];simp only [PV.val,PV.val1,ha.val,Value.cells]
   have ai:(a.eval x).cells.size=n:=by rw [<-nU,ax,oV,ha.length]
   refine ⟨_,_,t,_,_,ab _ rfl,h,rL (λe' _=>⟨w.heap.size,_,t,rfl,heap_alloc_new w _,ai,ha,λi u hu=>?_⟩) hg (by simp [Bx.refs]) (by simp)⟩
   rw [<-nS,ax,oE,hu];rfl
  ·exact h.elim
  ·exact h.elim
  ·exact h.elim
  ·rename_i p h1 h2 h3 h4 h5
   have ah:∃ cs,sd (ρ x)=some cs/\cs.length=1/\∀ c∈cs,c=ρ x:=by
    cases J:ρ x<;>simp [J] at h1 h2 h3 h4 h5<;>exact ⟨_,rfl,rfl,by simp⟩
   have ay:(ρ x).isC:=by
    obtain ⟨cs,ac,hl,ae⟩:=ah
    obtain ⟨_,a2,_⟩:=xy ac hx.valOk
    match cs,hl with
    | [c0],_=>have:=a2 c0 (by simp);rw [ae c0 (by simp)] at this;exact this.2.1
   exact one _ rfl (aw _ ay) ah h
 case buildSlice t n parts=>
  split at h
  ·rename_i el hu
   split at h
   ·rename_i z hz
    split at h
    ·rename_i es aj
     split at h
     ·rename_i hc
      obtain ⟨hl,b9,bq⟩:=hc
      obtain ⟨cc,az⟩:=Option.isSome_iff_exists.1 bq
      obtain ⟨i3,zv,bt,aq,_⟩:=wq az
      obtain ⟨i,hi,ai⟩:=zAV hz
      obtain ⟨b1,b2⟩:=zDR (w:=w) (e:=e) (pB:=pB) (bx:=bx) (a:=a) parts.toList 0 es aj (λy hy=>ho y.2 (by
       simp only [Op.operands]
       simp
       exact ⟨y.1,om.1 (by simpa using hy)⟩))
      have a4:n<=maxLen:=by
       have:=zA2 z
       have:n*1<=n*ez z:=mY n this
       unfold maxLen;omega
      have aa:(parts.map λ(i,x)=>(i,a.eval x)).toList=parts.toList.map λ(i,x)=>(i,a.eval x):=by simp
      have ak:¬(n*ez z>2 ^ 24):=by omega
      have a5:∀ zc:Array Value,∃ I,Instr.fill (λi=>some (i*ez z,ez z)) ((Array.range (n*ez z)).map (zc[· % zc.size]!)) ((es.map D.val).zipIdx |>.map λx=>(x.2,x.1))=some I/\I.toList=(z9 es).map D.cv:=λzc=>by
       obtain ⟨I,f1,f2⟩:=zJR es 0 ((Array.range (n*ez z)).map (zc[· % zc.size]!)) (λd hd=>(b1 d hd).1) (by simp [hl])
       refine ⟨I,f1,?_⟩
       rw [f2]
       simp only [mo,mn,oc,nJ,hl]
       rw [md (by simp),nO]
      have a6:=zQ (λd hd=>(b1 d hd).1)
      have fin:∀ I:Array Value,I.toList=(z9 es).map D.cv->NewBox av w e pB bx (.slice (some ⟨w.heap.size,0,none⟩) n n) (w.alloc (.cells I el)) (.arr el z es n) (λk=>.sb k z 0 n n):=λI a7=>
       zEV (heap_alloc_new w _) (by rw [<-nU,a7,oV,a6,hl]) hl (oD n) a4 b1 (λi u hu=>by rw [<-nS,a7,oE,hu];rfl)
      by_cases a8:n*ez z=0
      ·obtain ⟨I,f1,f2⟩:=a5 #[]
       refine ⟨_,I,el,_,_,?_,h,fin I f2⟩
       simp only [execOp,Instr.buildSlice,Sem.run_bind,run_underlying hu,Result.andThen_ok,we hz,if_neg ak,if_pos a8,aa,b2,f1,Sem.run_pure,newRow,newObj,Sem.run]
       rfl
      ·obtain ⟨I,f1,f2⟩:=a5 zv.cells
       refine ⟨_,I,el,_,_,?_,h,fin I f2⟩
       simp only [execOp,Instr.buildSlice,Sem.run_bind,run_underlying hu,Result.andThen_ok,we hz,if_neg ak,if_neg a8,wu bt aq,aa,b2,f1,Sem.run_pure,newRow,newObj,Sem.run]
       rfl
     ·exact h.elim
    ·exact h.elim
   ·exact h.elim
  ·exact h.elim
 case makeSlice t l c=>
  split at h
  ·rename_i el hu
   split at h
   ·rename_i z i hz hi
    split at h
    ·rename_i zd Y
     obtain ⟨k1,n,h',hn⟩:=ve (ho l (by simp [Op.operands])).valOk h
     obtain ⟨k2,m,bv,hm⟩:=ve (ho c (by simp [Op.operands])).valOk h'
     obtain ⟨⟨g1,g2,g3,g4⟩,a9⟩:=bv
     obtain ⟨i',ba,ai⟩:=zAV hz
     have:i'=i:=by rw [hi] at ba;exact (oW ba).symm
     subst this
     unfold zKD at Y
     split at Y
     ·rename_i cs ac
      obtain ⟨i2,zv,bb,aq,U,O,_⟩:=wq ac
      have:i2=i':=by rw [hi] at bb;exact (oW bb).symm
      subst this
      have bw:eOk z zd/\Good w (zT av pB e bx) zd/\zd.cells.map D.cv=zv.cells.toList:=by
       split at Y
       ·rename_i bz
        subst bz
        split at Y
        ·rename_i p
         obtain ⟨q1,q2,q3,q4,_⟩:=xI (w:=w) (e:=e) Y (O w (zT av pB e bx) p (by simp)).1
         refine ⟨by simpa [eOk] using q2,q1,?_⟩
         have ao:zd.cells=[zd]:=by cases zd<;>simp [D.isCell,D.cells] at q2 ⊢
         rw [ao,ol,lA,q3]
         have:=U w e
         have h0:=this.2 0 p rfl
         have b3:p≠.any:=λhh=>by subst hh;exact q4
         have h0:=h0.resolve_left b3
         have b4:zv.cells.toList.length=1:=this.1
         match au:zv.cells.toList,b4 with
         | [v0],_=>rw [au] at h0;simp at h0;rw [h0]
        ·cases Y
       ·obtain ⟨q1,q2,q3⟩:=zAY (w:=w) (e:=e) (live:=zT av pB e bx) Y ⟨PV.OkL_iff.2 λp J=>(O w _ p J).1,λp J=>(O w (λ_=>False) p J).2.1⟩
        refine ⟨q2,q1,?_⟩
        have bc:=zAM q2
        rw [q3] at bc
        rw [<-bc]
        have hc:=U w e
        rw [show (PV.val e (.pg cs)).cells.toList=cs.map (PV.cv e) from by simp [PV.val,PV.val1,Value.cells,PV.cvs_eq]]
        apply nD
        intro j
        rw [oE]
        cases hj:cs[j]? with
        | none=>
          have hl:=hc.1
          simp at hj
          rw [oT (by omega)];rfl
        | some p=>
          have J:=oB hj
          have:=(hc.2 j p hj).resolve_left (λhh=>by have:=(O w (λ_=>False) p J).2.1;rw [hh] at this;exact this)
          rw [this];rfl
      obtain ⟨z1,z2,z3⟩:=bw
      have hr:=run_make (P:=P) w t el i2 zv hu hi aq k1 k2 n m g1 g2 (by omega) g4
      have bg:m.toNat*i2.size=m.toNat*ez z:=by rw [ai]
      refine ⟨_,madeCells zv.cells (m.toNat*i2.size),el,_,_,by simp only [execOp,Sem.run_bind,hn,hm,hr,Result.andThen_ok,Sem.run_pure],a9,zEV (heap_alloc_new w _) (by rw [size_madeCells,bg]) (by simp) (by omega) (by unfold maxLen;omega)
       (λx hx=>by rw [(List.mem_replicate.1 hx).2];exact ⟨z1,z2⟩) (λj u hj=>?_)⟩
      have aj:∀ x∈List.replicate n.toNat zd,eOk z x:=λx hx=>by rw [(List.mem_replicate.1 hx).2];exact z1
      have bh:j<n.toNat*ez z:=by
       have:=(oC.1 hj).1
       rw [zQ aj,mF] at this;exact this
      have J:=zA2 z
      have hq:j / ez z<n.toNat:=by
       rw [Nat.div_lt_iff_lt_mul J];exact bh
      have hr:j % ez z<ez z:=Nat.mod_lt _ J
      have au:=yc z1
      have bi:zd.cells[j % ez z]?=some (zd.cells[j % ez z]'(by omega)):=oH (by omega)
      have bj:=rX aj (j:=j / ez z) (e:=zd) (by rw [mZ];simp [hq]) bi
      have b5:j / ez z*ez z+j % ez z=j:=by rw [Nat.mul_comm];exact Nat.div_add_mod j (ez z)
      rw [b5,hj] at bj
      have b6:=oW bj
      have bm:zv.cells.size=ez z:=by rw [<-nU,<-z3,oV,au]
      have b7:j<m.toNat*i2.size:=by rw [bg];exact o7 bh (oe _ (by omega))
      unfold madeCells
      rw [Array.getElem?_map,Array.getElem?_range]
      simp only [b7,mV,ob,bm]
      congr 1
      have b8:zv.cells[j % ez z]?=some u.cv:=by
       rw [<-nS,<-z3,oE,bi,b6];rfl
      rw [getElem!_def,b8]
     ·cases Y
    ·exact h.elim
   ·exact h.elim
  ·exact h.elim
end Go.Proofs.YtnmnahkkcfghjaaGreat
