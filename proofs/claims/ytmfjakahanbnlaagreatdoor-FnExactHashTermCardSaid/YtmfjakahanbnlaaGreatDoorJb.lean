/- The model's value operations do what 'nevV' says. -/
import Derived.Test.YtmfjakahanbnlaaGreatDoorJa
import Derived.Laws.BytesString
set_option linter.unusedVariables false
set_option linter.unusedSimpArgs false
namespace Go.Proofs.YtmfjakahanbnlaaGreatDoor
open Go
variable {av:Nat->Prop} {P:Program} {w:World} {e:Env} {pB:List Nat} {bx:List Bx} {a:Act}
theorem sP {t:TypeId} {f o z:Nat} (h:uQ P t f=some (o,z)):∃ fs fd,P.underlying t=some (.struct fs)/\fs[f]?=some fd/\kz P fd.type=some z/\fd.offset=o:=by
 unfold uQ at h
 split at h
 ·rename_i fs hu
  split at h
  ·rename_i fd hf
   split at h
   ·rename_i z' hz
    simp at h
    exact ⟨fs,fd,hu,hf,by rw [hz,h.2],h.1⟩
   ·cases h
  ·cases h
 ·cases h
theorem Good.slice {live:Nat->Prop} {ad:Option Addr} {z:Nat} {es:List D} {cap l h:Nat} (hg:Good w live (.sl ad z es cap)) (hlh:l<=h) (hh:h<=es.length) :
  Good w live (.sl (if (cap:Int)=(l:Int) then ad else ad.map (·.add (l*ez z))) z ((es.take h).drop l) (cap - l)):=by
 obtain ⟨h1,h2⟩:=hg
 cases h1 with
 | nil=>
   simp at hh
   have:l=0:=by omega
   subst this;subst hh
   refine ⟨?_,by simp [D.foot,zM]⟩
   simp
   exact .nil
 | @sl ad z es cap h3 h4 h5 h6 h7=>
   have hsub:∀ x∈(es.take h).drop l,x∈es:=fun x hx=>oV (oi hx)
   have hlen:((es.take h).drop l).length=h - l:=by simp;omega
   by_cases hes0:es=[]
   ·subst hes0
    have h0:l=0:=by simp at hh;omega
    subst h0
    simp only [List.take_nil,List.drop_nil,mR,Nat.sub_zero]
    have:(if (cap:Int)=((0:Nat):Int) then some ad else (some ad).map (·.add 0))=some ad:=by split<;>simp [Addr.add]
    rw [this]
    exact ⟨.sl (by simp) (by simp) (by simp) (by simp) (.inl rfl),by simp [D.foot]⟩
   have h3:=h3 hes0
   have hadd:((some ad).map (·.add (l*ez z)):Option Addr)=some ⟨ad.block,ad.off+l*ez z,none⟩:=by
    obtain ⟨b,o,s⟩:=ad;simp at h3;subst h3;simp [yL]
   by_cases hcl:(cap:Int)=(l:Int)
   ·have:l=h:=by omega
    subst this
    have he:(es.take l).drop l=[]:=by simp [List.drop_take]
    rw [if_pos hcl,he]
    exact ⟨.sl (by simp) (by simp) (by simp) (by simp) (.inl rfl),by simp [D.foot]⟩
   ·rw [if_neg hcl,hadd]
    refine ⟨.sl (fun _=>rfl) (by rw [hlen];omega) (fun x hx=>h5 x (hsub x hx)) (fun x hx=>h6 x (hsub x hx)) ?_,?_⟩
    ·rcases h7 with h7 | ⟨c,t,fz,h8,h9⟩
     ·left
      have hl:=zI h5
      rw [h7] at hl
      have hp:=rP z
      have:es.length=0:=by
       rcases mX es.length with h0 | h0
       ·exact h0
       ·have:=Nat.mul_pos h0 hp;simp at hl;omega
      have:es=[]:=nU.1 this
      subst this;simp [zg]
     ·right
      refine ⟨c,t,fz,h8,fun i u hu=>?_⟩
      have hfl:zg es=zg (es.take l)++zg ((es.take h).drop l)++zg (es.drop h):=by
       rw [<-yQ,<-yQ]
       congr 1
       have e1:es.take l=(es.take h).take l:=by rw [List.take_take,Nat.min_eq_left hlh]
       rw [e1,nR,nR]
      have hll:(zg (es.take l)).length=l*ez z:=by
       rw [zI (z:=z) (fun x hx=>h5 x (oV hx))];simp;rw [Nat.min_eq_left (by omega)]
      have:(zg es)[l*ez z+i]?=some u:=by
       have hlt:i<(zg ((es.take h).drop l)).length:=(oB.1 hu).1
       rw [hfl,oK (by rw [oH,hll];omega),oM (by omega),hll]
       rw [show l*ez z+i - l*ez z=i by omega];exact hu
      have:=h9 _ _ this
      rw [<-mO] at this
      exact this
    ·intro b hb
     apply h2
     by_cases he:es=[]
     ·subst he;simp [D.foot,zM] at hb
     ·simp only [D.foot] at hb ⊢
      split at hb
      ·simp at hb
      ·rw [if_neg (by simpa using he)]
       rcases oI.1 hb with h10 | h10
       ·exact oI.2 (.inl h10)
       ·refine oI.2 (.inr ?_)
        obtain ⟨x,hx,hbx⟩:=zD.1 h10
        exact zD.2 ⟨x,hsub x hx,hbx⟩
theorem zIM {ad:Option Addr} {z:Nat} {es:List D} {cap:Nat} (h:Good w (zJ av pB e bx) (.sl ad z es cap)):ValOk av w e pB bx (.slice ad es.length cap) (.sv ad z es cap):=
 ⟨.inr rfl,h,by simp [PV.refs]⟩
theorem wB {ov:Option Operand} {ρ:Operand->PV} {d:Int} {R:Int->Prop} (ho:∀ x,ov=some x->ValOk av w e pB bx (a.eval x) (ρ x)) (h:zHk (ov.map ρ) d R) :
  ∃ n,R n/\((ov=none/\n=d)\/∃ x k,ov=some x/\a.eval x=.int k n):=by
 cases ov with
 | none=>exact ⟨d,h,.inl ⟨rfl,rfl⟩⟩
 | some x=>
   obtain ⟨k,n,h1,h2⟩:=x3 (ho x rfl) h
   exact ⟨n,h1,.inr ⟨x,k,rfl,h2⟩⟩
theorem zG {k:IntKind} {n:Int} {y:Nat} {c:BoundsCode} (h0:0<=n) (h1:n<=y):(Instr.sliceBound (.int k n) y c).run P w=.ok n.toNat w:=by
 simp [Instr.sliceBound,asIntOf,h0,h1]
theorem zA3 (w:World) (ad:Addr) (c:Nat) (ns:List Int) (h:∀ (j:Nat) (v:Value),((ns.map fun n=>D.lit (.int .u8 n)).map D.cv)[j]?=some v->w.cell? (ad.add j)=some v) :
  (Conv.bytesToString (.slice (some ad) ns.length c)).run P w=.ok (.string (bytesOf ns)) w:=by
 refine run_bytesToString w ad ns.length c ns ?_
 have:=run_loadCells_list (P:=P) w ad (ns.map (Value.int .u8)) fun j v hj=>h j v (by
  rw [nc]
  exact hj)
 simpa using this
theorem zFv (ns:List Int):zg (ns.map fun n=>D.lit (.int .u8 n))=ns.map fun n=>D.lit (.int .u8 n):=by
 induction ns with
 | nil=>rfl
 | cons n ns ih=>rw [oq,xk,ih];rfl
theorem pE {w:World} {ad:Addr} (hs:ad.spot=none) {c:Array Value} {t:TypeId} {fz:Nat × Nat} (h:w.heap[ad.block]?=some (.cells c t fz)) (j:Nat):w.cell? (ad.add j)=c[ad.off+j]?:=by
 obtain ⟨b,o,s⟩:=ad
 simp only at hs h ⊢
 subst hs
 rw [yL]
 exact wm h
theorem zDZ {rb:Nat->Option Bx} (hm:Mem av pB w e bx) (hb:∀ k B,rb k=some B->bx[k]?=some B/\k∉pB) {v:Value} {p:PV} {R:PV->Prop} (hv:ValOk av w e pB bx v p) (h:qQ rb p R) :
  ∃ ns,(∃ (a:Option Addr) (n c:Nat),v=.slice a n c/\(Conv.bytesToString v).run P w=.ok (.string (bytesOf ns)) w)/\R (.str (bytesOf ns)):=by
 unfold qQ at h
 split at h
 ·rename_i a z es c
  split at h
  rotate_left
  ·exact h.elim
  obtain ⟨ns,hes,hR⟩:=h
  have hv1:v=.slice a es.length c:=hv.1.resolve_left (by simp)
  refine ⟨ns,⟨a,_,c,hv1,?_⟩,hR⟩
  have hg:=hv.2.1
  simp only [PV.Ok] at hg
  obtain ⟨hh,hft⟩:=hg
  clear hft
  rw [hv1]
  cases hh with
  | nil=>
    have:ns=[]:=by cases ns<;>simp at hes;rfl
    subst this
    simp [Conv.bytesToString,bytesOf]
  | sl h1 h2 h3 h4 h5=>
    rename_i ad
    have hlen:es.length=ns.length:=by rw [hes];simp
    rw [hlen]
    refine zA3 w ad c ns fun j u hj=>?_
    rw [hes,zFv] at h5
    rw [oE] at hj
    cases hf:(ns.map fun n=>D.lit (.int .u8 n))[j]? with
    | none=>rw [hf] at hj;simp at hj
    | some y=>
      rw [hf] at hj
      simp at hj;subst hj
      rcases h5 with h5 | ⟨cc,t,fz,h6,h7⟩
      ·rw [h5] at hf;simp at hf
      ·rw [pE (h1 fun h=>by rw [h] at hlen;have:ns=[]:=oX hlen.symm;rw [this] at hf;simp at hf) h6];exact h7 j y hf
 ·rename_i k z lo n c
  split at h
  rotate_left
  ·exact h.elim
  rename_i t z' es cb hk
  split at h
  rotate_left
  ·exact h.elim
  obtain ⟨hle,ns,hes,hR⟩:=h
  obtain ⟨hkb,hkp⟩:=hb k _ hk
  have hv1:=hv.1.resolve_left (by simp)
  have hlen:n=ns.length:=by have:=o9 List.length hes;simp at this;omega
  rcases hm.br k _ hkb hkp with ⟨h1,h2,h3⟩ | ⟨b,c',h1,h2,h3,h4,h5,h6,h7⟩
  ·subst h2
   have:ns=[]:=by cases ns<;>simp at hes;rfl
   subst this
   refine ⟨[],⟨none,n,c,by rw [hv1];simp [PV.val,PV.val1,PV.cv,h1],?_⟩,hR⟩
   rw [hv1]
   simp [PV.val,PV.val1,PV.cv,h1,Conv.bytesToString,bytesOf]
  ·refine ⟨ns,⟨some ⟨b,0,none⟩,n,c,by rw [hv1];simp [PV.val,PV.val1,PV.cv,h1],?_⟩,hR⟩
   rw [hv1]
   have hval:(PV.sb k 0 0 n c).val e=.slice (some ⟨b,0,none⟩) ns.length c:=by simp [PV.val,PV.val1,PV.cv,h1,hlen]
   rw [hval]
   refine zA3 w ⟨b,0,none⟩ c ns fun j u hj=>?_
   rw [oE] at hj
   cases hf:(ns.map fun n=>D.lit (.int .u8 n))[j]? with
   | none=>rw [hf] at hj;simp at hj
   | some y=>
     rw [hf] at hj
     simp at hj;subst hj
     rw [pE rfl h2]
     have hy:es[j]?=some y:=by
      rw [<-hes,ob] at hf
      split at hf
      ·exact hf
      ·cases hf
     have hfy:(zg es)[j]?=some y:=by
      have hyo:=h6 y (oC hy)
      have hyc:y.cells[0]?=some y:=by
       simp [eOk] at hyo
       cases y<;>simp [D.isCell] at hyo<;>rfl
      have:=uZ h6 hy hyc
      simpa [ez] using this
     simpa using h7 j y hfy
 ·exact h.elim
theorem zAg {ρ:Operand->PV} {rb:Nat->Option Bx} {o:Oper} {R:PV->Prop} (hm:Mem av pB w e bx) (ho:∀ x∈o.op.operands,OpdOk av a w e pB bx x (ρ x))
  (hrb:∀ k B,rb k=some B->bx[k]?=some B/\k∉pB) (h:tw P ρ rb o.op o.type R) :
  ∃ v p,(execOp a.eval o).run P w=.ok (.value v) w/\R p/\ValOk av w e pB bx v p:=by
 obtain ⟨dst,op,ty,pos,after,guard⟩:=o
 simp only at ho h ⊢
 cases op<;>simp only [tw] at h<;>try exact h.elim
 case move x=>exact ⟨_,_,rfl,h,((ho x (by simp [Op.operands])).valOk).retag ty⟩
 case assign x=>exact ⟨_,_,rfl,h,((ho x (by simp [Op.operands])).valOk).retag ty⟩
 case pick c x y=>
  obtain ⟨v,h1,h2⟩:=zFb ((ho c (by simp [Op.operands])).valOk) h
  cases v with
  | true=>exact ⟨_,_,by simp [execOp,asBool,h2],by simpa using h1,(ho x (by simp [Op.operands])).valOk⟩
  | false=>exact ⟨_,_,by simp [execOp,asBool,h2],by simpa using h1,(ho y (by simp [Op.operands])).valOk⟩
 case load t x=>
  have hx:=ho x (by simp [Op.operands])
  split at h
  ·exact h.elim
  ·rename_i z hz
   split at h
   ·rename_i k zz i o' hρ
    split at h
    ·rename_i B hB
     obtain ⟨h1,h2⟩:=hrb k B hB
     obtain ⟨v,q,h3,h4,h5⟩:=zD1 hm h1 h2 hz h
     have hv:=hx.h.resolve_left (by rw [hρ];simp)
     rw [hρ] at hv
     refine ⟨v,q,?_,h4,h5⟩
     simp only [execOp,Instr.loadAt,hv,PV.val,PV.val1,PV.cv,Instr.sureAddr,Sem.run_bind,Sem.run_pure,Result.andThen_ok,h3]
    ·exact h.elim
   ·rename_i ad z' y hρ
    split at h
    ·rename_i hzz
     subst hzz
     have hok:=hx.ok
     rw [hρ] at hok
     simp only [PV.Ok] at hok
     obtain ⟨h1,h2,h3,h4,h5,h6⟩:=hok
     have hv:=hx.h.resolve_left (by rw [hρ];simp)
     rw [hρ] at hv
     obtain ⟨b,off,sp⟩:=ad
     simp at h3;subst h3
     by_cases hz0:z'=0
     ·subst hz0
      simp only [mg] at h
      simp only [eOk,mg] at h2
      have hc0:y.cells[0]?=some y:=by cases y<;>simp [D.isCell,D.cells] at h2 ⊢
      rcases h4 with h4 | ⟨c,t',fz,h7,h8⟩
      ·rw [h4] at hc0;simp at hc0
      ·have hl:=xD hz (w:=w) (ad:=⟨b,off,none⟩) ((wm h7).trans (h8 0 y hc0))
       refine ⟨y.cv,_,?_,h,tY h1 h2⟩
       simp only [execOp,Instr.loadAt,hv,PV.val,PV.val1,PV.cv,Instr.sureAddr,Sem.run_bind,Sem.run_pure,Result.andThen_ok,hl]
     ·simp only [hz0,nO] at h
      simp only [eOk,hz0,nO] at h2
      have hlen:=h2.length
      have hcell:∀ j v,(y.cells.map D.cv)[j]?=some v->w.cell? ((⟨b,off,none⟩:Addr).add j)=some v:=fun j v hj=>by
       rw [yL]
       rcases h4 with h4 | ⟨c,t',fz,h7,h8⟩
       ·rw [h4] at hj;simp at hj
       ·rw [wm h7]
        rw [oE] at hj
        cases hu:y.cells[j]? with
        | none=>simp [hu] at hj
        | some u=>rw [hu] at hj;simp at hj;subst hj;exact h8 j u hu
      have hl:=vK hz hz0 (w:=w) (ad:=⟨b,off,none⟩) (cs:=y.cells.map D.cv) (by simp [hlen]) hcell
      refine ⟨y.val,_,?_,h,uX h1 h2⟩
      rw [h2.val]
      simp only [execOp,Instr.loadAt,hv,PV.val,PV.val1,PV.cv,Instr.sureAddr,Sem.run_bind,Sem.run_pure,Result.andThen_ok,hl]
    ·exact h.elim
   ·exact h.elim
 case nilCheck x=>
  have hx:=ho x (by simp [Op.operands])
  have hv:=hx.valOk
  split at h
  ·rename_i hρ
   have h1:=hx.h.resolve_left (by rw [hρ];simp)
   rw [hρ] at h1 hv
   exact ⟨_,_,by simp only [execOp,h1,PV.val,PV.val1,PV.cv];rfl,h,by rw [h1] at hv;exact hv⟩
  ·rename_i hρ
   have h1:=hx.h.resolve_left (by rw [hρ];simp)
   rw [hρ] at h1 hv
   exact ⟨_,_,by simp only [execOp,h1,PV.val,PV.val1,PV.cv];rfl,h,by rw [h1] at hv;exact hv⟩
  ·rename_i hρ
   have h1:=hx.h.resolve_left (by rw [hρ];simp)
   rw [hρ] at h1 hv
   exact ⟨_,_,by simp only [execOp,h1,PV.val,PV.val1,PV.cv];rfl,h,by rw [h1] at hv;exact hv⟩
  ·exact h.elim
 case binOp op t x y yt=>
  obtain ⟨p,h1,h2, -⟩:=zQ (ho x (by simp [Op.operands])).valOk h
  obtain ⟨q,h3,h4, -⟩:=zQ (ho y (by simp [Op.operands])).valOk h1
  obtain ⟨v,r,h5,h6,h7⟩:=zFL (x:=x) (y:=y) h2 h4 h3
  exact ⟨v,r,by simp only [execOp,Sem.run_bind] at h5 ⊢;rw [h5];rfl,h6,h7⟩
 case unOp op t x=>
  cases op<;>simp only at h<;>try exact h.elim
  case not=>
   obtain ⟨p,h1,h2, -⟩:=zQ (ho x (by simp [Op.operands])).valOk h
   split at h1
   ·have:=h2.1.resolve_left (by simp)
    exact ⟨_,_,by simp [execOp,this,Op.unary,PV.val,PV.val1,PV.cv],h1,zR⟩
   ·exact h1.elim
  case neg=>
   obtain ⟨p,h1,h2, -⟩:=zQ (ho x (by simp [Op.operands])).valOk h
   split at h1
   ·have:=h2.1.resolve_left (by simp)
    exact ⟨_,_,by simp only [execOp,this,Op.unary,PV.val,PV.val1,PV.cv,Op.intArith,Sem.run_bind,Sem.run_pure,Result.andThen_ok],h1,zU⟩
   ·exact h1.elim
 case convert s d x=>
  split at h
  ·rename_i k hd
   split at h
   ·rename_i k' hs
    obtain ⟨p,h1,h2, -⟩:=zQ (ho x (by simp [Op.operands])).valOk h
    split at h1
    ·have:=h2.1.resolve_left (by simp)
     exact ⟨_,_,by simp [execOp,this,convert,run_underlying hs,run_underlying hd,Conv.intToInt,PV.val,PV.val1,PV.cv],h1,zU⟩
    ·exact h1.elim
   ·exact h.elim
  ·rename_i hd
   split at h
   ·rename_i el hs
    split at h
    ·rename_i hz hu
     obtain ⟨p,h1,h2, -⟩:=zQ (ho x (by simp [Op.operands])).valOk h
     obtain ⟨ns,⟨ad,n,c,e1,e2⟩,h4⟩:=zDZ (P:=P) hm hrb h2 h1
     have hcv:(convert s d (a.eval x)).run P w=.ok (.string (bytesOf ns)) w:=by
      rw [e1] at e2 ⊢
      cases ad<;>simp [convert,run_underlying hs,run_underlying hd,run_underlying hu,e2]
     exact ⟨.string (bytesOf ns),_,by simp [execOp,hcv],h4,qS⟩
    ·exact h.elim
   ·exact h.elim
  ·exact h.elim
 case fieldAddr t x f=>
  have hx:=ho x (by simp [Op.operands])
  split at h
  ·exact h.elim
  ·rename_i o' z hfi
   obtain ⟨fs,fd,hu,hf,hz,rfl⟩:=sP hfi
   have hne:ez z≠0:=by have:=rP z;omega
   have hplace:∀ ad:Addr,(fieldPlace ad fd).run P w=.ok (ad.add fd.offset) w:=fun ad=>by
    simp [fieldPlace,xM hz,hne]
   split at h
   ·rename_i k z' i o'' hρ
    have hv:=hx.h.resolve_left (by rw [hρ];simp)
    have hrf:=hx.rf
    rw [hρ] at hv hrf
    refine ⟨_,_,?_,h,.inr rfl,trivial,hrf⟩
    simp only [execOp,Instr.fieldAt,run_underlying hu,hv,PV.val,PV.val1,PV.cv,Instr.sureAddr,Sem.run_bind,Sem.run_pure,Result.andThen_ok,hf,hplace,yL,mO]
   ·rename_i ad n y hρ
    split at h
    ·rename_i hle
     have hv:=hx.h.resolve_left (by rw [hρ];simp)
     have hok:=hx.ok
     rw [hρ] at hv hok
     simp only [PV.Ok] at hok
     obtain ⟨h1,h2,h3,h4,h5,h6⟩:=hok
     have hn0:n≠0:=by have:=rP z;omega
     simp only [eOk,hn0,nO] at h2
     obtain ⟨b,off,sp⟩:=ad
     simp at h3;subst h3
     refine ⟨_,_,?_,h,.inr rfl,?_,by simp [PV.refs]⟩
     ·simp only [execOp,Instr.fieldAt,run_underlying hu,hv,PV.val,PV.val1,PV.cv,Instr.sureAddr,Sem.run_bind,Sem.run_pure,Result.andThen_ok,hf,hplace]
     ·simp only [PV.Ok,yL]
      have hrow:∀ (cs:List D) (q:Nat),(∀ (i:Nat) (u:D),cs[i]?=some u->y.cells[fd.offset+i]?=some u)->Row w ⟨b,off+fd.offset,none⟩ cs:=fun cs q hcs=>by
       rcases h4 with h4 | ⟨c,t',fz,h7,h8⟩
       ·left
        cases hc:cs with
        | nil=>rfl
        | cons u us=>have:=hcs 0 u (by simp [hc]);rw [h4] at this;simp at this
       ·exact .inr ⟨c,t',fz,h7,fun i u hu=>by have:=h8 _ _ (hcs i u hu);simp only at this ⊢;rw [mO];exact this⟩
      split
      ·rename_i hz0
       subst hz0
       have hlt:fd.offset<n:=by simp [ez] at hle;omega
       obtain ⟨h9,h10⟩:=h2.cell hlt
       refine ⟨h1.cell _,by simpa [eOk] using h9,trivial,hrow _ 0 fun i u hu=>?_,h5,h6⟩
       cases i with
       | zero=>rw [nw,h10];revert hu;generalize y.cell fd.offset=c at *;intro hu;cases c<;>simp [D.isCell,D.cells] at h9 hu ⊢<;>exact hu
       | succ i=>revert hu;generalize y.cell fd.offset=c at *;intro hu;cases c<;>simp [D.isCell,D.cells] at h9 hu
      ·rename_i hz0
       have he:ez z=z:=by simp [ez,hz0]
       rw [he] at hle
       refine ⟨h1.sub _ _,by simp only [eOk,hz0,nO];exact h2.sub hle,trivial,hrow _ 0 fun i u hu=>?_,h5,h6⟩
       simp only [D.sub,D.cells,ob,nD] at hu
       split at hu
       ·exact hu
       ·cases hu
    ·exact h.elim
   ·exact h.elim
 case indexAddr t x i=>
  split at h
  ·rename_i el hu
   split at h
   ·exact h.elim
   ·rename_i z hz
    obtain ⟨k,n,h,hn⟩:=x3 (ho i (by simp [Op.operands])).valOk h
    obtain ⟨p,h1,h2, -⟩:=zQ (ho x (by simp [Op.operands])).valOk h
    split at h1
    ·rename_i ad z' es cap
     split at h1
     ·rename_i hzz
      subst hzz
      obtain ⟨⟨hn0,hn1⟩,h1⟩:=h1
      have hv:=h2.1.resolve_left (by simp)
      have hok:Good w (zJ av pB e bx) (.sl ad z' es cap):=h2.2.1
      have hlt:n.toNat<es.length:=by omega
      have hx:es[n.toNat]?=some (es.getD n.toNat default):=by rw [oA];simp [hlt]
      have hmem:=oC hx
      have hge:=hok.elem hmem
      obtain ⟨hH,hF⟩:=hok
      cases hH with
      | nil=>simp at hlt
      | @sl ad _ _ _ h3 h4 h5 h6 h7=>
        have hes:es≠[]:=fun h=>by subst h;simp at hlt
        have h3:=h3 hes
        obtain ⟨b,off,sp⟩:=ad
        simp at h3;subst h3
        have hfb:b∈(D.sl (some ⟨b,off,none⟩) z' es cap).foot:=by simp [D.foot,hes]
        refine ⟨_,_,?_,h1,.inr rfl,?_,by simp [PV.refs]⟩
        ·simp only [execOp,Instr.indexAt,hn,hv,PV.val,PV.val1,PV.cv,asIntOf,run_underlying hu,Sem.run_bind,Sem.run_pure,Result.andThen_ok,oc]
         have hc:0<=n/\n<(es.length:Int):=⟨hn0,hn1⟩
         simp [hc,xM hz]
        ·simp only [PV.Ok,oc,yL]
         refine ⟨hge,h5 _ hmem,trivial,?_,hF b hfb,Holds.lt (.sl (fun _=>rfl) h4 h5 h6 h7) b hfb⟩
         rcases h7 with h7 | ⟨c,t',fz,h8,h9⟩
         ·left
          generalize es.getD n.toNat default=y at *
          cases hc:y.cells with
          | nil=>rfl
          | cons u us=>have:=uZ h5 hx (i:=0) (u:=u) (by simp [hc]);rw [h7] at this;simp at this
         ·exact .inr ⟨c,t',fz,h8,fun j u hj=>by
           have:=h9 _ _ (uZ h5 hx hj)
           simp only at this ⊢
           rw [mO];exact this⟩
     ·exact h1.elim
    ·rename_i kb z' lo m c
     split at h1
     ·rename_i t' z'' es c' hB
      split at h1
      ·rename_i hzz
       obtain ⟨rfl,rfl⟩:=hzz
       obtain ⟨⟨hn0,hn1,hn2⟩,h1⟩:=h1
       have hv:=h2.1.resolve_left (by simp)
       have hrf:=h2.2.2
       obtain ⟨hB1,hB2⟩:=hrb kb _ hB
       refine ⟨_,_,?_,h1,.inr rfl,trivial,hrf⟩
       rcases hm.br kb _ hB1 hB2 with ⟨_,rfl,_⟩ | ⟨b,cc,hb,_⟩
       ·simp at hn2
       ·simp only [execOp,Instr.indexAt,hn,hv,PV.val,PV.val1,PV.cv,asIntOf,run_underlying hu,Sem.run_bind,Sem.run_pure,Result.andThen_ok,hb,oc]
        have hc:0<=n/\n<(m:Int):=⟨hn0,hn1⟩
        simp [hc,xM hz,yL,nL]
      ·exact h1.elim
     ·exact h1.elim
    ·exact h1.elim
  ·exact h.elim
 case index t x i=>
  split at h
  ·rename_i hu
   obtain ⟨k,n,h,hn⟩:=x3 (ho i (by simp [Op.operands])).valOk h
   obtain ⟨p,h1,h2, -⟩:=zQ (ho x (by simp [Op.operands])).valOk h
   split at h1
   ·rename_i s
    obtain ⟨⟨hn0,hn1⟩,h1⟩:=h1
    have hv:=h2.1.resolve_left (by simp)
    have hlt:n.toNat<s.size:=by omega
    have hs:s[n.toNat]?=some (s.data.getD n.toNat 0):=by
     have:n.toNat<s.data.size:=hlt
     rw [getElem?_pos s n.toNat hlt]
     simp [Array.getD,hlt]
     rfl
    exact ⟨_,_,by simp [execOp,Instr.index,hn,hv,PV.val,PV.val1,PV.cv,asIntOf,run_underlying hu,hn0,hs],h1,zU⟩
   ·exact h1.elim
  ·exact h.elim
 case slice t x lo hi mx=>
  have hxo:=(ho x (by simp [Op.operands])).valOk
  split at h
  ·rename_i hu
   obtain ⟨p,h1,h2, -⟩:=zQ hxo h
   split at h1
   ·rename_i s
    have hv:=h2.1.resolve_left (by simp)
    obtain ⟨l,h1,hl⟩:=wB (a:=a) (fun y hy=>(ho y (by simp [Op.operands,hy])).valOk) h1
    obtain ⟨u,h1,hh⟩:=wB (a:=a) (fun y hy=>(ho y (by simp [Op.operands,hy])).valOk) h1
    obtain ⟨⟨hl0,hlu,hus⟩,h1⟩:=h1
    refine ⟨_,_,?_,h1,qS⟩
    have hu0:0<=u:=by omega
    have hln:l<=(u.toNat:Int):=by omega
    have hbounds:(Instr.sliceBounds false s.size s.size (lo.map a.eval) (hi.map a.eval) none).run P w=.ok (l.toNat,u.toNat,s.size) w:=by
     rcases hh with ⟨rfl,rfl⟩ | ⟨yh,kh,rfl,hyh⟩
     ·rcases hl with ⟨rfl,rfl⟩ | ⟨yl,kl,rfl,hyl⟩
      ·simp [Instr.sliceBounds]
      ·simp [Instr.sliceBounds,hyl,zG hl0 hlu]
     ·rcases hl with ⟨rfl,rfl⟩ | ⟨yl,kl,rfl,hyl⟩
      ·simp [Instr.sliceBounds,hyh,zG hu0 hus]
      ·simp [Instr.sliceBounds,hyh,hyl,zG hu0 hus,zG hl0 hln]
    simp only [execOp,Instr.sliceAt,Sem.run_bind,run_underlying hu,Result.andThen_ok,hv,PV.val,PV.val1,PV.cv,Instr.slice,nj,Option.isSome_none,nz,nO,hbounds,Sem.run_pure]
   ·exact h1.elim
  ·rename_i el hu
   split at h
   ·exact h.elim
   ·rename_i z hz
    obtain ⟨p,h1,h2, -⟩:=zQ hxo h
    split at h1
    ·rename_i ad z' es cap
     split at h1
     ·rename_i hzz
      subst hzz
      have hv:=h2.1.resolve_left (by simp)
      have hg:Good w (zJ av pB e bx) (.sl ad z' es cap):=h2.2.1
      obtain ⟨l,h1,hl⟩:=wB (a:=a) (fun y hy=>(ho y (by simp [Op.operands,hy])).valOk) h1
      obtain ⟨u,h1,hh⟩:=wB (a:=a) (fun y hy=>(ho y (by simp [Op.operands,hy])).valOk) h1
      obtain ⟨⟨hl0,hlu,hus⟩,h1⟩:=h1
      have hu0:0<=u:=by omega
      have hln:l<=(u.toNat:Int):=by omega
      have hle:es.length<=cap:=by
       obtain ⟨hH,_⟩:=hg
       cases hH with
       | nil=>simp
       | sl _ h _ _ _=>exact h
      have huc:u<=(cap:Int):=by omega
      have hg':=hg.slice (l:=l.toNat) (h:=u.toNat) (by omega) (by omega)
      have hlc:((l.toNat:Nat):Int)=l:=by omega
      rw [hlc] at hg'
      have hlen:((es.take u.toNat).drop l.toNat).length=u.toNat - l.toNat:=by simp;omega
      refine ⟨_,_,?_,h1,zIM hg'⟩
      have hbounds:(Instr.sliceBounds true es.length cap (lo.map a.eval) (hi.map a.eval) none).run P w=.ok (l.toNat,u.toNat,cap) w:=by
       rcases hh with ⟨rfl,rfl⟩ | ⟨yh,kh,rfl,hyh⟩
       ·rcases hl with ⟨rfl,rfl⟩ | ⟨yl,kl,rfl,hyl⟩
        ·simp [Instr.sliceBounds]
        ·simp [Instr.sliceBounds,hyl,zG hl0 hlu]
       ·rcases hl with ⟨rfl,rfl⟩ | ⟨yl,kl,rfl,hyl⟩
        ·simp [Instr.sliceBounds,hyh,zG hu0 huc]
        ·simp [Instr.sliceBounds,hyh,hyl,zG hu0 huc,zG hl0 hln]
      rw [hlen]
      have hif:(if cap=l.toNat then ad else ad.map (·.add (l.toNat*ez z')))=(if (cap:Int)=l then ad else ad.map (·.add (l.toNat*ez z'))):=by
       by_cases hc:cap=l.toNat
       ·rw [if_pos hc,if_pos (by omega)]
       ·rw [if_neg hc,if_neg (by omega)]
      simp only [execOp,Instr.sliceAt,Sem.run_bind,run_underlying hu,Result.andThen_ok,hv,PV.val,PV.val1,PV.cv,Instr.slice,nj,hbounds,Sem.run_pure,xM hz,hif]
     ·exact h1.elim
    ·rename_i kb z' lo' n c
     split at h1
     ·have hv:=h2.1.resolve_left (by simp)
      have hrf:=h2.2.2
      obtain ⟨u,h1,hh⟩:=wB (a:=a) (fun y hy=>(ho y (by simp [Op.operands,hy])).valOk) h1
      obtain ⟨⟨hu0,huc⟩,h1⟩:=h1
      refine ⟨_,_,?_,h1,.inr rfl,trivial,hrf⟩
      have hbounds:(Instr.sliceBounds true n c ((none:Option Operand).map a.eval) (hi.map a.eval) none).run P w=.ok (0,u.toNat,c) w:=by
       rcases hh with ⟨rfl,rfl⟩ | ⟨yh,kh,rfl,hyh⟩
       ·simp [Instr.sliceBounds]
       ·simp [Instr.sliceBounds,hyh,zG hu0 huc]
      simp only [nj] at hbounds
      cases hb:e.at kb with
      | none=>
        simp only [execOp,Instr.sliceAt,Sem.run_bind,run_underlying hu,Result.andThen_ok,hv,PV.val,PV.val1,PV.cv,hb,Instr.slice,nj,hbounds,Sem.run_pure,xM hz]
        simp
      | some b=>
        simp only [execOp,Instr.sliceAt,Sem.run_bind,run_underlying hu,Result.andThen_ok,hv,PV.val,PV.val1,PV.cv,hb,Instr.slice,nj,hbounds,Sem.run_pure,xM hz]
        simp [Addr.add]
     ·rename_i y
      split at h1
      rotate_left
      ·exact h1.elim
      rename_i hzz
      subst hzz
      have hv:=h2.1.resolve_left (by simp)
      have hrf:=h2.2.2
      obtain ⟨kl,l,h1,hl⟩:=x3 (ho y (by simp [Op.operands])).valOk h1
      obtain ⟨u,h1,hh⟩:=wB (a:=a) (fun y hy=>(ho y (by simp [Op.operands,hy])).valOk) h1
      obtain ⟨⟨hl0,hlu,huc,hlc⟩,h1⟩:=h1
      have hu0:0<=u:=by omega
      have hln:l<=(u.toNat:Int):=by omega
      refine ⟨_,_,?_,h1,.inr rfl,trivial,hrf⟩
      have hbounds:(Instr.sliceBounds true n c ((some y:Option Operand).map a.eval) (hi.map a.eval) none).run P w=.ok (l.toNat,u.toNat,c) w:=by
       rcases hh with ⟨rfl,rfl⟩ | ⟨yh,kh,rfl,hyh⟩
       ·simp [Instr.sliceBounds,hl,zG hl0 hlu]
       ·simp [Instr.sliceBounds,hyh,hl,zG hu0 huc,zG hl0 hln]
      have hlo:∀ b:Nat,(if c=l.toNat then some (⟨b,lo'*ez z',none⟩:Addr) else some ((⟨b,lo'*ez z',none⟩:Addr).add (l.toNat*ez z')))=some ⟨b,(lo'+loN z' c l)*ez z',none⟩:=fun b=>by
       rcases zHl hl0 hlc with ⟨h3,h4⟩ | ⟨h3,h4⟩
       ·rw [if_pos h3,h4,nw]
       ·rw [if_neg h3,h4];simp [Addr.add,nL]
      cases hb:e.at kb with
      | none=>
        simp only [execOp,Instr.sliceAt,Sem.run_bind,run_underlying hu,Result.andThen_ok,hv,PV.val,PV.val1,PV.cv,hb,Instr.slice,nj,hbounds,Sem.run_pure,xM hz]
        simp
      | some b=>
        simp only [execOp,Instr.sliceAt,Sem.run_bind,run_underlying hu,Result.andThen_ok,hv,PV.val,PV.val1,PV.cv,hb,Instr.slice,nj,hbounds,Sem.run_pure,xM hz]
        simp only [oT,oZ]
        have:=hlo b
        simp [this]
    ·exact h1.elim
  ·exact h.elim
 case field t x f=>
  have hx:=ho x (by simp [Op.operands])
  split at h
  ·exact h.elim
  ·rename_i o' z hfi
   obtain ⟨fs,fd,hu,hf,hz,rfl⟩:=sP hfi
   have hpart:∀ (cs:List Value) (v:Value),(if z=0 then cs[fd.offset]?=some v else v=.agg ((cs.drop fd.offset).take z).toArray)->(part fd.type cs.toArray fd.offset).run P w=.ok v w:=fun cs v hcs=>by
    unfold part
    rw [Sem.run_bind,zBT hz]
    simp only [Result.andThen_ok]
    split at hcs
    ·rename_i hz0
     subst hz0
     simp [hcs]
    ·rename_i hz0
     subst hcs
     have he:ez z=z:=by simp [ez,hz0]
     simp [hz0,xM hz,he]
   split at h
   ·rename_i cs hρ
    have hv:=hx.h.resolve_left (by rw [hρ];simp)
    have hok:=hx.ok
    have hrf:=hx.rf
    rw [hρ] at hv hok hrf
    simp only [PV.Ok] at hok
    obtain ⟨ho1,ho2⟩:=hok
    rw [PV.OkL_iff] at ho1
    simp only [PV.refs] at hrf
    split at h
    ·rename_i hz0
     subst hz0
     split at h
     ·rename_i hlt
      have hp:cs[fd.offset]?=some (cs.getD fd.offset .any):=by rw [oA];simp [hlt]
      have hmem:=oC hp
      have hr:=hpart (PV.cvs e cs) ((cs.getD fd.offset .any).cv e) (by simp only [mg,PV.cvs_eq,oE,hp,oT])
      refine ⟨_,_,?_,h,.inr (PV.val_isC (ho2 _ hmem)).symm,ho1 _ hmem,fun k hk=>hrf k (PV.refsL_mem.2 ⟨_,hmem,hk⟩)⟩
      simp only [execOp,Instr.field,run_underlying hu,hv,PV.val,PV.val1,asAgg,Sem.run_bind,Sem.run_pure,Result.andThen_ok,hf,hr]
     ·exact h.elim
    ·rename_i hz0
     split at h
     ·rename_i hle
      have hr:=hpart (PV.cvs e cs) (.agg (((PV.cvs e cs).drop fd.offset).take z).toArray) (by simp only [hz0,nO])
      obtain ⟨q,hq,hvq⟩:=p1 (w:=w) (e:=e) (pB:=pB) (bx:=bx) (cs:=(cs.drop fd.offset).take z) (vs:=((PV.cvs e cs).drop fd.offset).take z)
       (by simp [PV.cvs_eq])
       (fun i p hp=>.inr (by
        simp only [PV.cvs_eq,ob,nD,oE] at hp ⊢
        split at hp
        ·rename_i hi;simp [hi,hp]
        ·cases hp))
       (fun p hp=>by
        have hmem:=oi (oV hp)
        exact ⟨ho1 _ hmem,.inr (ho2 _ hmem),fun k hk=>hrf k (PV.refsL_mem.2 ⟨_,hmem,hk⟩)⟩) h
      refine ⟨_,q,?_,hq,hvq⟩
      simp only [execOp,Instr.field,run_underlying hu,hv,PV.val,PV.val1,asAgg,Sem.run_bind,Sem.run_pure,Result.andThen_ok,hf,hr]
     ·exact h.elim
   ·rename_i n y hρ
    have hv:=hx.h.resolve_left (by rw [hρ];simp)
    have hok:=hx.ok
    rw [hρ] at hv hok
    simp only [PV.Ok] at hok
    obtain ⟨hg,ha⟩:=hok
    have hyv:=ha.val
    split at h
    ·rename_i hz0
     subst hz0
     split at h
     ·rename_i hlt
      obtain ⟨h1,h2⟩:=ha.cell hlt
      have hr:=hpart (y.cells.map D.cv) (y.cell fd.offset).cv (by simp only [mg,oE,h2,oT])
      refine ⟨_,_,?_,h,tY (hg.cell _) h1⟩
      simp only [execOp,Instr.field,run_underlying hu,hv,PV.val,PV.val1,hyv,asAgg,Sem.run_bind,Sem.run_pure,Result.andThen_ok,hf,hr]
     ·exact h.elim
    ·rename_i hz0
     split at h
     ·rename_i hle
      have hr:=hpart (y.cells.map D.cv) (y.sub fd.offset z).val (by simp only [hz0,nO];simp [D.sub,D.val,List.map_take,List.map_drop])
      refine ⟨_,_,?_,h,uX (hg.sub _ _) (ha.sub hle)⟩
      simp only [execOp,Instr.field,run_underlying hu,hv,PV.val,PV.val1,hyv,asAgg,Sem.run_bind,Sem.run_pure,Result.andThen_ok,hf,hr]
     ·exact h.elim
   ·exact h.elim
 case extract x i=>
  have hx:=ho x (by simp [Op.operands])
  split at h
  ·rename_i l hρ
   split at h
   ·exact h.elim
   ·rename_i p htp hp
    have hv:=hx.h.resolve_left (by rw [hρ];simp)
    have hok:=hx.ok
    have hrf:=hx.rf
    rw [hρ] at hv hok hrf
    simp only [PV.Ok] at hok
    rw [PV.OkL_iff] at hok
    have hmem:=oC hp
    have hi:((l.map (PV.val1 e)).toArray)[i]?=some (p.val1 e):=by simp [hp]
    refine ⟨p.val1 e,p,?_,h,?_,hok p hmem,fun k hk=>hrf k (by simp only [PV.refs];exact PV.refsL_mem.2 ⟨p,hmem,hk⟩)⟩
    ·simp only [execOp,Instr.extract,hv,PV.val,hi,Sem.run_bind,Sem.run_pure,Result.andThen_ok]
    ·cases p<;>first | exact .inr rfl | exact .inl rfl | exact absurd rfl (htp _)
   ·exact h.elim
  ·exact h.elim
 case lookup t m x ok=>
  split at h
  ·rename_i k _ hu
   obtain ⟨p,h1,h2, -⟩:=zQ (ho x (by simp [Op.operands])).valOk h
   split at h1
   ·rename_i s y hρ
    obtain ⟨b,es,c,rfl,oo,hg,hR⟩:=h1
    have hm':=ho m (by simp [Op.operands])
    have hok:=hm'.ok
    have hv:=hm'.h.resolve_left (by rw [hρ];simp)
    rw [hρ] at hok hv
    simp only [PV.Ok] at hok
    have hs:=h2.1.resolve_left (by simp)
    have hh:w.heap[b]?=some (.map es c):=by
     cases hok.1.1
     assumption
    refine ⟨_,_,?_,hR,.inr rfl,by simp [PV.Ok,PV.OkL],by simp [PV.refs,PV.refsL]⟩
    simp only [execOp,hs,hv,PV.val,PV.val1,PV.cv,D.cv,Sem.run_bind,hg w b hh,Result.andThen_ok,Sem.run_pure,oq,mZ]
   ·exact h1.elim
  ·exact h.elim
 case makeFunc f first caps=>
  split at h
  ·rename_i f hfirst
   have hfi:first=#[]:=by cases first;simp_all
   subst hfi
   split at h
   ·rename_i hall
    rw [oS] at hall
    have hc:∀ c∈caps.toList,(ρ c).cv e=a.eval c/\(ρ c).Ok w (zJ av pB e bx)/\∀ k∈(ρ c).refs,k∉pB/\k<bx.length:=fun c hcm=>by
     have hx:=ho c (by simp [Op.operands];exact oa.1 hcm)
     have hcap:=hall (ρ c) (List.mem_map_of_mem hcm)
     have hne:ρ c≠.any:=fun h=>by rw [h] at hcap;cases hcap
     refine ⟨?_,hx.ok,hx.rf⟩
     have hv:=hx.h.resolve_left hne
     rw [hv]
     revert hcap
     generalize ρ c=p
     intro hcap
     cases p<;>first | rfl | cases hcap
    refine ⟨_,_,rfl,h,.inr ?_,PV.OkL_iff.2 fun p hp=>?_,fun k hk=>?_⟩
    ·simp only [PV.val,PV.val1,PV.cv,PV.cvs_eq,nc]
     have:caps.toList.map (PV.cv e∘ρ)=caps.toList.map a.eval:=oe fun c hcm=>(hc c hcm).1
     rw [this]
     simp only [List.map_toArray,mZ]
     congr 1
     apply Array.ext';simp
    ·obtain ⟨c,hcm,rfl⟩:=oQ.1 hp
     exact (hc c hcm).2.1
    ·simp only [PV.refs] at hk
     obtain ⟨p,hp,hk⟩:=PV.refsL_mem.1 hk
     obtain ⟨c,hcm,rfl⟩:=oQ.1 hp
     exact (hc c hcm).2.2 k hk
   ·exact h.elim
  ·exact h.elim
 case call c=>
  obtain ⟨callee,args,argTypes⟩:=c
  simp only at h
  split at h
  ·rename_i x t hargs htys
   have ha:args=#[x]:=by cases args;simp_all
   have ht:argTypes=#[t]:=by cases argTypes;simp_all
   subst ha;subst ht
   have hx:=(ho x (by simp [Op.operands,Call.operands])).valOk
   split at h
   ·rename_i el hu
    obtain ⟨p,h1,h2, -⟩:=zQ hx h
    split at h1
    ·have hv:=h2.1.resolve_left (by simp)
     exact ⟨_,_,by simp [execOp,resolve,invoke,builtin,Builtin.len_,run_underlying hu,hv,PV.val,PV.val1,PV.cv,goInt],h1,zU⟩
    ·rename_i kb z' lo n c
     have hv:=h2.1.resolve_left (by simp)
     refine ⟨_,_,?_,h1,zU⟩
     cases hb:e.at kb<;>simp [execOp,resolve,invoke,builtin,Builtin.len_,run_underlying hu,hv,PV.val,PV.val1,PV.cv,hb,goInt]
    ·exact h1.elim
   ·rename_i hu
    obtain ⟨p,h1,h2, -⟩:=zQ hx h
    split at h1
    ·have hv:=h2.1.resolve_left (by simp)
     exact ⟨_,_,by simp [execOp,resolve,invoke,builtin,Builtin.len_,run_underlying hu,hv,PV.val,PV.val1,PV.cv,goInt],h1,zU⟩
    ·exact h1.elim
   ·exact h.elim
  ·rename_i x y s t hargs htys
   have ha:args=#[x,y]:=by cases args;simp_all
   have ht:argTypes=#[s,t]:=by cases argTypes;simp_all
   subst ha;subst ht
   obtain ⟨p,h1,h2, -⟩:=zQ (ho x (by simp [Op.operands,Call.operands])).valOk h
   obtain ⟨q,h3,h4, -⟩:=zQ (ho y (by simp [Op.operands,Call.operands])).valOk h1
   split at h3
   ·have hv:=h2.1.resolve_left (by simp)
    have hv':=h4.1.resolve_left (by simp)
    exact ⟨_,_,by simp [execOp,resolve,invoke,builtin,Builtin.max_,Builtin.max2,hv,hv',PV.val,PV.val1,PV.cv],h3,zU⟩
   ·exact h3.elim
  ·rename_i x y s t hargs htys
   have ha:args=#[x,y]:=by cases args;simp_all
   have ht:argTypes=#[s,t]:=by cases argTypes;simp_all
   subst ha;subst ht
   obtain ⟨p,h1,h2, -⟩:=zQ (ho x (by simp [Op.operands,Call.operands])).valOk h
   obtain ⟨q,h3,h4, -⟩:=zQ (ho y (by simp [Op.operands,Call.operands])).valOk h1
   split at h3
   ·have hv:=h2.1.resolve_left (by simp)
    have hv':=h4.1.resolve_left (by simp)
    exact ⟨_,_,by simp [execOp,resolve,invoke,builtin,Builtin.min_,Builtin.min2,hv,hv',PV.val,PV.val1,PV.cv],h3,zU⟩
   ·exact h3.elim
  ·exact h.elim
def uF:PV->Option (List PV)
 | .pg cs=>some cs
 | .dg n x=>some ((List.range n).map fun j=>.dc (x.cell j))
 | .any=>none
 | .tp _=>none
 | .d _=>none
 | p=>some [p]
def rQ (P:Program) (t:TypeId):Option (List PV):=
 match (P.info? t).bind (·.zero) with
 | some z=>if z.cells.toList.all (·.oneCell')=true then some (u5 (zsh P 8 t) (z.cells.toList.map xv)) else none
 | none=>none
def vM (off:Nat) (ps cs:List PV):List PV:=cs.take off++ps++cs.drop (off+ps.length)
def zCe (pl:List (Nat × Nat)):List PV->List (Nat × PV)->Option (List PV)
 | cs,[]=>some cs
 | cs,(i,p)::rest=>match pl[i]?,uF p with
   | some (off,n),some ps=>if ps.length=n/\off+n<=cs.length then zCe pl (vM off ps cs) rest else none
   | _,_=>none
def sV (P:Program):List Field->Option (List (Nat × Nat))
 | []=>some []
 | f::fs=>match kz P f.type,sV P fs with
   | some z,some l=>some ((f.offset,ez z)::l)
   | _,_=>none
/-- a composite value -/
def rM (P:Program) (ρ:Operand->PV) (t:TypeId) (parts:List (Nat × Operand)) (R:PV->Prop):Prop:=
 match P.underlying t,rQ P t with
 | some (.struct fs),some cs=>match sV P fs.toList with
   | some pl=>match zCe pl cs (parts.map fun (i,x)=>(i,ρ x)) with
     | some cs'=>pgR cs' R
     | none=>False
   | none=>False
 | _,_=>False
mutual
def uU:PV->Option D
 | .int k n=>some (.lit (.int k n))
 | .bool b=>some (.lit (.bool b))
 | .str s=>some (.lit (.string s))
 | .lit x=>some (.lit x)
 | .sv a z es cap=>some (.sl a z es cap)
 | .dc x=>some x
 | .pd ad z x=>some (.pt ad z x)
 | .fn f caps=>match zCA caps with
   | some ds=>some (.fn f ds)
   | none=>none
 | _=>none
def zCA:List PV->Option (List D)
 | []=>some []
 | p::ps=>match uU p,zCA ps with
   | some d,some ds=>some (d::ds)
   | _,_=>none
end
/-- as an element of kind z -/
def zEJ (z:Nat) (p:PV):Option D:=
 match p with
 | .pg cs=>if z=cs.length/\z≠0 then (match zCA cs with | some ds=>some (.ag ds) | none=>none) else none
 | .dg n x=>if n=z/\z≠0 then some x else none
 | p=>if z=0 then uU p else none
def u2 (z:Nat) (ρ:Operand->PV):Nat->List (Nat × Operand)->Option (List D)
 | _,[]=>some []
 | k,(i,x)::rest=>if i=k then (match zEJ z (ρ x),u2 z ρ (k+1) rest with
  | some d,some ds=>some (d::ds)
  | _,_=>none) else none
def zFX (P:Program) (el:TypeId) (z:Nat):Option D:=
 match rQ P el with
 | some cs=>if z=0 then (match cs with | [p]=>uU p | _=>none) else zEJ z (.pg cs)
 | none=>none
/-- the operations that make a box: the box, and the value that leads to it -/
def zET (P:Program) (ρ:Operand->PV) (op:Op) (R:Bx->(Nat->PV)->Prop):Prop:=
 match op with
 | .alloc t=>match rQ P t with
   | some cs=>R (.var cs) (fun k=>.pb k 0 0 0)
   | none=>False
 | .box t x=>match ρ x with
   | .pg cs=>R (.var cs) (fun k=>.pb k 0 0 0)
   | .dg n y=>R (.vd y n) (fun k=>.pb k 0 0 0)
   | .any=>False
   | .tp _=>False
   | .d _=>False
   | p=>R (.var [retag P t p]) (fun k=>.pb k 0 0 0)
 | .buildSlice t n parts=>match P.underlying t with
   | some (.slice el)=>match kz P el with
     | some z=>match u2 z ρ 0 parts.toList with
       | some es=>if es.length=n/\n*ez z<=2 ^ 24/\(rQ P el).isSome=true then R (.arr el z es n) (fun k=>.sb k z 0 n n) else False
       | none=>False
     | none=>False
   | _=>False
 | .makeSlice t l c=>match P.underlying t with
   | some (.slice el)=>match kz P el,P.info? el with
     | some z,some i=>match zFX P el z with
       | some zd=>zHg (ρ l) fun n=>zHg (ρ c) fun m=>(0<=n/\n<=m/\(i.bytes:Int)*m<=140737488355328/\m<=9223372036854775807) /\
        R (.arr el z (List.replicate n.toNat zd) m.toNat) (fun k=>.sb k z 0 n.toNat m.toNat)
       | none=>False
     | _,_=>False
   | _=>False
 | _=>False
variable {av:Nat->Prop} {P:Program} {w:World} {e:Env} {pB:List Nat} {bx:List Bx} {a:Act}
mutual
theorem yO:∀ {p:PV} {d:D},uU p=some d->∀ {live:Nat->Prop},p.Ok w live->Good w live d/\d.isCell/\d.cv=p.cv e/\p.isC/\p.refs=[]
 | .int ..,d,h,live,hok=>by simp [uU] at h;subst h;exact ⟨Good.lit,rfl,rfl,trivial,rfl⟩
 | .bool ..,d,h,live,hok=>by simp [uU] at h;subst h;exact ⟨Good.lit,rfl,rfl,trivial,rfl⟩
 | .str ..,d,h,live,hok=>by simp [uU] at h;subst h;exact ⟨Good.lit,rfl,rfl,trivial,rfl⟩
 | .lit ..,d,h,live,hok=>by simp [uU] at h;subst h;simp [PV.Ok] at hok;exact ⟨Good.lit,hok,rfl,hok,rfl⟩
 | .sv ..,d,h,live,hok=>by simp [uU] at h;subst h;simp [PV.Ok] at hok;exact ⟨hok,trivial,rfl,trivial,rfl⟩
 | .dc ..,d,h,live,hok=>by simp [uU] at h;subst h;simp [PV.Ok] at hok;exact ⟨hok.1,hok.2,rfl,trivial,rfl⟩
 | .pd ad z x,d,h,live,hok=>by
   simp [uU] at h;subst h;simp only [PV.Ok] at hok
   obtain ⟨h1,h2,h3,h4,h5,h6⟩:=hok
   refine ⟨⟨.pt h3 h2 h4 h1.1,fun b hb=>?_⟩,trivial,rfl,trivial,rfl⟩
   simp only [D.foot] at hb
   rcases oI.1 hb with rfl | hb
   ·exact h5
   ·exact h1.2 b hb
 | .fn f caps,d,h,live,hok=>by
   simp only [uU] at h
   split at h
   ·rename_i ds hds
    simp at h;subst h
    simp only [PV.Ok] at hok
    obtain ⟨h1,h2,h3⟩:=sw hds hok
    refine ⟨⟨.fn (fun c hc=>(h1 c hc).2) fun c hc=>(h1 c hc).1.1,fun b hb=>?_⟩,trivial,?_,trivial,by simp only [PV.refs];exact h3⟩
    ·simp only [D.foot] at hb
     obtain ⟨c,hc,hbc⟩:=zD.1 hb
     exact (h1 c hc).1.2 b hbc
    ·simp only [D.cv,PV.cv,D.cvL_eq,h2]
   ·cases h
 | .any,d,h,live,hok=>by simp [uU] at h
 | .d ..,d,h,live,hok=>by simp [uU] at h
 | .dg ..,d,h,live,hok=>by simp [uU] at h
 | .pb ..,d,h,live,hok=>by simp [uU] at h
 | .sb ..,d,h,live,hok=>by simp [uU] at h
 | .pg ..,d,h,live,hok=>by simp [uU] at h
 | .tp ..,d,h,live,hok=>by simp [uU] at h
theorem sw:∀ {ps:List PV} {ds:List D},zCA ps=some ds->∀ {live:Nat->Prop},PV.OkL w live ps->(∀ d∈ds,Good w live d/\d.isCell)/\ds.map D.cv=PV.cvs e ps/\PV.refsL ps=[]
 | [],ds,h,live,hok=>by simp [zCA] at h;subst h;simp [PV.cvs,PV.refsL]
 | p::ps,ds,h,live,hok=>by
   simp only [zCA] at h
   split at h
   ·rename_i d ds' h1 h2
    simp at h;subst h
    obtain ⟨a1,a2,a3,_,a4⟩:=yO h1 hok.1
    obtain ⟨b1,b2,b3⟩:=sw h2 hok.2
    refine ⟨fun x hx=>?_,by simp [PV.cvs,a3,b2],by simp [PV.refsL,a4,b3]⟩
    rcases oI.1 hx with rfl | hx
    ·exact ⟨a1,a2⟩
    ·exact b1 x hx
   ·cases h
end
theorem wx {ps:List PV} {ds:List D} (h:zCA ps=some ds) {live:Nat->Prop} (hok:PV.OkL w live ps):(∀ d∈ds,Good w live d/\d.isCell)/\ds.map D.cv=PV.cvs e ps:=
 let ⟨h1,h2,_⟩:=sw h hok;⟨h1,h2⟩
theorem wG {ps:List PV} {ds:List D} (h:zCA ps=some ds):ds.length=ps.length:=by
 induction ps generalizing ds with
 | nil=>simp [zCA] at h;subst h;rfl
 | cons p ps ih=>
   simp only [zCA] at h
   split at h
   ·rename_i d ds' h1 h2
    simp at h;subst h
    simp [ih h2]
   ·cases h
theorem sY {z:Nat} {p:PV} {d:D} (h:zEJ z p=some d) {live:Nat->Prop} (hok:p.Ok w live):Good w live d/\eOk z d/\d.val=p.val e:=by
 unfold zEJ at h
 split at h
 ·rename_i cs
  split at h
  ·rename_i hz
   split at h
   ·rename_i ds hds
    simp at h;subst h
    simp only [PV.Ok] at hok
    obtain ⟨a1,a2⟩:=wx (e:=e) hds hok.1
    refine ⟨Good.ag fun c hc=>(a1 c hc).1,?_,by simp [D.val,PV.val,PV.val1,a2]⟩
    simp only [eOk,hz.2,nO]
    exact ⟨ds,rfl,by rw [wG hds,hz.1],fun c hc=>(a1 c hc).2⟩
   ·cases h
  ·cases h
 ·rename_i n x
  split at h
  ·rename_i hz
   obtain ⟨rfl,hz⟩:=hz
   simp at h;subst h
   simp only [PV.Ok] at hok
   exact ⟨hok.1,by simp only [eOk,hz,nO];exact hok.2,rfl⟩
  ·cases h
 ·split at h
  ·rename_i hz
   subst hz
   obtain ⟨a1,a2,a3,a4,_⟩:=yO (e:=e) h hok
   exact ⟨a1,by simpa [eOk] using a2,by rw [D.val_isCell a2,a3,PV.val_isC a4]⟩
  ·cases h
/-- the model's 'fill' with one part -/
theorem zGD (off:Nat):∀ (vs:List Value) (k:Nat) (cs:Array Value),off+k+vs.length<=cs.size ->
  ((vs.zipIdx k).foldl (fun cs (c,j)=>cs.setIfInBounds (off+j) c) cs).toList=cs.toList.take (off+k)++vs++cs.toList.drop (off+k+vs.length)
 | [],k,cs,h=>by simp
 | v::vs,k,cs,h=>by
   simp only [List.zipIdx_cons,List.foldl_cons]
   rw [zGD off vs (k+1) _ (by simp at h ⊢;omega)]
   simp only [Array.toList_setIfInBounds]
   have:=list_seg_step cs.toList (off+k) v vs (by simp at h ⊢;omega)
   simpa [mO] using this
theorem zEo {place:Nat->Option (Nat × Nat)} {cells:Array Value} {i off n:Nat} {v:Value} {rest:List (Nat × Value)} (hp:place i=some (off,n)) (hn:v.cells.size=n) (hle:off+n<=cells.size) :
  Instr.fill place cells ((i,v)::rest)=Instr.fill place (cells.toList.take off++v.cells.toList++cells.toList.drop (off+n)).toArray rest:=by
 have hc:(decide (v.cells.size≠n)||decide (off+v.cells.size>cells.size))=false:=by simp;omega
 have hf:=zGD off v.cells.toList 0 cells (by simp;omega)
 simp only [Instr.fill,hp,hc,nz,nO]
 congr 1
 apply Array.ext'
 rw [<-Array.foldl_toList]
 simp only [Array.toList_zipIdx]
 rw [hf]
 simp [hn]
/-- cells as the ghost has them -/
def CellsAre (e:Env) (vs:List Value) (ps:List PV):Prop:=vs.length=ps.length/\∀ (i:Nat) (p:PV),ps[i]?=some p->p=.any\/vs[i]?=some (p.cv e)
def sc (av:Nat->Prop) (w:World) (e:Env) (pB:List Nat) (bx:List Bx) (ps:List PV):Prop:=∀ p∈ps,p.Ok w (zJ av pB e bx)/\(p=.any\/p.isC)/\∀ k∈p.refs,k∉pB/\k<bx.length
theorem CellsAre.append {vs vs':List Value} {ps ps':List PV} (h:CellsAre e vs ps) (h':CellsAre e vs' ps'):CellsAre e (vs++vs') (ps++ps'):=by
 refine ⟨by simp [h.1,h'.1],fun i p hp=>?_⟩
 rw [mP] at hp ⊢
 rw [h.1]
 split at hp
 ·rename_i hi;rw [if_pos hi];exact h.2 i p hp
 ·rename_i hi;rw [if_neg hi];exact h'.2 _ p hp
theorem CellsAre.take {vs:List Value} {ps:List PV} (h:CellsAre e vs ps) (n:Nat):CellsAre e (vs.take n) (ps.take n):=by
 refine ⟨by simp [h.1],fun i p hp=>?_⟩
 simp only [ob] at hp ⊢
 split at hp
 ·rename_i hi;rw [if_pos hi];exact h.2 i p hp
 ·cases hp
theorem CellsAre.drop {vs:List Value} {ps:List PV} (h:CellsAre e vs ps) (n:Nat):CellsAre e (vs.drop n) (ps.drop n):=by
 refine ⟨by simp [h.1],fun i p hp=>?_⟩
 simp only [nD] at hp ⊢
 exact h.2 _ p hp
theorem pH {p:PV} (h:p.isC) {live:Nat->Prop} (hok:p.Ok w live):(p.cv e).oneCell'=true:=by
 cases p<;>simp [PV.isC] at h<;>simp only [PV.Ok] at hok<;>simp only [PV.cv]<;>try rfl
 case lit=>exact h
 case d=>exact yR h
 case dc=>exact yR hok.2
 case sb=>split<;>rfl
theorem y7 {v:Value} {p:PV} {ps:List PV} (h:uF p=some ps) (hv:ValOk av w e pB bx v p) :
  CellsAre e v.cells.toList ps/\(∀ p∈ps,p.Ok w (zJ av pB e bx)/\p.isC/\∀ k∈p.refs,k∉pB/\k<bx.length)/\∀ x∈v.cells.toList,x.oneCell'=true:=by
 obtain ⟨h1,h2,h3⟩:=hv
 have one:∀ q:PV,q.isC->p=q->CellsAre e v.cells.toList [q]/\(∀ p∈[q],p.Ok w (zJ av pB e bx)/\p.isC/\∀ k∈p.refs,k∉pB/\k<bx.length)/\∀ x∈v.cells.toList,x.oneCell'=true:=fun q hq hpq=>by
  subst hpq
  have hne:p≠.any:=fun h=>by subst h;exact hq
  have hvq:=(h1.resolve_left hne).trans (PV.val_isC hq)
  have h1c:v.oneCell'=true:=by rw [hvq];exact pH hq h2
  have hvc:v.cells=#[v]:=by cases v<;>simp [Value.cells,Value.oneCell'] at h1c ⊢
  rw [hvc]
  refine ⟨⟨rfl,fun i r hr=>?_⟩,fun r hr=>?_,by simpa using h1c⟩
  ·cases i with
   | zero=>simp at hr;subst hr;exact .inr (by simp [hvq])
   | succ i=>simp at hr
  ·simp at hr;subst hr;exact ⟨h2,hq,h3⟩
 cases p<;>simp [uF] at h
 case pg cs=>
  subst h
  have hv:=h1.resolve_left (by simp)
  simp only [PV.Ok] at h2
  obtain ⟨a1,a2⟩:=h2
  rw [PV.OkL_iff] at a1
  simp only [PV.refs] at h3
  have hvc:v.cells.toList=cs.map (PV.cv e):=by rw [hv];simp [PV.val,PV.val1,Value.cells,PV.cvs_eq]
  refine ⟨⟨by rw [hvc];simp,fun i q hq=>.inr (by rw [hvc,oE,hq];rfl)⟩,fun q hq=>⟨a1 q hq,a2 q hq,fun k hk=>h3 k (PV.refsL_mem.2 ⟨q,hq,hk⟩)⟩,?_⟩
  rw [hvc]
  intro x hx
  obtain ⟨q,hq,rfl⟩:=oQ.1 hx
  exact pH (a2 q hq) (a1 q hq)
 case dg n x=>
  subst h
  have hv:=h1.resolve_left (by simp)
  simp only [PV.Ok] at h2
  obtain ⟨hg,ha⟩:=h2
  have hvc:v.cells.toList=x.cells.map D.cv:=by rw [hv];simp only [PV.val,PV.val1,ha.val,Value.cells]
  have hl:=ha.length
  refine ⟨⟨by rw [hvc];simp [hl],fun i q hq=>.inr ?_⟩,fun q hq=>?_,?_⟩
  ·rw [oE] at hq
   cases hr:(List.range n)[i]? with
   | none=>simp [hr] at hq
   | some j=>
     rw [hr] at hq
     simp at hq;subst hq
     have hi:i<n:=by have:=(oB.1 hr).1;simpa using this
     have hj:j=i:=by have:=(oB.1 hr).2;simpa using this.symm
     subst hj
     rw [hvc,oE,(ha.cell hi).2];rfl
  ·obtain ⟨j,hj,rfl⟩:=oQ.1 hq
   exact ⟨⟨hg.cell j,(ha.cell (by simpa using hj)).1⟩,trivial,by simp [PV.refs]⟩
  ·rw [hvc]
   intro y hy
   obtain ⟨u,hu,rfl⟩:=oQ.1 hy
   obtain ⟨cs,rfl,_,hc⟩:=ha
   exact yR (hc u hu)
 case lit x=>subst h;exact one _ h2 rfl
 all_goals (subst h;exact one _ (by simp [PV.isC]) rfl)
theorem xV {t:TypeId} {cs:List PV} (h:rQ P t=some cs):∃ i z,P.info? t=some i/\i.zero=some z/\(∀ (w:World) (e:Env),CellsAre e z.cells.toList cs) /\
  (∀ (w:World) (live:Nat->Prop),∀ p∈cs,p.Ok w live/\p.isC/\p.refs=[])/\∀ x∈z.cells.toList,x.oneCell'=true:=by
 unfold rQ at h
 cases hi:P.info? t with
 | none=>simp [hi] at h
 | some i=>
   cases hz:i.zero with
   | none=>simp [hi,hz] at h
   | some z=>
     simp only [hi,hz,mK] at h
     split at h
     ·rename_i hall
      rw [oS] at hall
      simp at h;subst h
      refine ⟨i,z,rfl,hz,fun w e=>?_,fun w live=>?_,hall⟩
      ·have hf:=v8 (zsh P 8 t) (z.cells.toList.map xv) w (fun _=>False) e (PV.OkL_iff.2 fun p hp=>by obtain ⟨v,_,rfl⟩:=oQ.1 hp;exact (zS v w _ e).1)
       obtain ⟨_,_,hc,_⟩:=hf
       rw [PV.cvs_eq,PV.cvs_eq,nc] at hc
       have hc':(z.cells.toList.map (PV.cv e∘xv))=z.cells.toList:=by
        conv=>rhs;rw [<-List.map_id z.cells.toList]
        exact oe fun v hv=>((zS v w (fun _=>False) e).2.2.2 (hall v hv)).1
       rw [hc'] at hc
       have hl:=o9 List.length hc
       refine ⟨by simpa using hl.symm,fun i p hp=>.inr ?_⟩
       rw [<-hc,oE,hp];rfl
      ·have hf:=v8 (zsh P 8 t) (z.cells.toList.map xv) w live [] (PV.OkL_iff.2 fun p hp=>by obtain ⟨v,_,rfl⟩:=oQ.1 hp;exact (zS v w _ []).1)
       obtain ⟨h1,h2,_,h4⟩:=hf
       rw [PV.OkL_iff] at h1
       intro p hp
       refine ⟨h1 p hp,h4 (fun q hq=>by obtain ⟨v,hv,rfl⟩:=oQ.1 hq;exact ((zS v w live []).2.2.2 (hall v hv)).2) p hp,?_⟩
       refine nA.2 fun k hk=>?_
       have:k∈PV.refsL (z.cells.toList.map xv):=h2 ▸ PV.refsL_mem.2 ⟨p,hp,hk⟩
       obtain ⟨q,hq,hk⟩:=PV.refsL_mem.1 this
       obtain ⟨v,_,rfl⟩:=oQ.1 hq
       rw [(zS v w live []).2.1] at hk
       simp at hk
     ·cases h
theorem xd {t:TypeId} {i:TypeInfo} {z:Value} (hi:P.info? t=some i) (hz:i.zero=some z):(zeroValue t).run P w=.ok z w:=by
 simp [zeroValue,typeInfo,hi,hz]
theorem zBh {fs:List Field} {pl:List (Nat × Nat)} (h:sV P fs=some pl) :
  (fs.mapM fun f=>do pure (f.offset,<-sizeOf f.type):Sem (List (Nat × Nat))).run P w=.ok pl w:=by
 induction fs generalizing pl with
 | nil=>simp [sV] at h;subst h;rfl
 | cons f fs ih=>
   simp only [sV] at h
   split at h
   ·rename_i z l h1 h2
    simp at h;subst h
    rw [List.mapM_cons]
    simp only [Sem.run_bind,xM h1,ih h2,Sem.run_pure,Result.andThen_ok]
   ·cases h
theorem zEK {pl:List (Nat × Nat)} {cs cs':List PV} {parts:List (Nat × PV)} {vs:List (Nat × Value)} {cells:Array Value} (h:zCe pl cs parts=some cs') (hc:CellsAre e cells.toList cs)
  (hok:sc av w e pB bx cs) (hp:parts.length=vs.length) (hv:∀ (j:Nat) i p,parts[j]?=some (i,p)->∃ v,vs[j]?=some (i,v)/\ValOk av w e pB bx v p) :
  ∃ cells',Instr.fill (pl.toArray[·]?) cells vs=some cells'/\CellsAre e cells'.toList cs'/\sc av w e pB bx cs':=by
 induction parts generalizing cs vs cells with
 | nil=>
   simp at hp
   have hvs:vs=[]:=nU.1 hp.symm
   subst hvs
   simp [zCe] at h;subst h
   exact ⟨cells,rfl,hc,hok⟩
 | cons x parts ih=>
   obtain ⟨i,p⟩:=x
   cases vs with
   | nil=>simp at hp
   | cons y vs=>
     obtain ⟨v,hv0,hvok⟩:=hv 0 i p rfl
     simp at hv0;subst hv0
     simp only [zCe] at h
     split at h
     ·rename_i off n ps h1 h2
      split at h
      ·rename_i hle
       obtain ⟨a1,a2,a3⟩:=y7 h2 hvok
       have hlen:=a1.1
       have hcl:=hc.1
       have hst:vM off ps cs=cs.take off++ps++cs.drop (off+ps.length):=rfl
       have hfill:=zEo (place:=(pl.toArray[·]?)) (cells:=cells) (i:=i) (off:=off) (n:=n) (v:=v) (rest:=vs) (by simpa using h1) (by simp at hlen;omega) (by simp at hcl;omega)
       have hnew:CellsAre e (cells.toList.take off++v.cells.toList++cells.toList.drop (off+n)) (vM off ps cs):=by
        rw [hst,hle.1]
        exact ((hc.take off).append a1).append (hc.drop _)
       have hnok:sc av w e pB bx (vM off ps cs):=by
        rw [hst]
        intro q hq
        rcases oO.1 hq with hq | hq
        ·rcases oO.1 hq with hq | hq
         ·exact hok q (oV hq)
         ·exact ⟨(a2 q hq).1,.inr (a2 q hq).2.1,(a2 q hq).2.2⟩
        ·exact hok q (oi hq)
       obtain ⟨cells',b1,b2,b3⟩:=ih h (cells:=(cells.toList.take off++v.cells.toList++cells.toList.drop (off+n)).toArray) (vs:=vs) (by simpa using hnew) hnok (by simpa using hp)
        (fun j i p hj=>hv (j+1) i p (by simpa using hj))
       exact ⟨cells',by rw [hfill];exact b1,b2,b3⟩
      ·cases h
     ·cases h
theorem zBD {ρ:Operand->PV} {t:TypeId} {parts:Array (Nat × Operand)} {R:PV->Prop} (ho:∀ x∈(Op.build t parts).operands,OpdOk av a w e pB bx x (ρ x)) (h:rM P ρ t parts.toList R) :
  ∃ v p,(Instr.build t (parts.map fun (i,x)=>(i,a.eval x))).run P w=.ok v w/\R p/\ValOk av w e pB bx v p:=by
 unfold rM at h
 split at h
 ·rename_i fs cs hu hz
  split at h
  ·rename_i pl hpl
   split at h
   ·rename_i cs' hfill
    obtain ⟨i,z,hi,hz',hcells,hok,_⟩:=xV hz
    have hpl':=zBh (w:=w) hpl
    obtain ⟨cells',b1,b2,b3⟩:=zEK (w:=w) (e:=e) (pB:=pB) (bx:=bx) (cells:=z.cells) (vs:=parts.toList.map fun (i,x)=>(i,a.eval x)) hfill (hcells w e)
     (fun p hp=>⟨(hok w _ p hp).1,.inr (hok w (fun _=>False) p hp).2.1,by rw [(hok w (zJ av pB e bx) p hp).2.2];simp⟩) (by simp)
     (fun j i p hj=>by
      rw [oE] at hj
      cases hx:parts.toList[j]? with
      | none=>simp [hx] at hj
      | some y=>
        rw [hx] at hj
        simp at hj
        obtain ⟨rfl,rfl⟩:=hj
        have hmem:=oC hx
        refine ⟨a.eval y.2,by rw [oE,hx];rfl,(ho y.2 ?_).valOk⟩
        simp only [Op.operands]
        simp
        exact ⟨y.1,oa.1 (by simpa using hmem)⟩)
    obtain ⟨q,hq,hvq⟩:=p1 (w:=w) (e:=e) (pB:=pB) (bx:=bx) (vs:=cells'.toList) b2.1.symm b2.2 b3 h
    refine ⟨_,q,?_,hq,by simpa using hvq⟩
    have hm:(fs.mapM (fun f=>do pure (f.offset,<-sizeOf f.type)):Sem (Array (Nat × Nat))).run P w=.ok pl.toArray w:=by
     rw [Array.mapM_eq_mapM_toList]
     simp only [Sem.run_map,hpl',Result.andThen_ok]
    have hparts:(parts.map fun (i,x)=>(i,a.eval x)).toList=parts.toList.map fun (i,x)=>(i,a.eval x):=by simp
    unfold Instr.build
    simp only [Sem.run_bind,xd hi hz',Result.andThen_ok,run_underlying hu,hm,hparts,b1,Sem.run_pure]
   ·exact h.elim
  ·exact h.elim
 ·exact h.elim
/-- what a new box is good for -/
structure NewBox (av:Nat->Prop) (w:World) (e:Env) (pB:List Nat) (bx:List Bx) (v:Value) (w':World) (B:Bx) (f:Nat->PV):Prop where
 val:∀ (k:Nat) (e':Env),e'.at k=some w.heap.size->v=(f k).val e'
 fr:∀ k,(f k).refs=[k]
 fok:∀ (k:Nat) (w:World) (live:Nat->Prop),(f k).Ok w live
 rel:∀ e':Env,(∀ k∈B.refs,e'.at k=e.at k)->B.Rel w' e' (some w.heap.size)
 ok:B.Ok w (zJ av pB e bx)
 rf:∀ k∈B.refs,k∉pB/\k<bx.length
 ng:B≠.gone
theorem zDj {cs:List PV} {c:Array Value} {t:TypeId} {o:Obj} (hc:CellsAre e c.toList cs):∀ e':Env,(∀ k∈(Bx.var cs).refs,e'.at k=e.at k)->(Bx.var cs).Rel (w.alloc (.cells c t)) e' (some w.heap.size):=by
 intro e' he
 refine ⟨w.heap.size,c,t,rfl,heap_alloc_new w _,by have:=hc.1;simpa using this,fun i p hp=>?_⟩
 rcases hc.2 i p hp with h | h
 ·exact .inl h
 ·refine .inr ?_
  rw [PV.cv_congr p fun k hk=>he k (by simp only [Bx.refs];exact PV.refsL_mem.2 ⟨p,oC hp,hk⟩)]
  simpa using h
theorem ua {B:Bx} {w':World} (rel:∀ e':Env,(∀ k∈B.refs,e'.at k=e.at k)->B.Rel w' e' (some w.heap.size)) (ok:B.Ok w (zJ av pB e bx))
  (rf:∀ k∈B.refs,k∉pB/\k<bx.length) (ng:B≠.gone):NewBox av w e pB bx (.pointer (some ⟨w.heap.size,0,none⟩)) w' B (fun k=>.pb k 0 0 0):=
 ⟨fun k e' h=>by simp [PV.val,PV.val1,PV.cv,h],fun _=>rfl,fun _ _ _=>trivial,rel,ok,rf,ng⟩
theorem zAa {w':World} {t:TypeId} {z n m:Nat} {es:List D} {c:Array Value} (hb:w'.heap[w.heap.size]?=some (.cells c t (0,0))) (hc:c.size=m*ez z) (hn:es.length=n) (hnm:n<=m) (hm:m<=maxLen)
   (hes:∀ x∈es,eOk z x/\Good w (zJ av pB e bx) x) (hf:∀ (i:Nat) (u:D),(zg es)[i]?=some u->c[i]?=some u.cv) :
   NewBox av w e pB bx (.slice (some ⟨w.heap.size,0,none⟩) n m) w' (.arr t z es m) (fun k=>.sb k z 0 n m):=
 ⟨fun k e' h=>by simp [PV.val,PV.val1,PV.cv,h],fun _=>rfl,fun _ _ _=>trivial,
  fun e' _=>.inr ⟨w.heap.size,c,rfl,hb,Nat.le_of_eq hc.symm,by omega,hm,fun x hx=>(hes x hx).1,hf⟩,fun x hx=>(hes x hx).2,by simp [Bx.refs],by simp⟩
theorem rE {z:Nat} {d:D} (h:eOk z d):d.val.cells.toList=d.cells.map D.cv:=by
 unfold eOk at h
 split at h
 ·cases d with
  | ag cs=>exact h.elim
  | lit x=>
    simp [D.isCell] at h
    cases x<;>simp [Value.oneCell'] at h<;>rfl
  | sl a z es cap=>rfl
  | pt ad z x=>rfl
  | fn f caps=>rfl
  | mp b es c=>rfl
 ·obtain ⟨cs,rfl,_,_⟩:=h
  simp [D.val,D.cells,Value.cells]
theorem zE7 {z:Nat}:∀ (ds:List D) (k:Nat) (cells:Array Value),(∀ d∈ds,eOk z d)->(k+ds.length)*ez z<=cells.size ->
  ∃ cells',Instr.fill (fun i=>some (i*ez z,ez z)) cells ((ds.map D.val).zipIdx k |>.map fun x=>(x.2,x.1))=some cells' /\
    cells'.toList=cells.toList.take (k*ez z)++(zg ds).map D.cv++cells.toList.drop ((k+ds.length)*ez z)
 | [],k,cells,_,_=>⟨cells,rfl,by simp [zg]⟩
 | d::ds,k,cells,h,hle=>by
   have hd:=h d (by simp)
   have hsz:d.val.cells.size=ez z:=by
    rw [<-oh,rE hd,nM,zx hd]
   have hle':k*ez z+ez z<=cells.size:=by
    simp only [oR] at hle
    have:(k+1)*ez z<=(k+(ds.length+1))*ez z:=nW _ (by omega)
    rw [nL,Nat.one_mul] at this
    omega
   have h1:=zEo (place:=fun i=>some (i*ez z,ez z)) (cells:=cells) (i:=k) (off:=k*ez z) (n:=ez z) (v:=d.val)
    (rest:=(ds.map D.val).zipIdx (k+1) |>.map fun x=>(x.2,x.1)) rfl hsz hle'
   obtain ⟨cells',h2,h3⟩:=zE7 ds (k+1) (cells.toList.take (k*ez z)++d.val.cells.toList++cells.toList.drop (k*ez z+ez z)).toArray (fun x hx=>h x (by simp [hx]))
    (by simp only [oR] at hle;rw [show k+1+ds.length=k+(ds.length+1) by omega];simp;omega)
   refine ⟨cells',by simpa using h1.trans h2,?_⟩
   rw [h3]
   simp only [List.toList_toArray,xk,mE,rE hd]
   have e1:(k+1)*ez z=k*ez z+ez z:=by rw [nL,Nat.one_mul]
   have hl1:(cells.toList.take (k*ez z)).length=k*ez z:=by simp;omega
   have hl2:(d.cells.map D.cv).length=ez z:=by simp [zx hd]
   have ht:(cells.toList.take (k*ez z)++d.cells.map D.cv++cells.toList.drop (k*ez z+ez z)).take ((k+1)*ez z)=cells.toList.take (k*ez z)++d.cells.map D.cv:=by
    rw [mM (by simp only [oH,hl1,hl2];omega),nH (by simp only [oH,hl1,hl2];omega)]
   have hdr:(cells.toList.take (k*ez z)++d.cells.map D.cv++cells.toList.drop (k*ez z+ez z)).drop ((k+1+ds.length)*ez z)=cells.toList.drop ((k+(d::ds).length)*ez z):=by
    have e2:(k+1+ds.length)*ez z=k*ez z+ez z+ds.length*ez z:=by rw [nL,e1]
    rw [List.drop_append,nh (by simp only [oH,hl1,hl2];omega),ou,List.drop_drop]
    simp only [oH,hl1,hl2]
    congr 1
    simp only [oR]
    rw [show k+(ds.length+1)=k+1+ds.length by omega,e2]
    omega
   rw [ht,hdr]
   simp
theorem qn {z:Nat} {ρ:Operand->PV}:∀ (parts:List (Nat × Operand)) (k:Nat) (ds:List D),u2 z ρ k parts=some ds->(∀ x∈parts,OpdOk av a w e pB bx x.2 (ρ x.2)) ->
  (∀ d∈ds,eOk z d/\Good w (zJ av pB e bx) d)/\(parts.map fun (i,x)=>(i,a.eval x))=((ds.map D.val).zipIdx k |>.map fun x=>(x.2,x.1))
 | [],k,ds,h,_=>by simp [u2] at h;subst h;simp
 | (i,x)::rest,k,ds,h,ho=>by
   simp only [u2] at h
   split at h
   ·rename_i hik
    subst hik
    split at h
    ·rename_i d ds' h1 h2
     simp at h;subst h
     have hx:=ho (i,x) (by simp)
     obtain ⟨a1,a2,a3⟩:=sY (e:=e) h1 hx.ok
     obtain ⟨b1,b2⟩:=qn rest (i+1) ds' h2 (fun y hy=>ho y (by simp [hy]))
     have hne:ρ x≠.any:=fun hh=>by rw [hh] at h1;simp [zEJ,uU] at h1
     have hv:=hx.h.resolve_left hne
     refine ⟨fun y hy=>?_,?_⟩
     ·rcases oI.1 hy with rfl | hy
      ·exact ⟨a2,a1⟩
      ·exact b1 y hy
     ·simp only [oq,List.zipIdx_cons,b2]
      rw [hv,a3]
    ·cases h
   ·cases h
theorem zFp {ρ:Operand->PV} {o:Oper} {R:Bx->(Nat->PV)->Prop} (ho:∀ x∈o.op.operands,OpdOk av a w e pB bx x (ρ x)) (h:zET P ρ o.op R) :
  ∃ v c t B f,(execOp a.eval o).run P w=.ok (.value v) (w.alloc (.cells c t))/\R B f/\NewBox av w e pB bx v (w.alloc (.cells c t)) B f:=by
 obtain ⟨dst,op,ty,pos,after,guard⟩:=o
 simp only at ho h ⊢
 cases op<;>simp only [zET] at h<;>try exact h.elim
 case alloc t=>
  split at h
  ·rename_i cs hz
   obtain ⟨i,z,hi,hz',hcells,hok,_⟩:=xV hz
   refine ⟨_,z.cells,t,_,_,?_,h,ua (zDj (o:=.cells z.cells t) (hcells w e)) ⟨PV.OkL_iff.2 fun p hp=>(hok w _ p hp).1,fun p hp=>.inr (hok w (fun _=>False) p hp).2.1⟩ ?_ (by simp)⟩
   ·simp only [execOp,Instr.alloc,Sem.run_bind,xd hi hz',Result.andThen_ok,newVar,newRow,newObj,Sem.run,Sem.run_pure]
    rfl
   ·intro k hk
    simp only [Bx.refs] at hk
    obtain ⟨p,hp,hk⟩:=PV.refsL_mem.1 hk
    rw [(hok w (fun _=>False) p hp).2.2] at hk
    simp at hk
  ·exact h.elim
 case box t x=>
  have hx:=ho x (by simp [Op.operands])
  have hrun:∀ v,a.eval x=v->(execOp a.eval { dst:=dst,op:=Op.box t x,type:=ty,pos:=pos,after:=after,guard:=guard }).run P w=.ok (.value (.pointer (some ⟨w.heap.size,0,none⟩))) (w.alloc (.cells v.cells t)):=fun v hv=>by
   simp only [execOp,Instr.box,Sem.run_bind,hv,newVar,newRow,newObj,Sem.run,Sem.run_pure,Result.andThen_ok]
   rfl
  have one:∀ q:PV,q=retag P t (ρ x)->q.isC->(∃ cs,uF (ρ x)=some cs/\cs.length=1/\∀ c∈cs,c=ρ x)->R (.var [q]) (fun k=>.pb k 0 0 0) ->
    ∃ v c t' B f,(execOp a.eval { dst:=dst,op:=Op.box t x,type:=ty,pos:=pos,after:=after,guard:=guard }).run P w=.ok (.value v) (w.alloc (.cells c t'))/\R B f/\NewBox av w e pB bx v (w.alloc (.cells c t')) B f:=fun q hq hqc hpc hR=>by
   obtain ⟨cs,hcs,hl,hall⟩:=hpc
   have hvo:=hx.valOk
   obtain ⟨a1,a2,a3⟩:=y7 hcs hvo
   match cs,hl with
   | [c0],_=>
     have hc0:=hall c0 (by simp)
     subst hc0
     obtain ⟨r1,r2,r3,r4⟩:=pZ (P:=P) t (ρ x) w (zJ av pB e bx) e hx.ok
     have hq1:q.isC:=hqc
     refine ⟨_,_,t,_,_,hrun _ rfl,hR,ua (zDj (o:=.cells (a.eval x).cells t) (e:=e) (cs:=[q]) ?_) ⟨⟨by rw [hq];exact r1,trivial⟩,fun p hp=>.inr (by simp at hp;rw [hp];exact hqc)⟩ ?_ (by simp)⟩
     ·refine ⟨a1.1,fun i p hp=>?_⟩
      cases i with
      | succ i=>simp at hp
      | zero=>
        simp at hp;subst hp
        rcases a1.2 0 (ρ x) rfl with h | h
        ·left;rw [hq];exact r4.2 h
        ·right
         rw [h,<-PV.val_isC hqc,hq,r3,PV.val_isC (a2 _ (by simp)).2.1]
     ·intro k hk
      simp only [Bx.refs,PV.refsL,od] at hk
      rw [hq,r2] at hk
      exact hx.rf k hk
  have retC:∀ p:PV,p.isC->(retag P t p).isC:=fun p hp=>by
   cases p<;>simp [PV.isC] at hp<;>simp only [retag,xg]<;>try trivial
   ·split
    ·split<;>trivial
    ·trivial
  split at h
  ·rename_i cs hρ
   have hvo:=hx.valOk
   obtain ⟨a1,a2,a3⟩:=y7 (ps:=cs) (by rw [hρ];rfl) hvo
   exact ⟨_,_,t,_,_,hrun _ rfl,h,ua (zDj (o:=.cells (a.eval x).cells t) a1) ⟨PV.OkL_iff.2 fun p hp=>(a2 p hp).1,fun p hp=>.inr (a2 p hp).2.1⟩
    (fun k hk=>by simp only [Bx.refs] at hk;obtain ⟨p,hp,hk⟩:=PV.refsL_mem.1 hk;exact (a2 p hp).2.2 k hk) (by simp)⟩
  ·rename_i n y hρ
   have hv:=hx.h.resolve_left (by rw [hρ];simp)
   have hok:=hx.ok
   rw [hρ] at hv hok
   simp only [PV.Ok] at hok
   obtain ⟨hg,ha⟩:=hok
   have hvc:(a.eval x).cells.toList=y.cells.map D.cv:=by rw [hv];simp only [PV.val,PV.val1,ha.val,Value.cells]
   have hsz:(a.eval x).cells.size=n:=by rw [<-oh,hvc,nM,ha.length]
   refine ⟨_,_,t,_,_,hrun _ rfl,h,ua (fun e' _=>⟨w.heap.size,_,t,rfl,heap_alloc_new w _,hsz,ha,fun i u hu=>?_⟩) hg (by simp [Bx.refs]) (by simp)⟩
   rw [<-o3,hvc,oE,hu];rfl
  ·exact h.elim
  ·exact h.elim
  ·exact h.elim
  ·rename_i p h1 h2 h3 h4 h5
   have hpc:∃ cs,uF (ρ x)=some cs/\cs.length=1/\∀ c∈cs,c=ρ x:=by
    cases hp:ρ x<;>simp [hp] at h1 h2 h3 h4 h5<;>exact ⟨_,rfl,rfl,by simp⟩
   have hisC:(ρ x).isC:=by
    obtain ⟨cs,hcs,hl,hall⟩:=hpc
    obtain ⟨_,a2,_⟩:=y7 hcs hx.valOk
    match cs,hl with
    | [c0],_=>have:=a2 c0 (by simp);rw [hall c0 (by simp)] at this;exact this.2.1
   exact one _ rfl (retC _ hisC) hpc h
 case buildSlice t n parts=>
  split at h
  ·rename_i el hu
   split at h
   ·rename_i z hz
    split at h
    ·rename_i es hes
     split at h
     ·rename_i hc
      obtain ⟨hl,hcap,hzs⟩:=hc
      obtain ⟨zcs,hzcs⟩:=Option.isSome_iff_exists.1 hzs
      obtain ⟨i3,zv,hi3,hzv,_⟩:=xV hzcs
      obtain ⟨i,hi,hsz⟩:=s7 hz
      obtain ⟨b1,b2⟩:=qn (w:=w) (e:=e) (pB:=pB) (bx:=bx) (a:=a) parts.toList 0 es hes (fun y hy=>ho y.2 (by
       simp only [Op.operands]
       simp
       exact ⟨y.1,oa.1 (by simpa using hy)⟩))
      have hmax:n<=maxLen:=by
       have:=rP z
       have:n*1<=n*ez z:=Nat.mul_le_mul_left n this
       unfold maxLen;omega
      have hparts:(parts.map fun (i,x)=>(i,a.eval x)).toList=parts.toList.map fun (i,x)=>(i,a.eval x):=by simp
      have hnot:¬(n*ez z>2 ^ 24):=by omega
      have hfl:∀ zc:Array Value,∃ cells',Instr.fill (fun i=>some (i*ez z,ez z)) ((Array.range (n*ez z)).map (zc[· % zc.size]!)) ((es.map D.val).zipIdx |>.map fun x=>(x.2,x.1))=some cells'/\cells'.toList=(zg es).map D.cv:=fun zc=>by
       obtain ⟨cells',f1,f2⟩:=zE7 es 0 ((Array.range (n*ez z)).map (zc[· % zc.size]!)) (fun d hd=>(b1 d hd).1) (by simp [hl])
       refine ⟨cells',f1,?_⟩
       rw [f2]
       simp only [mR,ma,ou,nE,hl]
       rw [nh (by simp),od]
      have hlen:=zI (fun d hd=>(b1 d hd).1)
      have fin:∀ cells':Array Value,cells'.toList=(zg es).map D.cv->NewBox av w e pB bx (.slice (some ⟨w.heap.size,0,none⟩) n n) (w.alloc (.cells cells' el)) (.arr el z es n) (fun k=>.sb k z 0 n n):=fun cells' hcl=>
       zAa (heap_alloc_new w _) (by rw [<-oh,hcl,nM,hlen,hl]) hl (oF n) hmax b1 (fun i u hu=>by rw [<-o3,hcl,oE,hu];rfl)
      by_cases hn0:n*ez z=0
      ·obtain ⟨cells',f1,f2⟩:=hfl #[]
       refine ⟨_,cells',el,_,_,?_,h,fin cells' f2⟩
       simp only [execOp,Instr.buildSlice,Sem.run_bind,run_underlying hu,Result.andThen_ok,xM hz,if_neg hnot,if_pos hn0,hparts,b2,f1,Sem.run_pure,newRow,newObj,Sem.run]
       rfl
      ·obtain ⟨cells',f1,f2⟩:=hfl zv.cells
       refine ⟨_,cells',el,_,_,?_,h,fin cells' f2⟩
       simp only [execOp,Instr.buildSlice,Sem.run_bind,run_underlying hu,Result.andThen_ok,xM hz,if_neg hnot,if_neg hn0,xd hi3 hzv,hparts,b2,f1,Sem.run_pure,newRow,newObj,Sem.run]
       rfl
     ·exact h.elim
    ·exact h.elim
   ·exact h.elim
  ·exact h.elim
 case makeSlice t l c=>
  split at h
  ·rename_i el hu
   split at h
   ·rename_i z i hz hi
    split at h
    ·rename_i zd hzd
     obtain ⟨k1,n,h',hn⟩:=x3 (ho l (by simp [Op.operands])).valOk h
     obtain ⟨k2,m,h'',hm⟩:=x3 (ho c (by simp [Op.operands])).valOk h'
     obtain ⟨⟨g1,g2,g3,g4⟩,hfin⟩:=h''
     obtain ⟨i',hi',hsz⟩:=s7 hz
     have:i'=i:=by rw [hi] at hi';exact (o1 hi').symm
     subst this
     unfold zFX at hzd
     split at hzd
     ·rename_i cs hcs
      obtain ⟨i2,zv,hi2,hzv,hcells,hok,_⟩:=xV hcs
      have:i2=i':=by rw [hi] at hi2;exact (o1 hi2).symm
      subst this
      have hze:eOk z zd/\Good w (zJ av pB e bx) zd/\zd.cells.map D.cv=zv.cells.toList:=by
       split at hzd
       ·rename_i hz0
        subst hz0
        split at hzd
        ·rename_i p
         obtain ⟨q1,q2,q3,q4,_⟩:=yO (w:=w) (e:=e) hzd (hok w (zJ av pB e bx) p (by simp)).1
         refine ⟨by simpa [eOk] using q2,q1,?_⟩
         have hc0:zd.cells=[zd]:=by cases zd<;>simp [D.isCell,D.cells] at q2 ⊢
         rw [hc0,oq,mZ,q3]
         have:=hcells w e
         have h0:=this.2 0 p rfl
         have hne:p≠.any:=fun hh=>by subst hh;exact q4
         have h0:=h0.resolve_left hne
         have hl1:zv.cells.toList.length=1:=this.1
         match hzl:zv.cells.toList,hl1 with
         | [v0],_=>rw [hzl] at h0;simp at h0;rw [h0]
        ·cases hzd
       ·obtain ⟨q1,q2,q3⟩:=sY (w:=w) (e:=e) (live:=zJ av pB e bx) hzd ⟨PV.OkL_iff.2 fun p hp=>(hok w _ p hp).1,fun p hp=>(hok w (fun _=>False) p hp).2.1⟩
        refine ⟨q2,q1,?_⟩
        have hv1:=rE q2
        rw [q3] at hv1
        rw [<-hv1]
        have hc:=hcells w e
        rw [show (PV.val e (.pg cs)).cells.toList=cs.map (PV.cv e) from by simp [PV.val,PV.val1,Value.cells,PV.cvs_eq]]
        apply o6
        intro j
        rw [oE]
        cases hj:cs[j]? with
        | none=>
          have hl:=hc.1
          simp at hj
          rw [oU (by omega)];rfl
        | some p=>
          have hp:=oC hj
          have:=(hc.2 j p hj).resolve_left (fun hh=>by have:=(hok w (fun _=>False) p hp).2.1;rw [hh] at this;exact this)
          rw [this];rfl
      obtain ⟨z1,z2,z3⟩:=hze
      have hr:=run_make (P:=P) w t el i2 zv hu hi hzv k1 k2 n m g1 g2 (by omega) g4
      have hms:m.toNat*i2.size=m.toNat*ez z:=by rw [hsz]
      refine ⟨_,madeCells zv.cells (m.toNat*i2.size),el,_,_,by simp only [execOp,Sem.run_bind,hn,hm,hr,Result.andThen_ok,Sem.run_pure],hfin,zAa (heap_alloc_new w _) (by rw [size_madeCells,hms]) (by simp) (by omega) (by unfold maxLen;omega)
       (fun x hx=>by rw [(List.mem_replicate.1 hx).2];exact ⟨z1,z2⟩) (fun j u hj=>?_)⟩
      have hes:∀ x∈List.replicate n.toNat zd,eOk z x:=fun x hx=>by rw [(List.mem_replicate.1 hx).2];exact z1
      have hjl:j<n.toNat*ez z:=by
       have:=(oB.1 hj).1
       rw [zI hes,nl] at this;exact this
      have hp:=rP z
      have hq:j / ez z<n.toNat:=by
       rw [Nat.div_lt_iff_lt_mul hp];exact hjl
      have hr:j % ez z<ez z:=Nat.mod_lt _ hp
      have hzl:=zx z1
      have hu':zd.cells[j % ez z]?=some (zd.cells[j % ez z]'(by omega)):=oG (by omega)
      have hfg:=uZ hes (j:=j / ez z) (e:=zd) (by rw [mL];simp [hq]) hu'
      have hje:j / ez z*ez z+j % ez z=j:=by rw [Nat.mul_comm];exact Nat.div_add_mod j (ez z)
      rw [hje,hj] at hfg
      have huu:=o1 hfg
      have hzvs:zv.cells.size=ez z:=by rw [<-oh,<-z3,nM,hzl]
      have hmj:j<m.toNat*i2.size:=by rw [hms];exact ow hjl (nW _ (by omega))
      unfold madeCells
      rw [Array.getElem?_map,Array.getElem?_range]
      simp only [hmj,mg,oT,hzvs]
      congr 1
      have hgv:zv.cells[j % ez z]?=some u.cv:=by
       rw [<-o3,<-z3,oE,hu',huu];rfl
      rw [getElem!_def,hgv]
     ·cases hzd
    ·exact h.elim
   ·exact h.elim
  ·exact h.elim
end Go.Proofs.YtmfjakahanbnlaaGreatDoor
