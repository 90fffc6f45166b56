/- Maps of strings to strings: what they hold, a look, a put. -/
import Derived.Test.YtmfjakahanbnlaaGreatDoorJf
import Derived.MapKept
import Derived.Test.YtmfjakahanbnlaaGreatDoorJh
import Derived.Test.YtmfjakahanbnlaaGreatDoorProg
import Derived.Shelf.SlMaps.Clone
import Derived.Test.YtmfjakahanbnlaaGreatDoorA8
import Derived.Test.YtmfjakahanbnlaaGreatDoorKf
set_option linter.unusedVariables false
set_option linter.unusedSimpArgs false
namespace Go.Proofs.YtmfjakahanbnlaaGreatDoor
open Go Go.MapKept
def entS (x:ByteArray × ByteArray × Nat):MapEntry:={ key:=.string x.1,val:=.string x.2.1,born:=x.2.2 }
def zDV (s:ByteArray):List (ByteArray × ByteArray × Nat)->Option ByteArray
 | []=>none
 | x::l=>if s=x.1 then some x.2.1 else zDV s l
def zIR (env:ByteArray->Option ByteArray) (s u:ByteArray):ByteArray->Option ByteArray:=fun s'=>if s'=s then some u else env s'
structure MapIs (es:Array MapEntry) (env:ByteArray->Option ByteArray):Prop where
 h:∃ l,es.toList=l.map entS/\∀ s,zDV s l=env s
theorem zFz:MapIs #[] fun _=>none:=⟨[],rfl,fun _=>rfl⟩
theorem zCc (s' s u:ByteArray) (c:Nat):∀ l,zDV s l=none->zDV s' (l++[(s,u,c)])=if s'=s then some u else zDV s' l
 | [],_=>rfl
 | x::l,h=>by
   simp only [zDV,nY] at h ⊢
   by_cases h1:s=x.1
   ·rw [if_pos h1] at h;cases h
   ·rw [if_neg h1] at h
    rw [zCc s' s u c l h]
    by_cases h2:s'=x.1
    ·rw [if_pos h2,if_pos h2,if_neg (fun e=>h1 (e.symm.trans h2))]
    ·rw [if_neg h2,if_neg h2]
theorem zJB (s:ByteArray):∀ (l:List (ByteArray × ByteArray × Nat)) (i:Nat),(zDV s l=none/\Instr.findNow .string (.string s) (l.map entS) i=some none) \/
  ∃ j x,l[j]?=some x/\x.1=s/\zDV s l=some x.2.1/\Instr.findNow .string (.string s) (l.map entS) i=some (some (i+j,.string x.2.1)) /\
    ∀ u s',zDV s' (l.set j (s,u,x.2.2))=if s'=s then some u else zDV s' l
 | [],i=>.inl ⟨rfl,rfl⟩
 | y :: l,i=>by
   by_cases h:s=y.1
   ·refine .inr ⟨0,y,rfl,h.symm,by simp [zDV,h],?_,fun u s'=>?_⟩
    ·have hb:(s==y.1)=true:=(bytes_beq s y.1).2 h
     simp only [oq,Instr.findNow,Instr.sameNow,entS,hb,nw]
    ·simp only [List.set_cons_zero,zDV]
     by_cases h1:s'=s
     ·rw [if_pos h1,if_pos h1]
     ·rw [if_neg h1,if_neg h1,if_neg (fun e=>h1 (e.trans h.symm))]
   ·have e1:Instr.findNow .string (.string s) ((y::l).map entS) i=Instr.findNow .string (.string s) (l.map entS) (i+1):=by
     have hb:(s==y.1)=false:=by
      cases hh:s==y.1
      ·rfl
      ·exact absurd ((bytes_beq s y.1).1 hh) h
     simp only [oq,Instr.findNow,Instr.sameNow,entS,hb]
    have e2:zDV s (y::l)=zDV s l:=by simp only [zDV,if_neg h]
    rw [e1,e2]
    rcases zJB s l (i+1) with h1 | ⟨j,x,h1,h2,h3,h4,h5⟩
    ·exact .inl h1
    ·refine .inr ⟨j+1,x,by simpa using h1,h2,h3,by rw [h4];simp;omega,fun u s'=>?_⟩
     simp only [List.set_cons_succ,zDV,h5]
     by_cases h6:s'=y.1
     ·rw [if_pos h6,if_pos h6,if_neg (fun e=>h (e.symm.trans h6))]
     ·rw [if_neg h6,if_neg h6]
section
variable {P:Program} {t k e:TypeId} {es:Array MapEntry} {env:ByteArray->Option ByteArray}
theorem zJK (ht:P.underlying t=some (.map k e)) (hk:P.underlying k=some .string) (hz:∀ w,(zeroValue e).run P w=.ok (.string ByteArray.empty) w) (h:MapIs es env) (c:Nat) (s:ByteArray) :
  zEr P t es c s (env s):=fun w b hb=>by
 obtain ⟨l,hl,hg⟩:=h.h
 have hck:IsKey .string (.string s):=trivial
 rcases zJB s l 0 with ⟨h1,h2⟩ | ⟨j,x,h1,h2,h3,h4,h5⟩
 ·rw [<-hl] at h2
  rw [<-hg,h1]
  simp [Instr.lookup,run_underlying ht,MapKept.run_getObj_map hb,MapKept.run_checkKey hk hck,MapKept.run_findKey hk h2,Result.andThen,hz]
 ·rw [<-hl] at h4
  rw [<-hg,h3]
  simp [Instr.lookup,run_underlying ht,MapKept.run_getObj_map hb,MapKept.run_checkKey hk hck,MapKept.run_findKey hk h4,Result.andThen,hz]
theorem zJk (ht:P.underlying t=some (.map k e)) (hk:P.underlying k=some .string) (h:MapIs es env) (c:Nat) (s u:ByteArray) :
  ∃ es' c',zE8 P t es c s u es' c'/\MapIs es' (zIR env s u):=by
 obtain ⟨l,hl,hg⟩:=h.h
 have hck:IsKey .string (.string s):=trivial
 have fin:∀ (w:World) (b:Nat) (es':Array MapEntry) (c':Nat),w.heap[b]?=some (.map es c)->(Instr.mapUpdate t (.map (some b)) (.string s) (.string u)).run P w=.ok () { w with heap:=w.heap.setIfInBounds b (.map es' c') } ->
   ∃ w',(Instr.mapUpdate t (.map (some b)) (.string s) (.string u)).run P w=.ok () w'/\w'.heap.size=w.heap.size/\w'.heap[b]?=some (.map es' c')/\(∀ j,j≠b->w'.heap[j]?=w.heap[j]?)/\KU w w':=fun w b es' c' hb hr=>
  ⟨_,hr,by simp,(heap_set hb).1,fun j hj=>(heap_set hb).2 j hj,⟨rfl,rfl⟩⟩
 rcases zJB s l 0 with ⟨h1,h2⟩ | ⟨j,x,h1,h2,h3,h4,h5⟩
 ·rw [<-hl] at h2
  refine ⟨es.push ⟨.string s,.string u,c⟩,c+1,fun w b hb=>fin w b _ _ hb ?_,⟨l++[(s,u,c)],by simp [hl,entS],fun s'=>?_⟩⟩
  ·simp [Instr.mapUpdate,run_underlying ht,MapKept.run_getObj_map hb,MapKept.run_checkKey hk hck,MapKept.run_findKey hk h2,MapKept.run_setObj_map _ hb,Result.andThen]
  ·rw [zCc s' s u c l h1,hg];rfl
 ·rw [<-hl] at h4
  have hj:es[j]?=some (entS x):=by
   rw [<-o3,hl,oE,h1];rfl
  have hkx:(entS x).key=.string s:=by rw [<-h2];rfl
  refine ⟨es.modify j fun e'=>{ e' with key:=.string s,val:=.string u },c,fun w b hb=>fin w b _ _ hb ?_,⟨l.set j (s,u,x.2.2),?_,fun s'=>?_⟩⟩
  ·simp [Instr.mapUpdate,run_underlying ht,MapKept.run_getObj_map hb,MapKept.run_checkKey hk hck,MapKept.run_findKey hk h4,hj,hkx,MapKept.run_keyThatStays hck,MapKept.run_setObj_map _ hb,Result.andThen]
  ·apply o6
   intro i
   rw [o3,Array.getElem?_modify,oE,nI]
   have hli:es[i]?=(l[i]?).map entS:=by rw [<-o3,hl,oE]
   have hjl:j<l.length:=(oB.1 h1).1
   by_cases hij:j=i
   ·subst hij
    rw [if_pos rfl,if_pos rfl,if_pos hjl,hj]
    rfl
   ·rw [if_neg hij,if_neg hij,hli]
  ·rw [h5,hg];rfl
end
end Go.Proofs.YtmfjakahanbnlaaGreatDoor
namespace Go.Proofs
namespace YtmfjakahanbnlaaGreatDoor
open Go Go.Proofs Go.Proofs.Tryz Go.RowKit Go.Shelf
def zKh:Go.Shelf.Ren:=⟨fun x=>match x with | 5=>186 | 7=>243 | n=>n,fun x=>match x with | 4=>4 | 20=>20 | 23=>134 | 25=>9 | 3=>9 | n=>n,fun n=>n⟩
theorem zKq:SlLaysW.n5 Tryz.prog zKh where
 mixed:=by kernel_rfl
 f5 := ⟨"maps.Clone[map[string]string,string,string]", by decide, Tryz.func186.trans (o9 some (by kernel_rfl))⟩
 f7:=Tryz.func243.trans (o9 some (by kernel_rfl))
 t4:=Tryz.underlying4
 a4:=Tryz.isAgg4
 z4:=Tryz.sizeOf4
 v4:=Tryz.zeroValue4
 t20:=Tryz.underlying20
 a20:=Tryz.isAgg20
 z20:=Tryz.sizeOf20
 v20:=Tryz.zeroValue20
 t23:=Tryz.underlying134
 a23:=Tryz.isAgg134
 z23:=Tryz.sizeOf134
 v23:=Tryz.zeroValue134
theorem zC6 {b:Nat} {es:Array MapEntry} {c:Nat} (N:Nat) (Q:QT [.dc]) (hQ:∀ b' N',N<=b'->b'<N'->Q (.mp b' es c) N'):ACalls prog 186 [.dc] [.dc (.mp b es c)] N Q:=
 ⟨by kernel_rfl,fun av w0 hN hav hargs=>by
  have hg:=(hargs (.dc (.mp b es c)) (by simp)).1
  simp only [PV.Ok] at hg
  have hb:w0.heap[b]?=some (.map es c):=by
   have:=hg.1.1
   cases this
   assumption
  refine (AnyW.maps_Clone zKq b es c w0 hb).mono fun e w ⟨he,hw⟩=>?_
  subst he
  subst hw
  subst hN
  refine ⟨[.dc (.mp w0.heap.size es c)],[],[],?_⟩
  exact { q := hQ _ _ (oF _) (by simp),v:=rfl,m:=⟨rfl,by simp,by simp,by simp,fun k j b h=>by obtain ⟨_,h2,_⟩:=h;simp [Env.at] at h2⟩,
          ok:=fun p hp=>(by
           simp at hp
           subst hp
           refine ⟨⟨.mp w7,fun j hj hl=>?_⟩,trivial⟩
           simp only [D.foot,o8] at hj
           subst hj
           rcases hl with hl | ⟨k,hk⟩
           ·exact Nat.lt_irrefl _ (hav.lt _ hl)
           ·obtain ⟨_,h2,_⟩:=hk
            simp [Env.at] at h2),
          fresh:=fun k b h=>(by simp [Env.at] at h),size:=(by simp),old:=fun j hj=>vB hj,
          fz:=fun j c' t z hj h=>(by
           by_cases hjw:j=w0.heap.size
           ·subst hjw;rw [w7] at h;cases h
           ·have:=(oN.1 h).1
            simp at this
            omega),ku:=⟨rfl,rfl⟩ }⟩
end YtmfjakahanbnlaaGreatDoor
end Go.Proofs
namespace Go.Proofs.YtmfjakahanbnlaaGreatDoor
open Go Go.Proofs Go.Proofs.Tryz Go.IntWalk
def xH (k:Nat):ByteArray:=⟨(98::Lib.decDigits k).toArray⟩
theorem zE6 (k:Nat):bytes [98]++zJW k=xH k:=wP (by rw [zA2];rfl)
theorem zFY (k:Nat) (h:k<=4611686018427387904):(xH k).size<=21:=by
 have:=px k h
 show (98::Lib.decDigits k).toArray.size<=21
 rw [nS,oR,Lib.decDigits_length];omega
theorem zCN {a b:Nat} (h:xH a=xH b):a=b:=by
 have:(98::Lib.decDigits a:List UInt8)=98::Lib.decDigits b:=by
  have:=o9 (fun x:ByteArray=>x.data.toList) h
  simpa [xH] using this
 exact zJQ a b (by simpa using this)
theorem zIj:∀ (n k:Nat),((List.range n).map fun i=>xH (k+i)).Nodup:=fun n k=>by
 rw [List.nodup_iff_pairwise_ne,List.pairwise_map]
 refine List.Pairwise.imp (fun {a b} h hc=>?_) (List.nodup_iff_pairwise_ne.1 List.nodup_range)
 have:=zCN hc
 omega
theorem zDI (l:List ByteArray) (k:Nat) (h:∀ j,1<=j->j<k->xH j∈l) (hk:1<=k):k<=l.length+1:=by
 have:=zGM (zIj (k - 1) 1) (m:=l) fun x hx=>by
  obtain ⟨i,hi,rfl⟩:=oQ.1 hx
  rw [List.mem_range] at hi
  exact h _ (by omega) (by omega)
 simp at this
 omega
/-- what is the least number whose name is free -/
def BLeast (u:List ByteArray) (k:Nat):Prop:=1<=k/\xH k∉u/\∀ j,1<=j->j<k->xH j∈u
theorem BLeast.eq {u:List ByteArray} {k j:Nat} (h:BLeast u k) (h':BLeast u j):k=j:=
 Nat.le_antisymm (Nat.le_of_not_lt fun hc=>h'.2.1 (h.2.2 j h'.1 hc)) (Nat.le_of_not_lt fun hc=>h.2.1 (h'.2.2 k h.1 hc))
theorem zCO (u:List ByteArray):∃ k,BLeast u k:=by
 have key:∀ f k,1<=k->k+f=u.length+1->(∀ j,1<=j->j<k->xH j∈u)->∃ k,BLeast u k:=by
  intro f
  induction f with
  | zero=>
    intro k h1 h2 h3
    refine ⟨k,h1,fun hc=>?_,h3⟩
    have:=zDI u (k+1) (fun j h4 h5=>by
     by_cases h6:j=k
     ·subst h6;exact hc
     ·exact h3 j h4 (by omega)) (by omega)
    omega
  | succ f ih=>
    intro k h1 h2 h3
    by_cases hm:xH k∈u
    ·exact ih (k+1) (by omega) (by omega) fun j h4 h5=>by
      by_cases h6:j=k
      ·subst h6;exact hm
      ·exact h3 j h4 (by omega)
    ·exact ⟨k,h1,hm,h3⟩
 exact key u.length 1 (oF _) (by omega) fun j h1 h2=>by omega
noncomputable def bNo (u:List ByteArray):Nat:=Classical.choose (zCO u)
theorem zBJ (u:List ByteArray):BLeast u (bNo u):=Classical.choose_spec (zCO u)
noncomputable def xi (u:List ByteArray):ByteArray:=xH (bNo u)
theorem qp {u:List ByteArray} {k:Nat} (h:BLeast u k):xi u=xH k:=by unfold xi;rw [(zBJ u).eq h]
/-- the program's loop -/
theorem zD6 (u:List ByteArray) (P:Nat->Nat->Prop) (N:Nat) (F:ByteArray->Nat->Prop) (hF:∀ N',N<=N'->F (xi u) N')
  (step:∀ (k N':Nat),N<=N'->k<=u.length+1->(∀ N'',N'<=N''->xH k∈u->P (k+1) N'')->(∀ N'',N'<=N''->xH k∉u->F (xH k) N'')->P k N'):P 1 N:=by
 have key:∀ (f k:Nat) (N':Nat),N<=N'->1<=k->k+f=u.length+1->(∀ j,1<=j->j<k->xH j∈u)->P k N':=by
  intro f
  induction f with
  | zero=>
    intro k N' hN' hk1 hkf hall
    refine step k N' hN' (by omega) (fun N'' h1 hm=>?_) fun N'' h1 hm=>by rw [<-qp ⟨hk1,hm,hall⟩];exact hF _ (by omega)
    exfalso
    have:=zDI u (k+1) (fun j h4 h5=>by
     by_cases h6:j=k
     ·subst h6;exact hm
     ·exact hall j h4 (by omega)) (by omega)
    omega
  | succ f ih=>
    intro k N' hN' hk1 hkf hall
    refine step k N' hN' (by omega) (fun N'' h1 hm=>?_) fun N'' h1 hm=>by rw [<-qp ⟨hk1,hm,hall⟩];exact hF _ (by omega)
    exact ih (k+1) N'' (by omega) (by omega) (by omega) fun j h4 h5=>by
     by_cases h6:j=k
     ·subst h6;exact hm
     ·exact hall j h4 (by omega)
 exact key u.length 1 N (oF _) (oF _) (by omega) fun j h1 h2=>by omega
/-- the reference's counter, and the program's list of names in use -/
structure CanI (free:List ByteArray) (next:Nat) (u:List ByteArray):Prop where
 lo:∀ j,1<=j->j<=next->xH j∈u
 hi:∀ j,next<j->(xH j∈u↔xH j∈free)
theorem CanI.le {free u:List ByteArray} {next:Nat} (h:CanI free next u):next<=u.length:=by
 have:=zDI u (next+1) (fun j h1 h2=>h.lo j h1 (by omega)) (by omega)
 omega
theorem zFs (free:List ByteArray):CanI free 0 free:=⟨fun j h1 h2=>by omega,fun j h=>mS⟩
/-- the reference's loop -/
theorem zGa {free u:List ByteArray} {next:Nat} (hI:CanI free next u) (P:Nat->Nat->Prop) (N:Nat) (F:ByteArray->Nat->Nat->Prop)
  (hF:∀ n' N',N<=N'->CanI free n' (u++[xi u])->F (xi u) n' N')
  (step:∀ (k N':Nat),N<=N'->k<=u.length->(∀ N'',N'<=N''->xH (k+1)∈free->P (k+1) N'')->(∀ N'',N'<=N''->xH (k+1)∉free->F (xH (k+1)) (k+1) N'')->P k N'):P next N:=by
 have key:∀ (f k:Nat) (N':Nat),N<=N'->next<=k->k+f=u.length->(∀ j,1<=j->j<=k->xH j∈u)->P k N':=by
  intro f
  have out:∀ (k:Nat) (N':Nat),N<=N'->next<=k->(∀ j,1<=j->j<=k->xH j∈u)->xH (k+1)∉free->F (xH (k+1)) (k+1) N':=fun k N' hN' hk hall hm=>by
   have e:=qp (u:=u) (k:=k+1) ⟨by omega,fun hc=>hm ((hI.hi _ (by omega)).1 hc),fun j h1 h2=>hall j h1 (by omega)⟩
   rw [<-e]
   refine hF _ _ hN' ⟨fun j h1 h2=>?_,fun j h1=>?_⟩
   ·by_cases h3:j=k+1
    ·subst h3;rw [e];simp
    ·exact oW _ (hall j h1 (by omega))
   ·rw [e,oO,o8,hI.hi j (by omega)]
    constructor
    ·rintro (h2 | h2)
     ·exact h2
     ·have:=zCN h2;omega
    ·exact .inl
  induction f with
  | zero=>
    intro k N' hN' hk hkf hall
    refine step k N' hN' (by omega) (fun N'' h1 hm=>?_) fun N'' h1 hm=>out k N'' (by omega) hk hall hm
    exfalso
    have:=zDI u (k+2) (fun j h4 h5=>by
     by_cases h6:j=k+1
     ·subst h6;exact (hI.hi _ (by omega)).2 hm
     ·exact hall j h4 (by omega)) (by omega)
    omega
  | succ f ih=>
    intro k N' hN' hk hkf hall
    refine step k N' hN' (by omega) (fun N'' h1 hm=>?_) fun N'' h1 hm=>out k N'' (by omega) hk hall hm
    exact ih (k+1) N'' (by omega) (by omega) (by omega) fun j h4 h5=>by
     by_cases h6:j=k+1
     ·subst h6;exact (hI.hi _ (by omega)).2 hm
     ·exact hall j h4 (by omega)
 exact key (u.length - next) next N (oF _) (oF _) (by have:=hI.le;omega) hI.lo
/-- names given one behind the other -/
noncomputable def yM:Nat->List ByteArray->List ByteArray
 | 0,_=>[]
 | m+1,u=>xi u::yM m (u++[xi u])
theorem yE:∀ m u,(yM m u).length=m
 | 0,_=>rfl
 | m+1,u=>by simp [yM,yE m]
theorem wA:∀ (m:Nat) (u:List ByteArray),yM (m+1) u=yM m u++[xi (u++yM m u)]
 | 0,u=>by simp [yM]
 | m+1,u=>by
   rw [yM,wA m,yM]
   simp [nC]
abbrev NEnv:=ByteArray->Option ByteArray
def yU:NEnv->List ByteArray->List ByteArray->NEnv
 | env,o::os,n::ns=>yU (zIR env o n) os ns
 | env,_,_=>env
mutual
/-- what lies under a variable's node is copied (b), or replaced, too -/
noncomputable def can (b:Bool):Tm->NEnv->List ByteArray->Tm × List ByteArray
 | .mk k nm ot n ty re l,env,u=>if k=1/\b=true then (.mk k ((env nm).getD nm) ot n ty re l,u) else
   let now:=yM (bdN k nm ot l.length).length u
   let r:=r7 b l (xL k l.length) env (yU env (bdN k nm ot l.length) now) 0 (u++now)
   (.mk k (now.headD (if k=1 then (env nm).getD nm else nm)) (now.tail.headD ot) n ty re r.1,r.2)
noncomputable def r7 (b:Bool):List Tm->Int->NEnv->NEnv->Nat->List ByteArray->List Tm × List ByteArray
 | [],_,_,_,_,u=>([],u)
 | x::xs,at_,env,inner,i,u=>
   let r:=can b x (if (i:Int)=at_ then inner else env) u
   let q:=r7 b xs at_ env inner (i+1) r.2
   (r.1::q.1,q.2)
end
mutual
/-- no variable has parts -/
def Tm.vok:Tm->Bool
 | .mk k _ _ _ _ _ l=>(!decide (k=1)||l.isEmpty)&&zIJ l
def zIJ:List Tm->Bool
 | []=>true
 | x::l=>x.vok&&zIJ l
end
mutual
theorem zIp:∀ (t:Tm) (env:NEnv) (u:List ByteArray),t.vok=true->can true t env u=can false t env u
 | .mk k nm ot n ty re l,env,u,h=>by
   simp only [Tm.vok,oL,mF,o7,mY] at h
   by_cases hk:k=1
   ·have hl:l=[]:=by simpa [hk] using h.1
    subst hl
    have hb:bdN k nm ot ([]:List Tm).length=[]:=by unfold bdN;rw [if_neg (by omega),if_neg (by omega),if_neg (by omega)]
    simp [can,r7,hk,yM]
    rw [hk] at hb
    simp only [nN] at hb
    simp [hb,yM]
   ·simp only [can,hk,false_and,nO,zHT l _ _ _ _ _ h.2]
theorem zHT:∀ (l:List Tm) (at_:Int) (env inner:NEnv) (i:Nat) (u:List ByteArray),zIJ l=true->r7 true l at_ env inner i u=r7 false l at_ env inner i u
 | [],_,_,_,_,_,_=>rfl
 | x::xs,at_,env,inner,i,u,h=>by
   simp only [zIJ,oL] at h
   simp only [r7,zIp x _ _ h.1,zHT xs _ _ _ _ _ h.2]
end
mutual
theorem zGy (b:Bool):∀ (t:Tm) (env:NEnv) (u:List ByteArray),(can b t env u).1.vok=true->t.vok=true
 | .mk k nm ot n ty re l,env,u,h=>by
   simp only [can] at h
   split at h
   ·simpa only [Tm.vok] using h
   ·simp only [Tm.vok,oL] at h ⊢
    refine ⟨?_,zEp b _ _ _ _ _ _ h.2⟩
    have h1:=h.1
    cases l with
    | nil=>simp
    | cons x xs=>simpa only [r7,List.isEmpty_cons] using h1
theorem zEp (b:Bool):∀ (l:List Tm) (at_:Int) (env inner:NEnv) (i:Nat) (u:List ByteArray),zIJ (r7 b l at_ env inner i u).1=true->zIJ l=true
 | [],_,_,_,_,_,_=>rfl
 | x::xs,at_,env,inner,i,u,h=>by
   simp only [r7,zIJ,oL] at h ⊢
   exact ⟨zGy b x _ _ h.1,zEp b xs _ _ _ _ _ h.2⟩
end
mutual
theorem zIw:∀ t:Tm,t.ok=true->t.vok=true
 | .mk k nm ot n ty re l,h=>by
   have h2:sn l=true/\(l.length:Int)=zCH k nm:=by
    simp only [Tm.ok,oL,mJ] at h
    exact ⟨h.1,h.2.2⟩
   simp only [Tm.vok,oL,mF,o7,mY]
   refine ⟨?_,zGR l h2.1⟩
   by_cases hk:k=1
   ·right
    have:=h2.2
    unfold zCH at this
    rw [if_pos (by omega)] at this
    rw [nU.1 (by omega:l.length=0)];rfl
   ·exact .inl hk
theorem zGR:∀ l:List Tm,sn l=true->zIJ l=true
 | [],_=>rfl
 | x::l,h=>by
   simp only [sn,oL] at h
   simp only [zIJ,zIw x h.1,zGR l h.2,Bool.and_self]
end
theorem zBm (u:List ByteArray) (hl:u.length<=8796093022200) (a:Option Addr) (c:Nat):wM 244 [.str (bytes [98]),.sv a 0 (zA u) c] (xi u):=fun N Q hQ=>by
 refine zCW N _ a _ c Q fun _=>?_
 refine zD6 u (fun k N'=>xf Q N (bytes [98]) a (zA u) c k N') N (fun s N'=>Q s N') hQ fun k N' hN' hk hin hout=>?_
 have hnd:=px k (by omega)
 have hds:=qz k
 have hb:(bytes [98]).size=1:=rfl
 refine zAH _ _ _ _ _ _ _ _ fun N2 hN2=>vZ k (by omega) N2 _ fun N3 hN3 _=>⟨by omega,fun N4 hN4=>?_⟩
 rw [zE6]
 refine xc u (by omega) a c (xH k) N4 _ fun N5 hN5 _=>?_
 rw [zD5]
 refine Br.ndec (fun h N6 hN6=>hout N6 (by omega) h) fun h=>?_
 rw [i64_in _ (by omega)]
 exact hin _ (by omega) h
theorem zKF (u:List ByteArray) (hl:u.length<=8796093022200) (q N:Nat) (Q:QT [.str,.sl 0]) (hQ:∀ c N',N<=N'->Q (xi u) none (zA (u++[xi u])) c N') :
  BCalls prog 187 [.str,.sl 0] [.pb 0 0 0 0] [.var [.sb 1 0 0 (zA u).length q],.arr 9 0 (zA u) q] N Q:=
 w9 N _ _ _ _ Q fun E _=>⟨⟨rfl,rfl⟩,fun a _ N1 hN1 _=>zBm u hl a q N1 _ fun N2 hN2 _=>⟨⟨rfl,rfl⟩,vN (by omega),fun c=>⟨zGf,⟨rfl,rfl⟩,fun N3 hN3=>by
  rw [yN]
  exact hQ c N3 (by omega)⟩⟩⟩
theorem zG7 {free u:List ByteArray} {next:Nat} (hI:CanI free next u) (hl:u.length<=8796093022200) (hf:free.length<=8796093022200) (a:Option Addr) (c N:Nat) (Q:QT [.str,.sl 0,.int .i64])
  (hQ:∀ (n' N':Nat),N<=N'->CanI free n' (u++[xi u])->Q (xi u) a (zA free) c (n':Int) N') :
  BCalls prog 173 [.str,.sl 0,.int .i64] [.pb 0 0 0 0] [.var [.sv a 0 (zA free) c,.int .i64 next]] N Q:=by
 refine s5 N a _ c _ Q fun E _=>?_
 refine zGa hI (fun k N'=>yk E Q N a (zA free) c (k:Int) N') N (fun s n' N'=>Q s a (zA free) c (n':Int) N') hQ fun k N' hN' hk hin hout=>?_
 have e:IntKind.i64.wrap ((k:Int)+1)=((k+1:Nat):Int):=by rw [i64_in _ (by omega)];omega
 have hnd:=px (k+1) (by omega)
 have hds:=qz (k+1)
 refine rt _ _ _ _ _ _ _ _ fun N1 hN1=>?_
 rw [e]
 refine vU (k+1) (by omega) N1 _ fun N2 hN2 _=>⟨by omega,fun N3 hN3=>?_⟩
 rw [zE6]
 refine wn free (by omega) a c (xH (k+1)) N3 _ fun N4 hN4 _=>?_
 rw [zDf]
 exact Br.dec (fun h=>⟨zGf,fun N5 hN5=>hout N5 (by omega) h⟩) fun h=>hin _ (by omega) (Decidable.not_not.1 h)
/-- the new name of a variable, in the reference's two lists -/
def zB9:Nat->List ByteArray->List ByteArray->ByteArray->ByteArray
 | 0,_,_,s=>s
 | k+1,fr,to,s=>if fr[k]?=some s then (to[k]?).getD s else zB9 k fr to s
structure EnvR (fr to:List ByteArray) (env:NEnv):Prop where
 len:fr.length=to.length
 h:∀ s,zB9 fr.length fr to s=(env s).getD s
theorem zC9 (fr to fr' to':List ByteArray) (s:ByteArray) (hl:fr.length=to.length):∀ k,k<=fr.length->zB9 k (fr++fr') (to++to') s=zB9 k fr to s
 | 0,_=>rfl
 | k+1,h=>by
   simp only [zB9]
   rw [oK (by omega),oK (by omega),zC9 fr to fr' to' s hl k (by omega)]
theorem EnvR.snoc {fr to:List ByteArray} {env:NEnv} (h:EnvR fr to env) (o n:ByteArray):EnvR (fr++[o]) (to++[n]) (zIR env o n):=by
 have hl:=h.len
 refine ⟨by simp [h.len],fun s=>?_⟩
 rw [oH,me]
 simp only [zB9]
 rw [oM (oF _),hl,oM (oF _),<-hl,zC9 fr to _ _ s hl _ (oF _),h.h]
 simp only [Nat.sub_self,nu,oZ,zIR,oc]
 by_cases e:o=s
 ·rw [if_pos e,if_pos e.symm];rfl
 ·rw [if_neg e,if_neg (fun c=>e c.symm)]
theorem EnvR.app:∀ {ns now:List ByteArray} {fr to:List ByteArray} {env:NEnv},EnvR fr to env->ns.length=now.length->EnvR (fr++ns) (to++now) (yU env ns now)
 | [],[],fr,to,env,h,_=>by simpa [yU] using h
 | o::os,n::ns,fr,to,env,h,hl=>by
   have:=EnvR.app (h.snoc o n) (ns:=os) (now:=ns) (by simpa using hl)
   rw [nC,nC] at this
   exact this
 | [],_::_,_,_,_,_,hl=>by simp at hl
 | _::_,[],_,_,_,_,hl=>by simp at hl
theorem uT {l:List ByteArray} {k:Nat} {s:ByteArray} (h:l[k]?=some s):List.getD (zA l) k default=.lit (.string s):=by
 rw [oA];simp [zA,h]
theorem zGC {fr to:List ByteArray} (hl:fr.length=to.length) (hb:fr.length<=4611686018427387904) (a a':Option Addr) (c c':Nat) (s:ByteArray) :
  wM 171 [.sv a 0 (zA fr) c,.sv a' 0 (zA to) c',.str s] (zB9 fr.length fr to s):=fun N Q hQ=>by
 refine zAO N a _ c a' _ c' s Q fun _ _=>?_
 have hw:=zB fr
 have hw':=zB to
 have key:∀ (k N':Nat),k<=fr.length->N<=N'->(∀ N'',N<=N''->Q (zB9 k fr to s) N'')->yv Q N a (zA fr) c a' (zA to) c' s ((k:Int) - 1) N':=by
  intro k
  induction k with
  | zero=>exact fun N' _ hN' hq=>vW _ _ _ _ _ _ _ _ _ _ _ (Br.dec (fun h=>by omega) fun _ N2 hN2=>hq _ (by omega))
  | succ k ih=>
    intro N' hk hN' hq
    have e:((k+1:Nat):Int) - 1=(k:Int):=by omega
    rw [e]
    have h1:fr[k]?=some fr[k]:=oG (by omega)
    have h2:to[k]?=some (to[k]'(by omega)):=oG (by omega)
    simp only [zB9,h1,h2,oZ,oc] at hq
    refine vW _ _ _ _ _ _ _ _ _ _ _ (Br.dec (fun _=>⟨⟨by omega,by omega⟩,fr[k],by rw [oJ];exact uT h1,Br.str (fun h=>⟨⟨by omega,by omega⟩,to[k]'(by omega),by rw [oJ];exact uT h2,fun N1 hN1=>?_⟩) fun h=>?_⟩) fun h=>absurd (by omega) h)
    ·rw [if_pos h] at hq
     exact hq _ (by omega)
    ·rw [if_neg h] at hq
     rw [i64_in _ (by omega)]
     exact ih _ (by omega) hN' hq
 rw [i64_in _ (by omega),hw]
 exact key fr.length N (oF _) (oF _) hQ
mutual
theorem zDy (b:Bool):∀ (t:Tm) (env:NEnv) (u:List ByteArray),(can b t env u).2.length<=u.length+2*t.cnt
 | .mk k nm ot n ty re l,env,u=>by
   have hb:=pP k nm ot l.length
   simp only [can]
   split
   ·simp only;omega
   ·have h:=zEn b l (xL k l.length) env (yU env (bdN k nm ot l.length) (yM (bdN k nm ot l.length).length u)) 0 (u++yM (bdN k nm ot l.length).length u)
    rw [oH,yE] at h
    have:=Ty.cnt_pos ty
    simp only [Tm.cnt]
    omega
theorem zEn (b:Bool):∀ (l:List Tm) (at_:Int) (env inner:NEnv) (i:Nat) (u:List ByteArray),(r7 b l at_ env inner i u).2.length<=u.length+2*z8 l
 | [],_,_,_,_,u=>by simp [r7]
 | x::xs,at_,env,inner,i,u=>by
   simp only [r7,z8]
   have h1:=zDy b x (if (i:Int)=at_ then inner else env) u
   have h2:=zEn b xs at_ env inner (i+1) (can b x (if (i:Int)=at_ then inner else env) u).2
   omega
end
theorem zKI (u:List ByteArray):bNo u<=u.length+1:=zDI u _ (zBJ u).2.2 (zBJ u).1
theorem zEM {u:List ByteArray} (h:u.length<=8796093022200):(xi u).size<=21:=by
 have:=zKI u
 exact zFY _ (by omega)
theorem sa:∀ (m:Nat) (u:List ByteArray),u.length+m<=8796093022200->∀ s∈yM m u,s.size<=21
 | 0,_,_,s,hs=>by simp [yM] at hs
 | m+1,u,h,s,hs=>by
   simp only [yM,oI] at hs
   rcases hs with rfl | hs
   ·exact zEM (by omega)
   ·exact sa m _ (by simp;omega) s hs
/-- new names are short -/
def EnvS (env:NEnv):Prop:=∀ s v,env s=some v->v.size<=4611686018427387904
theorem zE4:EnvS fun _=>none:=fun s v h=>by cases h
theorem EnvS.set {env:NEnv} (h:EnvS env) (o n:ByteArray) (hn:n.size<=4611686018427387904):EnvS (zIR env o n):=fun s v hv=>by
 unfold zIR at hv
 split at hv
 ·cases hv;exact hn
 ·exact h s v hv
theorem EnvS.bind:∀ {ns now:List ByteArray} {env:NEnv},EnvS env->(∀ s∈now,s.size<=4611686018427387904)->EnvS (yU env ns now)
 | [],_,env,h,_=>by simpa [yU] using h
 | _::_,[],env,h,_=>by simpa [yU] using h
 | o::os,n::ns,env,h,hn=>by
   simp only [yU]
   exact EnvS.bind (h.set o n (hn n (by simp))) fun s hs=>hn s (by simp [hs])
theorem zAf:∀ (ns now:List ByteArray) (env:NEnv) (o n:ByteArray),ns.length=now.length->yU env (ns++[o]) (now++[n])=zIR (yU env ns now) o n
 | [],[],_,_,_,_=>rfl
 | a::ns,b::now,env,o,n,h=>by
   simp only [nY,yU]
   exact zAf ns now (zIR env a b) o n (by simpa using h)
 | [],_::_,_,_,_,h=>by simp at h
 | _::_,[],_,_,_,h=>by simp at h
end Go.Proofs.YtmfjakahanbnlaaGreatDoor
set_option maxHeartbeats 1000000
namespace Go.Proofs.YtmfjakahanbnlaaGreatDoor
open Go Go.Proofs Go.Proofs.Tryz Go.IntWalk
theorem t8 (l m:List ByteArray):zA l++zA m=zA (l++m):=by simp [zA]
theorem xl {l m:List ByteArray} (h:l.length+m.length<=8796093022207):zC (zA l) (zA m) 16:=by
 unfold zC;rw [oH,zB,zB];omega
theorem ry {l:List D} {x:D} (h:l.length<=1073741824):zC l [x] 136:=by
 unfold zC;rw [oH];simp;omega
theorem zKP {ds:List D}:zJl none [] 0 ds:=by simp [zJl]
/-- what the reference's walk is asked for -/
def zLw (t:Tm):Prop:=∀ (d:D),t.Is d->t.G->∀ (fr to:List ByteArray) (env:NEnv) (free u:List ByteArray) (next:Nat),EnvR fr to env->EnvS env->CanI free next u->free.length<=1099511627776 ->
 u.length+2*t.cnt<=1099511627776->fr.length+2*t.cnt<=1099511627776->∀ (a:Option Addr) (c:Nat) (a':Option Addr) (c':Nat) (a0:Option Addr) (c0 N:Nat) (Q:QT [.ag 9,.sl 0,.int .i64]),
 (∀ (d':D) (n' N':Nat),N<=N'->(can false t env u).1.Is d'->CanI free n' (can false t env u).2->Q d' a0 (zA free) c0 (n':Int) N') ->
 BCalls prog 108 [.ag 9,.sl 0,.int .i64] [.pb 0 0 0 0,.dg 9 d,.sv a 0 (zA fr) c,.sv a' 0 (zA to) c'] [.var [.sv a0 0 (zA free) c0,.int .i64 next]] N Q
theorem zHs:∀ t,zLw t:=by
 refine Tm.ind fun k nm ot n0 ty re l ih d hd hG fr to env free u next hE hS hI hfree hu hfr a c a' c' a0 c0 N Q hQ=>?_
 obtain ⟨t0,t1,r0,r1,a9,es,c9,rfl,hh,hlen,hes⟩:=Tm.is_mk.1 hd
 have hl:=hes.len
 obtain ⟨g1,g2,g3,g4⟩:=hG
 have hb2:=pP k nm ot l.length
 simp only [Tm.cnt] at hu hfr
 have hty:=Ty.cnt_pos ty
 generalize hns:bdN k nm ot l.length=ns at hb2
 generalize hnow:yM ns.length u=now
 have hnl:now.length=ns.length:=by rw [<-hnow,yE]
 generalize hR:r7 false l (xL k l.length) env (yU env ns now) 0 (u++now)=R
 have hnowS:∀ s∈now,s.size<=4611686018427387904:=fun s hs=>by
  rw [<-hnow] at hs
  have:=sa ns.length u (by omega) s hs
  omega
 refine rm N _ a _ c a' _ c' a0 _ c0 _ Q fun E _ _ _ _=>⟨_,rfl,_,rfl,_,rfl,_,rfl,fun N1 hN1=>tq _ _ hh.ty g1 N1 _ fun x N2 hN2 hx hox _ _ N3 hN3=>tq _ _ hh.re g2 N3 _ fun y N4 hN4 hy hoy _ _=>⟨_,rfl,?_⟩⟩
 have main:∀ nm1:ByteArray,nm1.size<=4611686018427387904->(∀ (d':D) (n' N':Nat),N<=N'->(Tm.mk k (now.headD nm1) (now.tail.headD ot) n0 ty re R.1).Is d'->CanI free n' R.2->Q d' a0 (zA free) c0 (n':Int) N') ->
   ∀ (a1:Option Addr) (c1 N8:Nat),N<=N8->z7 E Q N a (zA fr) c a' (zA to) c' a1 (zA ns) c1 (xL k l.length) 0 0 0 a0 (zA free) c0 next
     (.ag [.lit (.int .i64 k),.lit (.string nm),.lit (.string ot),.lit (.int .i64 n0),t0,t1,r0,r1,.sl a9 9 es c9]) 0 (bytes []) (bytes []) 0 0 none [] 0 0 none [] 0 none [] 0 k nm1 ot n0 (x.cell 0) (x.cell 1) (y.cell 0) (y.cell 1) none [] 0 [] 0 N8:=by
  intro nm1 hn1 hq a1 c1 N8 hN8
  have hE':EnvR (fr++ns) (to++now) (yU env ns now):=hE.app hnl.symm
  have hS':EnvS (yU env ns now):=hS.bind hnowS
  have loop2:∀ nm2 ot2:ByteArray,nm2.size<=4611686018427387904->ot2.size<=4611686018427387904->(∀ (d':D) (n' N':Nat),N<=N'->(Tm.mk k nm2 ot2 n0 ty re R.1).Is d'->CanI free n' R.2->Q d' a0 (zA free) c0 (n':Int) N') ->
    ∀ (a12:Option Addr) (c12 next1 N9:Nat),N<=N9->CanI free next1 (u++now)->ze E Q N a (zA fr) c a' (zA to) c' a1 (zA ns) c1 (xL k l.length) a12 (zA now) c12 (0:Nat) a0 (zA free) c0 next1
      (.ag [.lit (.int .i64 k),.lit (.string nm),.lit (.string ot),.lit (.int .i64 n0),t0,t1,r0,r1,.sl a9 9 es c9]) 0 (bytes []) (bytes []) 0 0 none [] 0 0 none [] 0 none [] 0 k nm2 ot2 n0 (x.cell 0) (x.cell 1) (y.cell 0) (y.cell 1) none [] 0 N9:=by
   intro nm2 ot2 hn2 ho2 hq2 a12 c12 next1 N9 hN9 hI1
   have hH:Tm.Hd nm2 ot2 ty re (x.cell 0) (x.cell 1) (y.cell 0) (y.cell 1):=⟨hn2,ho2,Ty.is_cells hx,Ty.is_cells hy⟩
   have fin:∀ (done:List D) (aa:Option Addr) (q n' N':Nat),N<=N'->done.length<=1073741824->All2 Tm.Is R.1 done->CanI free n' R.2->Q (D.ag [.lit (.int .i64 k),.lit (.string nm2),.lit (.string ot2),.lit (.int .i64 n0),x.cell 0,x.cell 1,y.cell 0,y.cell 1,.sl aa 9 done q]) a0 (zA free) c0 (n':Int) N':=
    fun done aa q n' N' h1 h2 h3 h4=>hq2 _ n' N' h1 (Tm.is_mk.2 ⟨_,_,_,_,_,_,_,rfl,hH,by omega,h3⟩) h4
   have key:=up hes hlen (fun i xs=>∀ (pre:List Tm) (done:List D) (ui:List ByteArray) (ni q N':Nat),N<=N'->done.length=i->All2 Tm.Is pre done->CanI free ni ui->ui.length+2*z8 xs<=1099511627776->fr.length+2+2*z8 xs<=1099511627776 ->
    R.1=pre++(r7 false xs (xL k l.length) env (yU env ns now) i ui).1->R.2=(r7 false xs (xL k l.length) env (yU env ns now) i ui).2 ->
    (i=0->ze E Q N a (zA fr) c a' (zA to) c' a1 (zA ns) c1 (xL k l.length) a12 (zA now) c12 (i:Nat) a0 (zA free) c0 ni
    (.ag [.lit (.int .i64 k),.lit (.string nm),.lit (.string ot),.lit (.int .i64 n0),t0,t1,r0,r1,.sl a9 9 es c9]) 0 (bytes []) (bytes []) 0 0 none [] 0 0 none [] 0 none [] 0 k nm2 ot2 n0 (x.cell 0) (x.cell 1) (y.cell 0) (y.cell 1) none [] 0 N') /\
    (0<i->zN E Q N a (zA fr) c a' (zA to) c' a1 (zA ns) c1 (xL k l.length) a12 (zA now) c12 (i:Nat) a0 (zA free) c0 ni
    (.ag [.lit (.int .i64 k),.lit (.string nm),.lit (.string ot),.lit (.int .i64 n0),t0,t1,r0,r1,.sl a9 9 es c9]) 0 (bytes []) (bytes []) 0 0 none [] 0 0 none [] 0 none [] 0 k nm2 ot2 n0 (x.cell 0) (x.cell 1) (y.cell 0) (y.cell 1) done.length q done q N')) ?_ ?_
   ·exact (key [] [] (u++now) next1 0 N9 hN9 rfl rfl hI1 (by rw [oH];omega) (by omega) (by rw [hR];rfl) (by rw [hR])).1 rfl
   ·intro i hlt hi pre done ui ni q N' hN' hdl hd2 hIi hu1 hf1 hR1 hR2
    simp only [r7,od] at hR1 hR2
    subst hR1
    refine ⟨fun h0=>?_,fun h0=>?_⟩
    ·refine vX _ _ _ _ _ _ _ _ _ _ _ _ _ _ _ _ _ _ _ _ _ _ _ _ _ _ _ _ _ _ _ _ _ _ _ _ _ _ _ _ _ _ _ _ _ _ _ _ _ ⟨_,_,_,rfl,?_⟩
     rw [hlt]
     have:done=[]:=nU.1 (by omega)
     subst this
     exact ⟨zGf,fun N7 hN7=>fin [] _ _ _ _ (by omega) (by simp) hd2 (by rw [hR2];exact hIi)⟩
    ·refine wI _ _ _ _ _ _ _ _ _ _ _ _ _ _ _ _ _ _ _ _ _ _ _ _ _ _ _ _ _ _ _ _ _ _ _ _ _ _ _ _ _ _ _ _ _ _ _ _ _ _ ⟨_,_,_,rfl,?_⟩
     rw [hlt]
     exact ⟨⟨rfl,rfl⟩,⟨rfl,rfl⟩,⟨rfl,rfl⟩,fun a7 N7 hN7 hf=>⟨zGf,fun N8 hN8=>fin _ _ _ _ _ (by omega) (by omega) hd2 (by rw [hR2];exact hIi)⟩⟩
   ·intro i z xs hat _ ih2 pre done ui ni q N' hN' hdl hd2 hIi hu1 hf1 hR1 hR2
    have hb:=hat.b
    simp only [z8] at hu1 hf1
    simp only [r7] at hR1 hR2
    have hzl:=zDy false z (if (i:Int)=xL k l.length then yU env ns now else env) ui
    have next:∀ (d':D) (q' n' N'':Nat),N'<=N''->(can false z (if (i:Int)=xL k l.length then yU env ns now else env) ui).1.Is d'->CanI free n' (can false z (if (i:Int)=xL k l.length then yU env ns now else env) ui).2 ->
      zN E Q N a (zA fr) c a' (zA to) c' a1 (zA ns) c1 (xL k l.length) a12 (zA now) c12 (IntKind.i64.wrap ((i:Int)+1)) a0 (zA free) c0 n'
     (.ag [.lit (.int .i64 k),.lit (.string nm),.lit (.string ot),.lit (.int .i64 n0),t0,t1,r0,r1,.sl a9 9 es c9]) 0 (bytes []) (bytes []) 0 0 none [] 0 0 none [] 0 none [] 0 k nm2 ot2 n0 (x.cell 0) (x.cell 1) (y.cell 0) (y.cell 1) (done++[d']).length q' (done++[d']) q' N'':=fun d' q' n' N'' h1 h2 h3=>by
     rw [hat.w]
     exact (ih2 (pre++[_]) (done++[d']) _ n' q' N'' (by omega) (by simp [hdl]) (hd2.snoc h2) h3 (by omega) (by omega) (by rw [hR1];simp) hR2).2 (by omega)
    have inn:∀ (aa ab:Option Addr) (ca cb M:Nat) (QQ:QT [.ag 9,.sl 0,.int .i64]),(i:Int)=xL k l.length->(∀ (d':D) (n' N'':Nat),M<=N''->(can false z (if (i:Int)=xL k l.length then yU env ns now else env) ui).1.Is d'->CanI free n' (can false z (if (i:Int)=xL k l.length then yU env ns now else env) ui).2->QQ d' a0 (zA free) c0 (n':Int) N'') ->
      BCalls prog 108 [.ag 9,.sl 0,.int .i64] [.pb 0 0 0 0,.dg 9 (List.getD es i default),.sv aa 0 ([]++zA fr++zA ns) ca,.sv ab 0 ([]++zA to++zA now) cb] [.var [.sv a0 0 (zA free) c0,.int .i64 ni]] M QQ:=fun aa ab ca cb M QQ he hq3=>by
     rw [if_pos he] at hq3
     rw [ou,ou,t8,t8]
     exact ih z hat.m _ hat.r (uk g4 hat.m) _ _ _ free ui ni hE' hS' hIi hfree (by omega) (by rw [oH];omega) _ _ _ _ _ _ _ _ hq3
    have out:∀ (M:Nat) (QQ:QT [.ag 9,.sl 0,.int .i64]),¬(i:Int)=xL k l.length->(∀ (d':D) (n' N'':Nat),M<=N''->(can false z (if (i:Int)=xL k l.length then yU env ns now else env) ui).1.Is d'->CanI free n' (can false z (if (i:Int)=xL k l.length then yU env ns now else env) ui).2->QQ d' a0 (zA free) c0 (n':Int) N'') ->
      BCalls prog 108 [.ag 9,.sl 0,.int .i64] [.pb 0 0 0 0,.dg 9 (List.getD es i default),.sv a 0 (zA fr) c,.sv a' 0 (zA to) c'] [.var [.sv a0 0 (zA free) c0,.int .i64 ni]] M QQ:=fun M QQ he hq3=>by
     rw [if_neg he] at hq3
     exact ih z hat.m _ hat.r (uk g4 hat.m) _ _ _ free ui ni hE hS hIi hfree (by omega) (by omega) _ _ _ _ _ _ _ _ hq3
    have htl:=hE.len
    refine ⟨fun h0=>?_,fun h0=>?_⟩
    ·refine vX _ _ _ _ _ _ _ _ _ _ _ _ _ _ _ _ _ _ _ _ _ _ _ _ _ _ _ _ _ _ _ _ _ _ _ _ _ _ _ _ _ _ _ _ _ _ _ _ _ ⟨_,_,_,rfl,?_⟩
     rw [hat.lt]
     have hd0:done=[]:=nU.1 (by omega)
     subst hd0
     refine Br.beq (fun he=>?_) fun he=>?_
     ·refine ⟨⟨rfl,rfl⟩,xl (l:=[]) (by simp;omega),fun c_1=>⟨⟨rfl,rfl⟩,xl (by omega),fun c_2=>⟨⟨rfl,rfl⟩,xl (l:=[]) (by simp;omega),fun c_3=>⟨⟨rfl,rfl⟩,xl (by omega),fun c_4=>⟨_,_,_,rfl,⟨by omega,by omega⟩,⟨rfl,rfl⟩,⟨rfl,rfl⟩,⟨rfl,rfl⟩,fun a_2 N1 hN1 _=>⟨⟨rfl,rfl⟩,⟨rfl,rfl⟩,⟨rfl,rfl⟩,fun a_3 N2 hN2 _ N3 hN3=>?_⟩⟩⟩⟩⟩⟩
      rw [oJ]
      exact inn _ _ _ _ _ _ he fun d' n' N'' hN'' h1 h2 _ _ _=>⟨zKP,ry (by simp),fun c7=>next d' c7 n' N'' (by omega) h1 h2⟩
     ·refine ⟨_,_,_,rfl,⟨by omega,by omega⟩,fun N5 hN5=>?_⟩
      rw [oJ]
      exact out _ _ he fun d' n' N'' hN'' h1 h2 _ _ _=>⟨zKP,ry (by simp),fun c7=>next d' c7 n' N'' (by omega) h1 h2⟩
    ·refine wI _ _ _ _ _ _ _ _ _ _ _ _ _ _ _ _ _ _ _ _ _ _ _ _ _ _ _ _ _ _ _ _ _ _ _ _ _ _ _ _ _ _ _ _ _ _ _ _ _ _ ⟨_,_,_,rfl,?_⟩
     rw [hat.lt]
     refine Br.beq (fun he=>?_) fun he=>?_
     ·refine ⟨⟨rfl,rfl⟩,xl (l:=[]) (by simp;omega),fun c_1=>⟨⟨rfl,rfl⟩,xl (by omega),fun c_2=>⟨⟨rfl,rfl⟩,xl (l:=[]) (by simp;omega),fun c_3=>⟨⟨rfl,rfl⟩,xl (by omega),fun c_4=>⟨_,_,_,rfl,⟨by omega,by omega⟩,⟨rfl,rfl⟩,⟨rfl,rfl⟩,⟨rfl,rfl⟩,fun a_2 N1 hN1 _=>⟨⟨rfl,rfl⟩,⟨rfl,rfl⟩,⟨rfl,rfl⟩,fun a_3 N2 hN2 _ N3 hN3=>?_⟩⟩⟩⟩⟩⟩
      rw [oJ]
      exact inn _ _ _ _ _ _ he fun d' n' N'' hN'' h1 h2 _ _ _=>⟨⟨rfl,rfl⟩,ry (by omega),fun c7=>next d' c7 n' N'' (by omega) h1 h2⟩
     ·refine ⟨_,_,_,rfl,⟨by omega,by omega⟩,fun N5 hN5=>?_⟩
      rw [oJ]
      exact out _ _ he fun d' n' N'' hN'' h1 h2 _ _ _=>⟨⟨rfl,rfl⟩,ry (by omega),fun c7=>next d' c7 n' N'' (by omega) h1 h2⟩
  have lp:=up (yF ns) (by rw [zB];omega) (fun i xs=>∀ (ni q N':Nat),N<=N'->CanI free ni (u++yM i u)->xs.length+i=ns.length ->
   z7 E Q N a (zA fr) c a' (zA to) c' a1 (zA ns) c1 (xL k l.length) (zA (yM i u)).length q (i:Nat) a0 (zA free) c0 ni
    (.ag [.lit (.int .i64 k),.lit (.string nm),.lit (.string ot),.lit (.int .i64 n0),t0,t1,r0,r1,.sl a9 9 es c9]) 0 (bytes []) (bytes []) 0 0 none [] 0 0 none [] 0 none [] 0 k nm1 ot n0 (x.cell 0) (x.cell 1) (y.cell 0) (y.cell 1) none [] 0 (zA (yM i u)) q N') ?_ ?_
  ·exact lp next 0 N8 hN8 (by simpa [yM] using hI) (by simp)
  ·intro i hlt hi ni q N' hN' hIi hx1
   have hii:i=ns.length:=by rw [zB] at hi;exact hi
   subst hii
   rw [hnow] at hIi ⊢
   refine uL _ _ _ _ _ _ _ _ _ _ _ _ _ _ _ _ _ _ _ _ _ _ _ _ _ _ _ _ _ _ _ _ _ _ _ _ _ _ _ _ _ _ _ _ _ _ _ _ _ _ ?_
   rw [hlt]
   refine Br.of (fun h=>by cases h) fun _=>?_
   rcases now with _ | ⟨v,_ | ⟨w,_ | ⟨z,rest⟩⟩⟩
   ·exact Br.dec (fun h=>by simp [zA] at h) fun _=>Br.dec (fun h=>by simp [zA] at h) fun _=>⟨⟨rfl,rfl⟩,⟨rfl,rfl⟩,⟨rfl,rfl⟩,fun a_4 N6 hN6 hf=>loop2 nm1 ot hn1 hh.ot hq a_4 q ni N6 (by omega) hIi⟩
   ·exact Br.dec (fun _=>⟨⟨by omega,by simp [zA],by simp [zA]⟩,by simp [zA],v,rfl,Br.dec (fun h=>by simp [zA] at h) fun _=>⟨⟨rfl,rfl⟩,⟨rfl,rfl⟩,⟨rfl,rfl⟩,⟨rfl,rfl⟩,fun a_4 N6 hN6 hf=>loop2 v ot (hnowS v (by simp)) hh.ot hq a_4 q ni N6 (by omega) hIi⟩⟩) fun h=>absurd (by simp [zA]) h
   ·exact Br.dec (fun _=>⟨⟨by omega,by simp [zA],by simp [zA]⟩,by simp [zA],v,rfl,Br.dec (fun _=>⟨⟨by omega,by simp [zA],by simp [zA]⟩,by simp [zA],w,rfl,⟨rfl,rfl⟩,⟨rfl,rfl⟩,⟨rfl,rfl⟩,⟨rfl,rfl⟩,⟨rfl,rfl⟩,fun a_4 N6 hN6 hf=>loop2 v w (hnowS v (by simp)) (hnowS w (by simp)) hq a_4 q ni N6 (by omega) hIi⟩) fun h=>absurd (by simp [zA]) h⟩) fun h=>absurd (by simp [zA]) h
   ·simp only [oR] at hnl
    omega
  ·intro i z xs hat hdrop ih2 ni q N' hN' hIi hx1
   refine uL _ _ _ _ _ _ _ _ _ _ _ _ _ _ _ _ _ _ _ _ _ _ _ _ _ _ _ _ _ _ _ _ _ _ _ _ _ _ _ _ _ _ _ _ _ _ _ _ _ _ ?_
   rw [hat.lt]
   simp only [oR] at hx1
   intro N1 hN1
   refine zG7 hIi (by rw [oH,yE];omega) (by omega) a0 c0 N1 _ fun n' N2 hN2 hI2 _ _=>⟨⟨rfl,rfl⟩,vN (by rw [yE];omega),fun c_1=>?_⟩
   rw [yN,<-wA,hat.w]
   exact ih2 n' c_1 N2 (by omega) (by rw [wA,<-nC];exact hI2) (by omega)
 refine Br.beq (fun h1=>⟨_,rfl,fun N5 hN5=>zGC hE.len (by omega) a a' c c' nm N5 _ fun N6 hN6 _ N7 hN7=>pG (n:=l.length) (by omega) N7 _ fun a1 c1 N8 hN8 _ _ _=>?_⟩) fun h1 N9 hN9=>pG (n:=l.length) (by omega) N9 _ fun a1 c1 N8 hN8 _ _ _=>?_
 ·rw [hns,hE.h nm]
  have hcan:can false (.mk k nm ot n0 ty re l) env u=(.mk k (now.headD ((env nm).getD nm)) (now.tail.headD ot) n0 ty re R.1,R.2):=by simp only [can,nz,and_false,nO,if_pos h1,hns,hnow,hR]
  rw [hcan] at hQ
  refine main _ ?_ (fun d' n' N' hN' h2 h3=>hQ d' n' N' hN' h2 h3) a1 c1 N8 (by omega)
  cases hv:env nm with
  | none=>exact hh.nm
  | some v=>exact hS _ _ hv
 ·rw [hns]
  have hcan:can false (.mk k nm ot n0 ty re l) env u=(.mk k (now.headD nm) (now.tail.headD ot) n0 ty re R.1,R.2):=by simp only [can,nz,and_false,nO,if_neg h1,hns,hnow,hR]
  rw [hcan] at hQ
  exact main nm hh.nm (fun d' n' N' hN' h2 h3=>hQ d' n' N' hN' h2 h3) a1 c1 N8 (by omega)
end Go.Proofs.YtmfjakahanbnlaaGreatDoor
