/- Maps of strings to strings: what they hold, a look, a put. -/
import Derived.Test.YtmfjakahanbnlaaGreatDoorJf
import Derived.MapKept
import Derived.Test.YtmfjakahanbnlaaGreatDoorJh
import Derived.Test.YtmfjakahanbnlaaGreatDoorProg
import Derived.Shelf.SlMaps.Clone
import Derived.Test.YtmfjakahanbnlaaGreatDoorA8
import Derived.Test.YtmfjakahanbnlaaGreatDoorKf
set_option linter.unusedVariables false
set_option linter.unusedSimpArgs false
namespace Go.Proofs.YtmfjakahanbnlaaGreatDoor
open Go Go.MapKept
def entS (x:ByteArray × ByteArray × Nat):MapEntry:={ key:=.string x.1,val:=.string x.2.1,born:=x.2.2 }
def zCm (s:ByteArray):List (ByteArray × ByteArray × Nat)→Option ByteArray
 | []=>none
 | x::l=>if s=x.1 then some x.2.1 else zCm s l
def zHU (env:ByteArray→Option ByteArray) (s u:ByteArray):ByteArray→Option ByteArray:=fun s'=>if s'=s then some u else env s'
structure MapIs (es:Array MapEntry) (env:ByteArray→Option ByteArray):Prop where
 h:∃ l,es.toList=l.map entS∧∀ s,zCm s l=env s
theorem zFD:MapIs #[] fun _=>none:=⟨[],rfl,fun _=>rfl⟩
theorem zBj (s' s u:ByteArray) (c:Nat):∀ l,zCm s l=none→zCm s' (l++[(s,u,c)])=if s'=s then some u else zCm s' l
 | [],_=>rfl
 | x::l,h=>by
   simp only [zCm,List.cons_append] at h ⊢
   by_cases h1:s=x.1
   ·rw [if_pos h1] at h;cases h
   ·rw [if_neg h1] at h
    rw [zBj s' s u c l h]
    by_cases h2:s'=x.1
    ·rw [if_pos h2,if_pos h2,if_neg (fun e=>h1 (e.symm.trans h2))]
    ·rw [if_neg h2,if_neg h2]
theorem zIc (s:ByteArray):∀ (l:List (ByteArray × ByteArray × Nat)) (i:Nat),(zCm s l=none∧Instr.findNow .string (.string s) (l.map entS) i=some none) ∨
  ∃ j x,l[j]?=some x∧x.1=s∧zCm s l=some x.2.1∧Instr.findNow .string (.string s) (l.map entS) i=some (some (i+j,.string x.2.1)) ∧
    ∀ u s',zCm s' (l.set j (s,u,x.2.2))=if s'=s then some u else zCm s' l
 | [],i=>.inl ⟨rfl,rfl⟩
 | y :: l,i=>by
   by_cases h:s=y.1
   ·refine .inr ⟨0,y,rfl,h.symm,by simp [zCm,h],?_,fun u s'=>?_⟩
    ·have hb:(s==y.1)=true:=(bytes_beq s y.1).2 h
     simp only [List.map_cons,Instr.findNow,Instr.sameNow,entS,hb,Nat.add_zero]
    ·simp only [List.set_cons_zero,zCm]
     by_cases h1:s'=s
     ·rw [if_pos h1,if_pos h1]
     ·rw [if_neg h1,if_neg h1,if_neg (fun e=>h1 (e.trans h.symm))]
   ·have e1:Instr.findNow .string (.string s) ((y::l).map entS) i=Instr.findNow .string (.string s) (l.map entS) (i+1):=by
     have hb:(s==y.1)=false:=by
      cases hh:s==y.1
      ·rfl
      ·exact absurd ((bytes_beq s y.1).1 hh) h
     simp only [List.map_cons,Instr.findNow,Instr.sameNow,entS,hb]
    have e2:zCm s (y::l)=zCm s l:=by simp only [zCm,if_neg h]
    rw [e1,e2]
    rcases zIc s l (i+1) with h1 | ⟨j,x,h1,h2,h3,h4,h5⟩
    ·exact .inl h1
    ·refine .inr ⟨j+1,x,by simpa using h1,h2,h3,by rw [h4];simp;omega,fun u s'=>?_⟩
     simp only [List.set_cons_succ,zCm,h5]
     by_cases h6:s'=y.1
     ·rw [if_pos h6,if_pos h6,if_neg (fun e=>h (e.symm.trans h6))]
     ·rw [if_neg h6,if_neg h6]
section
variable {P:Program} {t k e:TypeId} {es:Array MapEntry} {env:ByteArray→Option ByteArray}
theorem zID (ht:P.underlying t=some (.map k e)) (hk:P.underlying k=some .string) (hz:∀ w,(zeroValue e).run P w=.ok (.string ByteArray.empty) w) (h:MapIs es env) (c:Nat) (s:ByteArray) :
  zED P t es c s (env s):=fun w b hb=>by
 obtain ⟨l,hl,hg⟩:=h.h
 have hck:IsKey .string (.string s):=trivial
 rcases zIc s l 0 with ⟨h1,h2⟩ | ⟨j,x,h1,h2,h3,h4,h5⟩
 ·rw [←hl] at h2
  rw [←hg,h1]
  simp [Instr.lookup,run_underlying ht,MapKept.run_getObj_map hb,MapKept.run_checkKey hk hck,MapKept.run_findKey hk h2,Result.andThen,hz]
 ·rw [←hl] at h4
  rw [←hg,h3]
  simp [Instr.lookup,run_underlying ht,MapKept.run_getObj_map hb,MapKept.run_checkKey hk hck,MapKept.run_findKey hk h4,Result.andThen,hz]
theorem zH9 (ht:P.underlying t=some (.map k e)) (hk:P.underlying k=some .string) (h:MapIs es env) (c:Nat) (s u:ByteArray) :
  ∃ es' c',zDp P t es c s u es' c'∧MapIs es' (zHU env s u):=by
 obtain ⟨l,hl,hg⟩:=h.h
 have hck:IsKey .string (.string s):=trivial
 have fin:∀ (w:World) (b:Nat) (es':Array MapEntry) (c':Nat),w.heap[b]?=some (.map es c)→(Instr.mapUpdate t (.map (some b)) (.string s) (.string u)).run P w=.ok () { w with heap:=w.heap.setIfInBounds b (.map es' c') } →
   ∃ w',(Instr.mapUpdate t (.map (some b)) (.string s) (.string u)).run P w=.ok () w'∧w'.heap.size=w.heap.size∧w'.heap[b]?=some (.map es' c')∧(∀ j,j≠b→w'.heap[j]?=w.heap[j]?)∧KU w w':=fun w b es' c' hb hr=>
  ⟨_,hr,by simp,(heap_set hb).1,fun j hj=>(heap_set hb).2 j hj,⟨rfl,rfl⟩⟩
 rcases zIc s l 0 with ⟨h1,h2⟩ | ⟨j,x,h1,h2,h3,h4,h5⟩
 ·rw [←hl] at h2
  refine ⟨es.push ⟨.string s,.string u,c⟩,c+1,fun w b hb=>fin w b _ _ hb ?_,⟨l++[(s,u,c)],by simp [hl,entS],fun s'=>?_⟩⟩
  ·simp [Instr.mapUpdate,run_underlying ht,MapKept.run_getObj_map hb,MapKept.run_checkKey hk hck,MapKept.run_findKey hk h2,MapKept.run_setObj_map _ hb,Result.andThen]
  ·rw [zBj s' s u c l h1,hg];rfl
 ·rw [←hl] at h4
  have hj:es[j]?=some (entS x):=by
   rw [←Array.getElem?_toList,hl,List.getElem?_map,h1];rfl
  have hkx:(entS x).key=.string s:=by rw [←h2];rfl
  refine ⟨es.modify j fun e'=>{ e' with key:=.string s,val:=.string u },c,fun w b hb=>fin w b _ _ hb ?_,⟨l.set j (s,u,x.2.2),?_,fun s'=>?_⟩⟩
  ·simp [Instr.mapUpdate,run_underlying ht,MapKept.run_getObj_map hb,MapKept.run_checkKey hk hck,MapKept.run_findKey hk h4,hj,hkx,MapKept.run_keyThatStays hck,MapKept.run_setObj_map _ hb,Result.andThen]
  ·apply List.ext_getElem?
   intro i
   rw [Array.getElem?_toList,Array.getElem?_modify,List.getElem?_map,List.getElem?_set]
   have hli:es[i]?=(l[i]?).map entS:=by rw [←Array.getElem?_toList,hl,List.getElem?_map]
   have hjl:j<l.length:=(List.getElem?_eq_some_iff.1 h1).1
   by_cases hij:j=i
   ·subst hij
    rw [if_pos rfl,if_pos rfl,if_pos hjl,hj]
    rfl
   ·rw [if_neg hij,if_neg hij,hli]
  ·rw [h5,hg];rfl
end
end Go.Proofs.YtmfjakahanbnlaaGreatDoor
namespace Go.Proofs
namespace YtmfjakahanbnlaaGreatDoor
open Go Go.Proofs Go.Proofs.Tryz Go.RowKit Go.Shelf
def zJA:Go.Shelf.Ren:=⟨fun x=>match x with | 5=>186 | 7=>243 | n=>n,fun x=>match x with | 4=>4 | 20=>20 | 23=>134 | 25=>9 | 3=>9 | n=>n,fun n=>n⟩
theorem zI4:SlLaysW.n5 Tryz.prog zJA where
 mixed:=by kernel_rfl
 f5 := ⟨"maps.Clone[map[string]string,string,string]", by decide, Tryz.func186.trans (congrArg some (by kernel_rfl))⟩
 f7:=Tryz.func243.trans (congrArg some (by kernel_rfl))
 t4:=Tryz.underlying4
 a4:=Tryz.isAgg4
 z4:=Tryz.sizeOf4
 v4:=Tryz.zeroValue4
 t20:=Tryz.underlying20
 a20:=Tryz.isAgg20
 z20:=Tryz.sizeOf20
 v20:=Tryz.zeroValue20
 t23:=Tryz.underlying134
 a23:=Tryz.isAgg134
 z23:=Tryz.sizeOf134
 v23:=Tryz.zeroValue134
theorem zCh {b:Nat} {es:Array MapEntry} {c:Nat} (N:Nat) (Q:QT [.dc]) (hQ:∀ b' N',N≤b'→b'<N'→Q (.mp b' es c) N'):ACalls prog 186 [.dc] [.dc (.mp b es c)] N Q:=
 ⟨by kernel_rfl,fun av w0 hN hav hargs=>by
  have hg:=(hargs (.dc (.mp b es c)) (by simp)).1
  simp only [PV.Ok] at hg
  have hb:w0.heap[b]?=some (.map es c):=by
   have:=hg.1.1
   cases this
   assumption
  refine (AnyW.maps_Clone zI4 b es c w0 hb).mono fun e w ⟨he,hw⟩=>?_
  subst he
  subst hw
  subst hN
  refine ⟨[.dc (.mp w0.heap.size es c)],[],[],?_⟩
  exact { q := hQ _ _ (Nat.le_refl _) (by simp),v:=rfl,m:=⟨rfl,by simp,by simp,by simp,fun k j b h=>by obtain ⟨_,h2,_⟩:=h;simp [Env.at] at h2⟩,
          ok:=fun p hp=>(by
           simp at hp
           subst hp
           refine ⟨⟨.mp wv,fun j hj hl=>?_⟩,trivial⟩
           simp only [D.foot,List.mem_singleton] at hj
           subst hj
           rcases hl with hl | ⟨k,hk⟩
           ·exact Nat.lt_irrefl _ (hav.lt _ hl)
           ·obtain ⟨_,h2,_⟩:=hk
            simp [Env.at] at h2),
          fresh:=fun k b h=>(by simp [Env.at] at h),size:=(by simp),old:=fun j hj=>w6 hj,
          fz:=fun j c' t z hj h=>(by
           by_cases hjw:j=w0.heap.size
           ·subst hjw;rw [wv] at h;cases h
           ·have:=(Array.getElem?_eq_some_iff.1 h).1
            simp at this
            omega),ku:=⟨rfl,rfl⟩ }⟩
end YtmfjakahanbnlaaGreatDoor
end Go.Proofs
namespace Go.Proofs.YtmfjakahanbnlaaGreatDoor
open Go Go.Proofs Go.Proofs.Tryz Go.IntWalk
def xE (k:Nat):ByteArray:=⟨(98::Lib.decDigits k).toArray⟩
theorem zDy (k:Nat):bytes [98]++zJZ k=xE k:=qC (by rw [zHk];rfl)
theorem zE2 (k:Nat) (h:k≤4611686018427387904):(xE k).size≤21:=by
 have:=zBB k h
 show (98::Lib.decDigits k).toArray.size≤21
 rw [List.size_toArray,List.length_cons,Lib.decDigits_length];omega
theorem zCj {a b:Nat} (h:xE a=xE b):a=b:=by
 have:(98::Lib.decDigits a:List UInt8)=98::Lib.decDigits b:=by
  have:=congrArg (fun x:ByteArray=>x.data.toList) h
  simpa [xE] using this
 exact zIF a b (by simpa using this)
theorem zHa:∀ (n k:Nat),((List.range n).map fun i=>xE (k+i)).Nodup:=fun n k=>by
 rw [List.nodup_iff_pairwise_ne,List.pairwise_map]
 refine List.Pairwise.imp (fun {a b} h hc=>?_) (List.nodup_iff_pairwise_ne.1 List.nodup_range)
 have:=zCj hc
 omega
theorem zCR (l:List ByteArray) (k:Nat) (h:∀ j,1≤j→j<k→xE j∈l) (hk:1≤k):k≤l.length+1:=by
 have:=zFf (zHa (k - 1) 1) (m:=l) fun x hx=>by
  obtain ⟨i,hi,rfl⟩:=List.mem_map.1 hx
  rw [List.mem_range] at hi
  exact h _ (by omega) (by omega)
 simp at this
 omega
/-- what is the least number whose name is free -/
def BLeast (u:List ByteArray) (k:Nat):Prop:=1≤k∧xE k∉u∧∀ j,1≤j→j<k→xE j∈u
theorem BLeast.eq {u:List ByteArray} {k j:Nat} (h:BLeast u k) (h':BLeast u j):k=j:=
 Nat.le_antisymm (Nat.le_of_not_lt fun hc=>h'.2.1 (h.2.2 j h'.1 hc)) (Nat.le_of_not_lt fun hc=>h.2.1 (h'.2.2 k h.1 hc))
theorem zCi (u:List ByteArray):∃ k,BLeast u k:=by
 have key:∀ f k,1≤k→k+f=u.length+1→(∀ j,1≤j→j<k→xE j∈u)→∃ k,BLeast u k:=by
  intro f
  induction f with
  | zero=>
    intro k h1 h2 h3
    refine ⟨k,h1,fun hc=>?_,h3⟩
    have:=zCR u (k+1) (fun j h4 h5=>by
     by_cases h6:j=k
     ·subst h6;exact hc
     ·exact h3 j h4 (by omega)) (by omega)
    omega
  | succ f ih=>
    intro k h1 h2 h3
    by_cases hm:xE k∈u
    ·exact ih (k+1) (by omega) (by omega) fun j h4 h5=>by
      by_cases h6:j=k
      ·subst h6;exact hm
      ·exact h3 j h4 (by omega)
    ·exact ⟨k,h1,hm,h3⟩
 exact key u.length 1 (Nat.le_refl _) (by omega) fun j h1 h2=>by omega
noncomputable def bNo (u:List ByteArray):Nat:=Classical.choose (zCi u)
theorem zBN (u:List ByteArray):BLeast u (bNo u):=Classical.choose_spec (zCi u)
noncomputable def xf (u:List ByteArray):ByteArray:=xE (bNo u)
theorem qv {u:List ByteArray} {k:Nat} (h:BLeast u k):xf u=xE k:=by unfold xf;rw [(zBN u).eq h]
/-- the program's loop -/
theorem zCr (u:List ByteArray) (P:Nat→Nat→Prop) (N:Nat) (F:ByteArray→Nat→Prop) (hF:∀ N',N≤N'→F (xf u) N')
  (step:∀ (k N':Nat),N≤N'→k≤u.length+1→(∀ N'',N'≤N''→xE k∈u→P (k+1) N'')→(∀ N'',N'≤N''→xE k∉u→F (xE k) N'')→P k N'):P 1 N:=by
 have key:∀ (f k:Nat) (N':Nat),N≤N'→1≤k→k+f=u.length+1→(∀ j,1≤j→j<k→xE j∈u)→P k N':=by
  intro f
  induction f with
  | zero=>
    intro k N' hN' hk1 hkf hall
    refine step k N' hN' (by omega) (fun N'' h1 hm=>?_) fun N'' h1 hm=>by rw [←qv ⟨hk1,hm,hall⟩];exact hF _ (by omega)
    exfalso
    have:=zCR u (k+1) (fun j h4 h5=>by
     by_cases h6:j=k
     ·subst h6;exact hm
     ·exact hall j h4 (by omega)) (by omega)
    omega
  | succ f ih=>
    intro k N' hN' hk1 hkf hall
    refine step k N' hN' (by omega) (fun N'' h1 hm=>?_) fun N'' h1 hm=>by rw [←qv ⟨hk1,hm,hall⟩];exact hF _ (by omega)
    exact ih (k+1) N'' (by omega) (by omega) (by omega) fun j h4 h5=>by
     by_cases h6:j=k
     ·subst h6;exact hm
     ·exact hall j h4 (by omega)
 exact key u.length 1 N (Nat.le_refl _) (Nat.le_refl _) (by omega) fun j h1 h2=>by omega
/-- the reference's counter, and the program's list of names in use -/
structure CanI (free:List ByteArray) (next:Nat) (u:List ByteArray):Prop where
 lo:∀ j,1≤j→j≤next→xE j∈u
 hi:∀ j,next<j→(xE j∈u↔xE j∈free)
theorem CanI.le {free u:List ByteArray} {next:Nat} (h:CanI free next u):next≤u.length:=by
 have:=zCR u (next+1) (fun j h1 h2=>h.lo j h1 (by omega)) (by omega)
 omega
theorem zEv (free:List ByteArray):CanI free 0 free:=⟨fun j h1 h2=>by omega,fun j h=>Iff.rfl⟩
/-- the reference's loop -/
theorem zFg {free u:List ByteArray} {next:Nat} (hI:CanI free next u) (P:Nat→Nat→Prop) (N:Nat) (F:ByteArray→Nat→Nat→Prop)
  (hF:∀ n' N',N≤N'→CanI free n' (u++[xf u])→F (xf u) n' N')
  (step:∀ (k N':Nat),N≤N'→k≤u.length→(∀ N'',N'≤N''→xE (k+1)∈free→P (k+1) N'')→(∀ N'',N'≤N''→xE (k+1)∉free→F (xE (k+1)) (k+1) N'')→P k N'):P next N:=by
 have key:∀ (f k:Nat) (N':Nat),N≤N'→next≤k→k+f=u.length→(∀ j,1≤j→j≤k→xE j∈u)→P k N':=by
  intro f
  have out:∀ (k:Nat) (N':Nat),N≤N'→next≤k→(∀ j,1≤j→j≤k→xE j∈u)→xE (k+1)∉free→F (xE (k+1)) (k+1) N':=fun k N' hN' hk hall hm=>by
   have e:=qv (u:=u) (k:=k+1) ⟨by omega,fun hc=>hm ((hI.hi _ (by omega)).1 hc),fun j h1 h2=>hall j h1 (by omega)⟩
   rw [←e]
   refine hF _ _ hN' ⟨fun j h1 h2=>?_,fun j h1=>?_⟩
   ·by_cases h3:j=k+1
    ·subst h3;rw [e];simp
    ·exact List.mem_append_left _ (hall j h1 (by omega))
   ·rw [e,List.mem_append,List.mem_singleton,hI.hi j (by omega)]
    constructor
    ·rintro (h2 | h2)
     ·exact h2
     ·have:=zCj h2;omega
    ·exact .inl
  induction f with
  | zero=>
    intro k N' hN' hk hkf hall
    refine step k N' hN' (by omega) (fun N'' h1 hm=>?_) fun N'' h1 hm=>out k N'' (by omega) hk hall hm
    exfalso
    have:=zCR u (k+2) (fun j h4 h5=>by
     by_cases h6:j=k+1
     ·subst h6;exact (hI.hi _ (by omega)).2 hm
     ·exact hall j h4 (by omega)) (by omega)
    omega
  | succ f ih=>
    intro k N' hN' hk hkf hall
    refine step k N' hN' (by omega) (fun N'' h1 hm=>?_) fun N'' h1 hm=>out k N'' (by omega) hk hall hm
    exact ih (k+1) N'' (by omega) (by omega) (by omega) fun j h4 h5=>by
     by_cases h6:j=k+1
     ·subst h6;exact (hI.hi _ (by omega)).2 hm
     ·exact hall j h4 (by omega)
 exact key (u.length - next) next N (Nat.le_refl _) (Nat.le_refl _) (by have:=hI.le;omega) hI.lo
/-- names given one behind the other -/
noncomputable def yK:Nat→List ByteArray→List ByteArray
 | 0,_=>[]
 | m+1,u=>xf u::yK m (u++[xf u])
theorem yF:∀ m u,(yK m u).length=m
 | 0,_=>rfl
 | m+1,u=>by simp [yK,yF m]
theorem xt:∀ (m:Nat) (u:List ByteArray),yK (m+1) u=yK m u++[xf (u++yK m u)]
 | 0,u=>by simp [yK]
 | m+1,u=>by
   rw [yK,xt m,yK]
   simp [List.append_assoc]
abbrev NEnv:=ByteArray→Option ByteArray
def yR:NEnv→List ByteArray→List ByteArray→NEnv
 | env,o::os,n::ns=>yR (zHU env o n) os ns
 | env,_,_=>env
mutual
/-- what lies under a variable's node is copied (b), or replaced, too -/
noncomputable def can (b:Bool):Tm→NEnv→List ByteArray→Tm × List ByteArray
 | .mk k nm ot n ty re l,env,u=>if k=1∧b=true then (.mk k ((env nm).getD nm) ot n ty re l,u) else
   let now:=yK (bdN k nm ot l.length).length u
   let r:=zBH b l (xC k l.length) env (yR env (bdN k nm ot l.length) now) 0 (u++now)
   (.mk k (now.headD (if k=1 then (env nm).getD nm else nm)) (now.tail.headD ot) n ty re r.1,r.2)
noncomputable def zBH (b:Bool):List Tm→Int→NEnv→NEnv→Nat→List ByteArray→List Tm × List ByteArray
 | [],_,_,_,_,u=>([],u)
 | x::xs,at_,env,inner,i,u=>
   let r:=can b x (if (i:Int)=at_ then inner else env) u
   let q:=zBH b xs at_ env inner (i+1) r.2
   (r.1::q.1,q.2)
end
mutual
/-- no variable has parts -/
def Tm.vok:Tm→Bool
 | .mk k _ _ _ _ _ l=>(!decide (k=1)||l.isEmpty)&&zIe l
def zIe:List Tm→Bool
 | []=>true
 | x::l=>x.vok&&zIe l
end
mutual
theorem zHo:∀ (t:Tm) (env:NEnv) (u:List ByteArray),t.vok=true→can true t env u=can false t env u
 | .mk k nm ot n ty re l,env,u,h=>by
   simp only [Tm.vok,Bool.and_eq_true,Bool.or_eq_true,Bool.not_eq_true',decide_eq_false_iff_not] at h
   by_cases hk:k=1
   ·have hl:l=[]:=by simpa [hk] using h.1
    subst hl
    have hb:bdN k nm ot ([]:List Tm).length=[]:=by unfold bdN;rw [if_neg (by omega),if_neg (by omega),if_neg (by omega)]
    simp [can,zBH,hk,yK]
    rw [hk] at hb
    simp only [List.length_nil] at hb
    simp [hb,yK]
   ·simp only [can,hk,false_and,if_false,zFU l _ _ _ _ _ h.2]
theorem zFU:∀ (l:List Tm) (at_:Int) (env inner:NEnv) (i:Nat) (u:List ByteArray),zIe l=true→zBH true l at_ env inner i u=zBH false l at_ env inner i u
 | [],_,_,_,_,_,_=>rfl
 | x::xs,at_,env,inner,i,u,h=>by
   simp only [zIe,Bool.and_eq_true] at h
   simp only [zBH,zHo x _ _ h.1,zFU xs _ _ _ _ _ h.2]
end
mutual
theorem zGN:∀ t:Tm,t.ok=true→t.vok=true
 | .mk k nm ot n ty re l,h=>by
   have h2:pA l=true∧(l.length:Int)=zDt k nm:=by
    simp only [Tm.ok,Bool.and_eq_true,beq_iff_eq] at h
    exact ⟨h.1,h.2.2⟩
   simp only [Tm.vok,Bool.and_eq_true,Bool.or_eq_true,Bool.not_eq_true',decide_eq_false_iff_not]
   refine ⟨?_,zGR l h2.1⟩
   by_cases hk:k=1
   ·right
    have:=h2.2
    unfold zDt at this
    rw [if_pos (by omega)] at this
    rw [List.length_eq_zero_iff.1 (by omega:l.length=0)];rfl
   ·exact .inl hk
theorem zGR:∀ l:List Tm,pA l=true→zIe l=true
 | [],_=>rfl
 | x::l,h=>by
   simp only [pA,Bool.and_eq_true] at h
   simp only [zIe,zGN x h.1,zGR l h.2,Bool.and_self]
end
theorem zBL (u:List ByteArray) (hl:u.length≤8796093022200) (a:Option Addr) (c:Nat):zDZ 244 [.str (bytes [98]),.sv a 0 (zA u) c] (xf u):=fun N Q hQ=>by
 refine zCc N _ a _ c Q fun _=>?_
 refine zCr u (fun k N'=>xX Q N (bytes [98]) a (zA u) c k N') N (fun s N'=>Q s N') hQ fun k N' hN' hk hin hout=>?_
 have hnd:=zBB k (by omega)
 have hds:=zBh k
 have hb:(bytes [98]).size=1:=rfl
 refine pq _ _ _ _ _ _ _ _ fun N2 hN2=>rU k (by omega) N2 _ fun N3 hN3 _=>⟨by omega,fun N4 hN4=>?_⟩
 rw [zDy]
 refine xW u (by omega) a c (xE k) N4 _ fun N5 hN5 _=>?_
 rw [zCo]
 refine Br.ndec (fun h N6 hN6=>hout N6 (by omega) h) fun h=>?_
 rw [i64_in _ (by omega)]
 exact hin _ (by omega) h
theorem zI6 (u:List ByteArray) (hl:u.length≤8796093022200) (q N:Nat) (Q:QT [.str,.sl 0]) (hQ:∀ c N',N≤N'→Q (xf u) none (zA (u++[xf u])) c N') :
  BCalls prog 187 [.str,.sl 0] [.pb 0 0 0 0] [.var [.sb 1 0 0 (zA u).length q],.arr 9 0 (zA u) q] N Q:=
 wz N _ _ _ _ Q fun E _=>⟨⟨rfl,rfl⟩,fun a _ N1 hN1 _=>zBL u hl a q N1 _ fun N2 hN2 _=>⟨⟨rfl,rfl⟩,vG (by omega),fun c=>⟨zF5,⟨rfl,rfl⟩,fun N3 hN3=>by
  rw [yN]
  exact hQ c N3 (by omega)⟩⟩⟩
theorem zE9 {free u:List ByteArray} {next:Nat} (hI:CanI free next u) (hl:u.length≤8796093022200) (hf:free.length≤8796093022200) (a:Option Addr) (c N:Nat) (Q:QT [.str,.sl 0,.int .i64])
  (hQ:∀ (n' N':Nat),N≤N'→CanI free n' (u++[xf u])→Q (xf u) a (zA free) c (n':Int) N') :
  BCalls prog 173 [.str,.sl 0,.int .i64] [.pb 0 0 0 0] [.var [.sv a 0 (zA free) c,.int .i64 next]] N Q:=by
 refine sM N a _ c _ Q fun E _=>?_
 refine zFg hI (fun k N'=>yo E Q N a (zA free) c (k:Int) N') N (fun s n' N'=>Q s a (zA free) c (n':Int) N') hQ fun k N' hN' hk hin hout=>?_
 have e:IntKind.i64.wrap ((k:Int)+1)=((k+1:Nat):Int):=by rw [i64_in _ (by omega)];omega
 have hnd:=zBB (k+1) (by omega)
 have hds:=zBh (k+1)
 refine rc _ _ _ _ _ _ _ _ fun N1 hN1=>?_
 rw [e]
 refine rM (k+1) (by omega) N1 _ fun N2 hN2 _=>⟨by omega,fun N3 hN3=>?_⟩
 rw [zDy]
 refine wl free (by omega) a c (xE (k+1)) N3 _ fun N4 hN4 _=>?_
 rw [zDM]
 exact Br.dec (fun h=>⟨zF5,fun N5 hN5=>hout N5 (by omega) h⟩) fun h=>hin _ (by omega) (Decidable.not_not.1 h)
/-- the new name of a variable, in the reference's two lists -/
def zAk:Nat→List ByteArray→List ByteArray→ByteArray→ByteArray
 | 0,_,_,s=>s
 | k+1,fr,to,s=>if fr[k]?=some s then (to[k]?).getD s else zAk k fr to s
structure EnvR (fr to:List ByteArray) (env:NEnv):Prop where
 len:fr.length=to.length
 h:∀ s,zAk fr.length fr to s=(env s).getD s
theorem zCS (fr to fr' to':List ByteArray) (s:ByteArray) (hl:fr.length=to.length):∀ k,k≤fr.length→zAk k (fr++fr') (to++to') s=zAk k fr to s
 | 0,_=>rfl
 | k+1,h=>by
   simp only [zAk]
   rw [List.getElem?_append_left (by omega),List.getElem?_append_left (by omega),zCS fr to fr' to' s hl k (by omega)]
theorem EnvR.snoc {fr to:List ByteArray} {env:NEnv} (h:EnvR fr to env) (o n:ByteArray):EnvR (fr++[o]) (to++[n]) (zHU env o n):=by
 have hl:=h.len
 refine ⟨by simp [h.len],fun s=>?_⟩
 rw [List.length_append,List.length_singleton]
 simp only [zAk]
 rw [List.getElem?_append_right (Nat.le_refl _),hl,List.getElem?_append_right (Nat.le_refl _),←hl,zCS fr to _ _ s hl _ (Nat.le_refl _),h.h]
 simp only [Nat.sub_self,List.getElem?_cons_zero,Option.some.injEq,zHU,Option.getD_some]
 by_cases e:o=s
 ·rw [if_pos e,if_pos e.symm];rfl
 ·rw [if_neg e,if_neg (fun c=>e c.symm)]
theorem EnvR.app:∀ {ns now:List ByteArray} {fr to:List ByteArray} {env:NEnv},EnvR fr to env→ns.length=now.length→EnvR (fr++ns) (to++now) (yR env ns now)
 | [],[],fr,to,env,h,_=>by simpa [yR] using h
 | o::os,n::ns,fr,to,env,h,hl=>by
   have:=EnvR.app (h.snoc o n) (ns:=os) (now:=ns) (by simpa using hl)
   rw [List.append_assoc,List.append_assoc] at this
   exact this
 | [],_::_,_,_,_,_,hl=>by simp at hl
 | _::_,[],_,_,_,_,hl=>by simp at hl
theorem sn {l:List ByteArray} {k:Nat} {s:ByteArray} (h:l[k]?=some s):List.getD (zA l) k default=.lit (.string s):=by
 rw [List.getD_eq_getElem?_getD];simp [zA,h]
theorem zF2 {fr to:List ByteArray} (hl:fr.length=to.length) (hb:fr.length≤4611686018427387904) (a a':Option Addr) (c c':Nat) (s:ByteArray) :
  zDZ 171 [.sv a 0 (zA fr) c,.sv a' 0 (zA to) c',.str s] (zAk fr.length fr to s):=fun N Q hQ=>by
 refine pM N a _ c a' _ c' s Q fun _ _=>?_
 have hw:=zC fr
 have hw':=zC to
 have key:∀ (k N':Nat),k≤fr.length→N≤N'→(∀ N'',N≤N''→Q (zAk k fr to s) N'')→yr Q N a (zA fr) c a' (zA to) c' s ((k:Int) - 1) N':=by
  intro k
  induction k with
  | zero=>exact fun N' _ hN' hq=>vQ _ _ _ _ _ _ _ _ _ _ _ (Br.dec (fun h=>by omega) fun _ N2 hN2=>hq _ (by omega))
  | succ k ih=>
    intro N' hk hN' hq
    have e:((k+1:Nat):Int) - 1=(k:Int):=by omega
    rw [e]
    have h1:fr[k]?=some fr[k]:=List.getElem?_eq_getElem (by omega)
    have h2:to[k]?=some (to[k]'(by omega)):=List.getElem?_eq_getElem (by omega)
    simp only [zAk,h1,h2,Option.some.injEq,Option.getD_some] at hq
    refine vQ _ _ _ _ _ _ _ _ _ _ _ (Br.dec (fun _=>⟨⟨by omega,by omega⟩,fr[k],by rw [Int.toNat_natCast];exact sn h1,Br.str (fun h=>⟨⟨by omega,by omega⟩,to[k]'(by omega),by rw [Int.toNat_natCast];exact sn h2,fun N1 hN1=>?_⟩) fun h=>?_⟩) fun h=>absurd (by omega) h)
    ·rw [if_pos h] at hq
     exact hq _ (by omega)
    ·rw [if_neg h] at hq
     rw [i64_in _ (by omega)]
     exact ih _ (by omega) hN' hq
 rw [i64_in _ (by omega),hw]
 exact key fr.length N (Nat.le_refl _) (Nat.le_refl _) hQ
mutual
theorem zDR (b:Bool):∀ (t:Tm) (env:NEnv) (u:List ByteArray),(can b t env u).2.length≤u.length+2*t.cnt
 | .mk k nm ot n ty re l,env,u=>by
   have hb:=qp k nm ot l.length
   simp only [can]
   split
   ·simp only;omega
   ·have h:=zD4 b l (xC k l.length) env (yR env (bdN k nm ot l.length) (yK (bdN k nm ot l.length).length u)) 0 (u++yK (bdN k nm ot l.length).length u)
    rw [List.length_append,yF] at h
    have:=Ty.cnt_pos ty
    simp only [Tm.cnt]
    omega
theorem zD4 (b:Bool):∀ (l:List Tm) (at_:Int) (env inner:NEnv) (i:Nat) (u:List ByteArray),(zBH b l at_ env inner i u).2.length≤u.length+2*yT l
 | [],_,_,_,_,u=>by simp [zBH]
 | x::xs,at_,env,inner,i,u=>by
   simp only [zBH,yT]
   have h1:=zDR b x (if (i:Int)=at_ then inner else env) u
   have h2:=zD4 b xs at_ env inner (i+1) (can b x (if (i:Int)=at_ then inner else env) u).2
   omega
end
theorem zIz (u:List ByteArray):bNo u≤u.length+1:=zCR u _ (zBN u).2.2 (zBN u).1
theorem zC1 {u:List ByteArray} (h:u.length≤8796093022200):(xf u).size≤21:=by
 have:=zIz u
 exact zE2 _ (by omega)
theorem sy:∀ (m:Nat) (u:List ByteArray),u.length+m≤8796093022200→∀ s∈yK m u,s.size≤21
 | 0,_,_,s,hs=>by simp [yK] at hs
 | m+1,u,h,s,hs=>by
   simp only [yK,List.mem_cons] at hs
   rcases hs with rfl | hs
   ·exact zC1 (by omega)
   ·exact sy m _ (by simp;omega) s hs
/-- new names are short -/
def EnvS (env:NEnv):Prop:=∀ s v,env s=some v→v.size≤4611686018427387904
theorem zEK:EnvS fun _=>none:=fun s v h=>by cases h
theorem EnvS.set {env:NEnv} (h:EnvS env) (o n:ByteArray) (hn:n.size≤4611686018427387904):EnvS (zHU env o n):=fun s v hv=>by
 unfold zHU at hv
 split at hv
 ·cases hv;exact hn
 ·exact h s v hv
theorem EnvS.bind:∀ {ns now:List ByteArray} {env:NEnv},EnvS env→(∀ s∈now,s.size≤4611686018427387904)→EnvS (yR env ns now)
 | [],_,env,h,_=>by simpa [yR] using h
 | _::_,[],env,h,_=>by simpa [yR] using h
 | o::os,n::ns,env,h,hn=>by
   simp only [yR]
   exact EnvS.bind (h.set o n (hn n (by simp))) fun s hs=>hn s (by simp [hs])
theorem zAW:∀ (ns now:List ByteArray) (env:NEnv) (o n:ByteArray),ns.length=now.length→yR env (ns++[o]) (now++[n])=zHU (yR env ns now) o n
 | [],[],_,_,_,_=>rfl
 | a::ns,b::now,env,o,n,h=>by
   simp only [List.cons_append,yR]
   exact zAW ns now (zHU env a b) o n (by simpa using h)
 | [],_::_,_,_,_,h=>by simp at h
 | _::_,[],_,_,_,h=>by simp at h
end Go.Proofs.YtmfjakahanbnlaaGreatDoor
set_option maxHeartbeats 1000000
namespace Go.Proofs.YtmfjakahanbnlaaGreatDoor
open Go Go.Proofs Go.Proofs.Tryz Go.IntWalk
theorem tm (l m:List ByteArray):zA l++zA m=zA (l++m):=by simp [zA]
theorem xc {l m:List ByteArray} (h:l.length+m.length≤8796093022207):zB (zA l) (zA m) 16:=by
 unfold zB;rw [List.length_append,zC,zC];omega
theorem rp {l:List D} {x:D} (h:l.length≤1073741824):zB l [x] 136:=by
 unfold zB;rw [List.length_append];simp;omega
theorem zJD {ds:List D}:zIA none [] 0 ds:=by simp [zIA]
/-- what the reference's walk is asked for -/
def zKQ (t:Tm):Prop:=∀ (d:D),t.Is d→t.G→∀ (fr to:List ByteArray) (env:NEnv) (free u:List ByteArray) (next:Nat),EnvR fr to env→EnvS env→CanI free next u→free.length≤1099511627776 →
 u.length+2*t.cnt≤1099511627776→fr.length+2*t.cnt≤1099511627776→∀ (a:Option Addr) (c:Nat) (a':Option Addr) (c':Nat) (a0:Option Addr) (c0 N:Nat) (Q:QT [.ag 9,.sl 0,.int .i64]),
 (∀ (d':D) (n' N':Nat),N≤N'→(can false t env u).1.Is d'→CanI free n' (can false t env u).2→Q d' a0 (zA free) c0 (n':Int) N') →
 BCalls prog 108 [.ag 9,.sl 0,.int .i64] [.pb 0 0 0 0,.dg 9 d,.sv a 0 (zA fr) c,.sv a' 0 (zA to) c'] [.var [.sv a0 0 (zA free) c0,.int .i64 next]] N Q
theorem zGp:∀ t,zKQ t:=by
 refine Tm.ind fun k nm ot n0 ty re l ih d hd hG fr to env free u next hE hS hI hfree hu hfr a c a' c' a0 c0 N Q hQ=>?_
 obtain ⟨t0,t1,r0,r1,a9,es,c9,rfl,hh,hlen,hes⟩:=Tm.is_mk.1 hd
 have hl:=hes.len
 obtain ⟨g1,g2,g3,g4⟩:=hG
 have hb2:=qp k nm ot l.length
 simp only [Tm.cnt] at hu hfr
 have hty:=Ty.cnt_pos ty
 generalize hns:bdN k nm ot l.length=ns at hb2
 generalize hnow:yK ns.length u=now
 have hnl:now.length=ns.length:=by rw [←hnow,yF]
 generalize hR:zBH false l (xC k l.length) env (yR env ns now) 0 (u++now)=R
 have hnowS:∀ s∈now,s.size≤4611686018427387904:=fun s hs=>by
  rw [←hnow] at hs
  have:=sy ns.length u (by omega) s hs
  omega
 refine rN N _ a _ c a' _ c' a0 _ c0 _ Q fun E _ _ _ _=>⟨_,rfl,_,rfl,_,rfl,_,rfl,fun N1 hN1=>tw _ _ hh.ty g1 N1 _ fun x N2 hN2 hx hox _ _ N3 hN3=>tw _ _ hh.re g2 N3 _ fun y N4 hN4 hy hoy _ _=>⟨_,rfl,?_⟩⟩
 have main:∀ nm1:ByteArray,nm1.size≤4611686018427387904→(∀ (d':D) (n' N':Nat),N≤N'→(Tm.mk k (now.headD nm1) (now.tail.headD ot) n0 ty re R.1).Is d'→CanI free n' R.2→Q d' a0 (zA free) c0 (n':Int) N') →
   ∀ (a1:Option Addr) (c1 N8:Nat),N≤N8→z6 E Q N a (zA fr) c a' (zA to) c' a1 (zA ns) c1 (xC k l.length) 0 0 0 a0 (zA free) c0 next
     (.ag [.lit (.int .i64 k),.lit (.string nm),.lit (.string ot),.lit (.int .i64 n0),t0,t1,r0,r1,.sl a9 9 es c9]) 0 (bytes []) (bytes []) 0 0 none [] 0 0 none [] 0 none [] 0 k nm1 ot n0 (x.cell 0) (x.cell 1) (y.cell 0) (y.cell 1) none [] 0 [] 0 N8:=by
  intro nm1 hn1 hq a1 c1 N8 hN8
  have hE':EnvR (fr++ns) (to++now) (yR env ns now):=hE.app hnl.symm
  have hS':EnvS (yR env ns now):=hS.bind hnowS
  have loop2:∀ nm2 ot2:ByteArray,nm2.size≤4611686018427387904→ot2.size≤4611686018427387904→(∀ (d':D) (n' N':Nat),N≤N'→(Tm.mk k nm2 ot2 n0 ty re R.1).Is d'→CanI free n' R.2→Q d' a0 (zA free) c0 (n':Int) N') →
    ∀ (a12:Option Addr) (c12 next1 N9:Nat),N≤N9→CanI free next1 (u++now)→zf E Q N a (zA fr) c a' (zA to) c' a1 (zA ns) c1 (xC k l.length) a12 (zA now) c12 (0:Nat) a0 (zA free) c0 next1
      (.ag [.lit (.int .i64 k),.lit (.string nm),.lit (.string ot),.lit (.int .i64 n0),t0,t1,r0,r1,.sl a9 9 es c9]) 0 (bytes []) (bytes []) 0 0 none [] 0 0 none [] 0 none [] 0 k nm2 ot2 n0 (x.cell 0) (x.cell 1) (y.cell 0) (y.cell 1) none [] 0 N9:=by
   intro nm2 ot2 hn2 ho2 hq2 a12 c12 next1 N9 hN9 hI1
   have hH:Tm.Hd nm2 ot2 ty re (x.cell 0) (x.cell 1) (y.cell 0) (y.cell 1):=⟨hn2,ho2,Ty.is_cells hx,Ty.is_cells hy⟩
   have fin:∀ (done:List D) (aa:Option Addr) (q n' N':Nat),N≤N'→done.length≤1073741824→All2 Tm.Is R.1 done→CanI free n' R.2→Q (D.ag [.lit (.int .i64 k),.lit (.string nm2),.lit (.string ot2),.lit (.int .i64 n0),x.cell 0,x.cell 1,y.cell 0,y.cell 1,.sl aa 9 done q]) a0 (zA free) c0 (n':Int) N':=
    fun done aa q n' N' h1 h2 h3 h4=>hq2 _ n' N' h1 (Tm.is_mk.2 ⟨_,_,_,_,_,_,_,rfl,hH,by omega,h3⟩) h4
   have key:=up hes hlen (fun i xs=>∀ (pre:List Tm) (done:List D) (ui:List ByteArray) (ni q N':Nat),N≤N'→done.length=i→All2 Tm.Is pre done→CanI free ni ui→ui.length+2*yT xs≤1099511627776→fr.length+2+2*yT xs≤1099511627776 →
    R.1=pre++(zBH false xs (xC k l.length) env (yR env ns now) i ui).1→R.2=(zBH false xs (xC k l.length) env (yR env ns now) i ui).2 →
    (i=0→zf E Q N a (zA fr) c a' (zA to) c' a1 (zA ns) c1 (xC k l.length) a12 (zA now) c12 (i:Nat) a0 (zA free) c0 ni
    (.ag [.lit (.int .i64 k),.lit (.string nm),.lit (.string ot),.lit (.int .i64 n0),t0,t1,r0,r1,.sl a9 9 es c9]) 0 (bytes []) (bytes []) 0 0 none [] 0 0 none [] 0 none [] 0 k nm2 ot2 n0 (x.cell 0) (x.cell 1) (y.cell 0) (y.cell 1) none [] 0 N') ∧
    (0<i→zN E Q N a (zA fr) c a' (zA to) c' a1 (zA ns) c1 (xC k l.length) a12 (zA now) c12 (i:Nat) a0 (zA free) c0 ni
    (.ag [.lit (.int .i64 k),.lit (.string nm),.lit (.string ot),.lit (.int .i64 n0),t0,t1,r0,r1,.sl a9 9 es c9]) 0 (bytes []) (bytes []) 0 0 none [] 0 0 none [] 0 none [] 0 k nm2 ot2 n0 (x.cell 0) (x.cell 1) (y.cell 0) (y.cell 1) done.length q done q N')) ?_ ?_
   ·exact (key [] [] (u++now) next1 0 N9 hN9 rfl rfl hI1 (by rw [List.length_append];omega) (by omega) (by rw [hR];rfl) (by rw [hR])).1 rfl
   ·intro i hlt hi pre done ui ni q N' hN' hdl hd2 hIi hu1 hf1 hR1 hR2
    simp only [zBH,List.append_nil] at hR1 hR2
    subst hR1
    refine ⟨fun h0=>?_,fun h0=>?_⟩
    ·refine vJ _ _ _ _ _ _ _ _ _ _ _ _ _ _ _ _ _ _ _ _ _ _ _ _ _ _ _ _ _ _ _ _ _ _ _ _ _ _ _ _ _ _ _ _ _ _ _ _ _ ⟨_,_,_,rfl,?_⟩
     rw [hlt]
     have:done=[]:=List.length_eq_zero_iff.1 (by omega)
     subst this
     exact ⟨zF5,fun N7 hN7=>fin [] _ _ _ _ (by omega) (by simp) hd2 (by rw [hR2];exact hIi)⟩
    ·refine wG _ _ _ _ _ _ _ _ _ _ _ _ _ _ _ _ _ _ _ _ _ _ _ _ _ _ _ _ _ _ _ _ _ _ _ _ _ _ _ _ _ _ _ _ _ _ _ _ _ _ ⟨_,_,_,rfl,?_⟩
     rw [hlt]
     exact ⟨⟨rfl,rfl⟩,⟨rfl,rfl⟩,⟨rfl,rfl⟩,fun a7 N7 hN7 hf=>⟨zF5,fun N8 hN8=>fin _ _ _ _ _ (by omega) (by omega) hd2 (by rw [hR2];exact hIi)⟩⟩
   ·intro i z xs hat _ ih2 pre done ui ni q N' hN' hdl hd2 hIi hu1 hf1 hR1 hR2
    have hb:=hat.b
    simp only [yT] at hu1 hf1
    simp only [zBH] at hR1 hR2
    have hzl:=zDR false z (if (i:Int)=xC k l.length then yR env ns now else env) ui
    have next:∀ (d':D) (q' n' N'':Nat),N'≤N''→(can false z (if (i:Int)=xC k l.length then yR env ns now else env) ui).1.Is d'→CanI free n' (can false z (if (i:Int)=xC k l.length then yR env ns now else env) ui).2 →
      zN E Q N a (zA fr) c a' (zA to) c' a1 (zA ns) c1 (xC k l.length) a12 (zA now) c12 (IntKind.i64.wrap ((i:Int)+1)) a0 (zA free) c0 n'
     (.ag [.lit (.int .i64 k),.lit (.string nm),.lit (.string ot),.lit (.int .i64 n0),t0,t1,r0,r1,.sl a9 9 es c9]) 0 (bytes []) (bytes []) 0 0 none [] 0 0 none [] 0 none [] 0 k nm2 ot2 n0 (x.cell 0) (x.cell 1) (y.cell 0) (y.cell 1) (done++[d']).length q' (done++[d']) q' N'':=fun d' q' n' N'' h1 h2 h3=>by
     rw [hat.w]
     exact (ih2 (pre++[_]) (done++[d']) _ n' q' N'' (by omega) (by simp [hdl]) (hd2.snoc h2) h3 (by omega) (by omega) (by rw [hR1];simp) hR2).2 (by omega)
    have inn:∀ (aa ab:Option Addr) (ca cb M:Nat) (QQ:QT [.ag 9,.sl 0,.int .i64]),(i:Int)=xC k l.length→(∀ (d':D) (n' N'':Nat),M≤N''→(can false z (if (i:Int)=xC k l.length then yR env ns now else env) ui).1.Is d'→CanI free n' (can false z (if (i:Int)=xC k l.length then yR env ns now else env) ui).2→QQ d' a0 (zA free) c0 (n':Int) N'') →
      BCalls prog 108 [.ag 9,.sl 0,.int .i64] [.pb 0 0 0 0,.dg 9 (List.getD es i default),.sv aa 0 ([]++zA fr++zA ns) ca,.sv ab 0 ([]++zA to++zA now) cb] [.var [.sv a0 0 (zA free) c0,.int .i64 ni]] M QQ:=fun aa ab ca cb M QQ he hq3=>by
     rw [if_pos he] at hq3
     rw [List.nil_append,List.nil_append,tm,tm]
     exact ih z hat.m _ hat.r (uU g4 hat.m) _ _ _ free ui ni hE' hS' hIi hfree (by omega) (by rw [List.length_append];omega) _ _ _ _ _ _ _ _ hq3
    have out:∀ (M:Nat) (QQ:QT [.ag 9,.sl 0,.int .i64]),¬(i:Int)=xC k l.length→(∀ (d':D) (n' N'':Nat),M≤N''→(can false z (if (i:Int)=xC k l.length then yR env ns now else env) ui).1.Is d'→CanI free n' (can false z (if (i:Int)=xC k l.length then yR env ns now else env) ui).2→QQ d' a0 (zA free) c0 (n':Int) N'') →
      BCalls prog 108 [.ag 9,.sl 0,.int .i64] [.pb 0 0 0 0,.dg 9 (List.getD es i default),.sv a 0 (zA fr) c,.sv a' 0 (zA to) c'] [.var [.sv a0 0 (zA free) c0,.int .i64 ni]] M QQ:=fun M QQ he hq3=>by
     rw [if_neg he] at hq3
     exact ih z hat.m _ hat.r (uU g4 hat.m) _ _ _ free ui ni hE hS hIi hfree (by omega) (by omega) _ _ _ _ _ _ _ _ hq3
    have htl:=hE.len
    refine ⟨fun h0=>?_,fun h0=>?_⟩
    ·refine vJ _ _ _ _ _ _ _ _ _ _ _ _ _ _ _ _ _ _ _ _ _ _ _ _ _ _ _ _ _ _ _ _ _ _ _ _ _ _ _ _ _ _ _ _ _ _ _ _ _ ⟨_,_,_,rfl,?_⟩
     rw [hat.lt]
     have hd0:done=[]:=List.length_eq_zero_iff.1 (by omega)
     subst hd0
     refine Br.beq (fun he=>?_) fun he=>?_
     ·refine ⟨⟨rfl,rfl⟩,xc (l:=[]) (by simp;omega),fun c_1=>⟨⟨rfl,rfl⟩,xc (by omega),fun c_2=>⟨⟨rfl,rfl⟩,xc (l:=[]) (by simp;omega),fun c_3=>⟨⟨rfl,rfl⟩,xc (by omega),fun c_4=>⟨_,_,_,rfl,⟨by omega,by omega⟩,⟨rfl,rfl⟩,⟨rfl,rfl⟩,⟨rfl,rfl⟩,fun a_2 N1 hN1 _=>⟨⟨rfl,rfl⟩,⟨rfl,rfl⟩,⟨rfl,rfl⟩,fun a_3 N2 hN2 _ N3 hN3=>?_⟩⟩⟩⟩⟩⟩
      rw [Int.toNat_natCast]
      exact inn _ _ _ _ _ _ he fun d' n' N'' hN'' h1 h2 _ _ _=>⟨zJD,rp (by simp),fun c7=>next d' c7 n' N'' (by omega) h1 h2⟩
     ·refine ⟨_,_,_,rfl,⟨by omega,by omega⟩,fun N5 hN5=>?_⟩
      rw [Int.toNat_natCast]
      exact out _ _ he fun d' n' N'' hN'' h1 h2 _ _ _=>⟨zJD,rp (by simp),fun c7=>next d' c7 n' N'' (by omega) h1 h2⟩
    ·refine wG _ _ _ _ _ _ _ _ _ _ _ _ _ _ _ _ _ _ _ _ _ _ _ _ _ _ _ _ _ _ _ _ _ _ _ _ _ _ _ _ _ _ _ _ _ _ _ _ _ _ ⟨_,_,_,rfl,?_⟩
     rw [hat.lt]
     refine Br.beq (fun he=>?_) fun he=>?_
     ·refine ⟨⟨rfl,rfl⟩,xc (l:=[]) (by simp;omega),fun c_1=>⟨⟨rfl,rfl⟩,xc (by omega),fun c_2=>⟨⟨rfl,rfl⟩,xc (l:=[]) (by simp;omega),fun c_3=>⟨⟨rfl,rfl⟩,xc (by omega),fun c_4=>⟨_,_,_,rfl,⟨by omega,by omega⟩,⟨rfl,rfl⟩,⟨rfl,rfl⟩,⟨rfl,rfl⟩,fun a_2 N1 hN1 _=>⟨⟨rfl,rfl⟩,⟨rfl,rfl⟩,⟨rfl,rfl⟩,fun a_3 N2 hN2 _ N3 hN3=>?_⟩⟩⟩⟩⟩⟩
      rw [Int.toNat_natCast]
      exact inn _ _ _ _ _ _ he fun d' n' N'' hN'' h1 h2 _ _ _=>⟨⟨rfl,rfl⟩,rp (by omega),fun c7=>next d' c7 n' N'' (by omega) h1 h2⟩
     ·refine ⟨_,_,_,rfl,⟨by omega,by omega⟩,fun N5 hN5=>?_⟩
      rw [Int.toNat_natCast]
      exact out _ _ he fun d' n' N'' hN'' h1 h2 _ _ _=>⟨⟨rfl,rfl⟩,rp (by omega),fun c7=>next d' c7 n' N'' (by omega) h1 h2⟩
  have lp:=up (yQ ns) (by rw [zC];omega) (fun i xs=>∀ (ni q N':Nat),N≤N'→CanI free ni (u++yK i u)→xs.length+i=ns.length →
   z6 E Q N a (zA fr) c a' (zA to) c' a1 (zA ns) c1 (xC k l.length) (zA (yK i u)).length q (i:Nat) a0 (zA free) c0 ni
    (.ag [.lit (.int .i64 k),.lit (.string nm),.lit (.string ot),.lit (.int .i64 n0),t0,t1,r0,r1,.sl a9 9 es c9]) 0 (bytes []) (bytes []) 0 0 none [] 0 0 none [] 0 none [] 0 k nm1 ot n0 (x.cell 0) (x.cell 1) (y.cell 0) (y.cell 1) none [] 0 (zA (yK i u)) q N') ?_ ?_
  ·exact lp next 0 N8 hN8 (by simpa [yK] using hI) (by simp)
  ·intro i hlt hi ni q N' hN' hIi hx1
   have hii:i=ns.length:=by rw [zC] at hi;exact hi
   subst hii
   rw [hnow] at hIi ⊢
   refine v6 _ _ _ _ _ _ _ _ _ _ _ _ _ _ _ _ _ _ _ _ _ _ _ _ _ _ _ _ _ _ _ _ _ _ _ _ _ _ _ _ _ _ _ _ _ _ _ _ _ _ ?_
   rw [hlt]
   refine Br.of (fun h=>by cases h) fun _=>?_
   rcases now with _ | ⟨v,_ | ⟨w,_ | ⟨z,rest⟩⟩⟩
   ·exact Br.dec (fun h=>by simp [zA] at h) fun _=>Br.dec (fun h=>by simp [zA] at h) fun _=>⟨⟨rfl,rfl⟩,⟨rfl,rfl⟩,⟨rfl,rfl⟩,fun a_4 N6 hN6 hf=>loop2 nm1 ot hn1 hh.ot hq a_4 q ni N6 (by omega) hIi⟩
   ·exact Br.dec (fun _=>⟨⟨by omega,by simp [zA],by simp [zA]⟩,by simp [zA],v,rfl,Br.dec (fun h=>by simp [zA] at h) fun _=>⟨⟨rfl,rfl⟩,⟨rfl,rfl⟩,⟨rfl,rfl⟩,⟨rfl,rfl⟩,fun a_4 N6 hN6 hf=>loop2 v ot (hnowS v (by simp)) hh.ot hq a_4 q ni N6 (by omega) hIi⟩⟩) fun h=>absurd (by simp [zA]) h
   ·exact Br.dec (fun _=>⟨⟨by omega,by simp [zA],by simp [zA]⟩,by simp [zA],v,rfl,Br.dec (fun _=>⟨⟨by omega,by simp [zA],by simp [zA]⟩,by simp [zA],w,rfl,⟨rfl,rfl⟩,⟨rfl,rfl⟩,⟨rfl,rfl⟩,⟨rfl,rfl⟩,⟨rfl,rfl⟩,fun a_4 N6 hN6 hf=>loop2 v w (hnowS v (by simp)) (hnowS w (by simp)) hq a_4 q ni N6 (by omega) hIi⟩) fun h=>absurd (by simp [zA]) h⟩) fun h=>absurd (by simp [zA]) h
   ·simp only [List.length_cons] at hnl
    omega
  ·intro i z xs hat hdrop ih2 ni q N' hN' hIi hx1
   refine v6 _ _ _ _ _ _ _ _ _ _ _ _ _ _ _ _ _ _ _ _ _ _ _ _ _ _ _ _ _ _ _ _ _ _ _ _ _ _ _ _ _ _ _ _ _ _ _ _ _ _ ?_
   rw [hat.lt]
   simp only [List.length_cons] at hx1
   intro N1 hN1
   refine zE9 hIi (by rw [List.length_append,yF];omega) (by omega) a0 c0 N1 _ fun n' N2 hN2 hI2 _ _=>⟨⟨rfl,rfl⟩,vG (by rw [yF];omega),fun c_1=>?_⟩
   rw [yN,←xt,hat.w]
   exact ih2 n' c_1 N2 (by omega) (by rw [xt,←List.append_assoc];exact hI2) (by omega)
 refine Br.beq (fun h1=>⟨_,rfl,fun N5 hN5=>zF2 hE.len (by omega) a a' c c' nm N5 _ fun N6 hN6 _ N7 hN7=>qN (n:=l.length) (by omega) N7 _ fun a1 c1 N8 hN8 _ _ _=>?_⟩) fun h1 N9 hN9=>qN (n:=l.length) (by omega) N9 _ fun a1 c1 N8 hN8 _ _ _=>?_
 ·rw [hns,hE.h nm]
  have hcan:can false (.mk k nm ot n0 ty re l) env u=(.mk k (now.headD ((env nm).getD nm)) (now.tail.headD ot) n0 ty re R.1,R.2):=by simp only [can,Bool.false_eq_true,and_false,if_false,if_pos h1,hns,hnow,hR]
  rw [hcan] at hQ
  refine main _ ?_ (fun d' n' N' hN' h2 h3=>hQ d' n' N' hN' h2 h3) a1 c1 N8 (by omega)
  cases hv:env nm with
  | none=>exact hh.nm
  | some v=>exact hS _ _ hv
 ·rw [hns]
  have hcan:can false (.mk k nm ot n0 ty re l) env u=(.mk k (now.headD nm) (now.tail.headD ot) n0 ty re R.1,R.2):=by simp only [can,Bool.false_eq_true,and_false,if_false,if_neg h1,hns,hnow,hR]
  rw [hcan] at hQ
  exact main nm hh.nm (fun d' n' N' hN' h2 h3=>hQ d' n' N' hN' h2 h3) a1 c1 N8 (by omega)
end Go.Proofs.YtmfjakahanbnlaaGreatDoor
