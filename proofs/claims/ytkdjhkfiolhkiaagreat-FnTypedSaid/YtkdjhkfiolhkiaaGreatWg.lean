/- Free names, fresh names, substitution: what they are (no program in sight). -/
import Derived.Test.YtkdjhkfiolhkiaaGreatWn
import Derived.Lib.ItoaNum
import Derived.Test.YtkdjhkfiolhkiaaGreatWc
import Derived.Test.YtkdjhkfiolhkiaaGreatWm
set_option linter.unusedVariables false
set_option linter.unusedSimpArgs false
namespace Go.Proofs.YtkdjhkfiolhkiaaGreat
open Go Go.Proofs Go.Proofs.Tryz Go.IntWalk
instance decMem (s:ByteArray) (l:List ByteArray):Decidable (s∈l):=decidable_of_iff ((l.any fun x=>decide (x=s))=true) (by simp)
/-- those of a list that are new go behind -/
def dd:List ByteArray->List ByteArray->List ByteArray
 | out,[]=>out
 | out,s::l=>dd (if s∈out then out else out++[s]) l
def zAG (a b:List ByteArray):List ByteArray:=dd (dd [] a) b
def zBT (names l:List ByteArray):List ByteArray:=l.filter fun s=>decide (s∉names)
theorem zK6:∀ (out l:List ByteArray) (x:ByteArray),x∈dd out l↔x∈out\/x∈l
 | out,[],x=>by simp [dd]
 | out,s::l,x=>by
   simp only [dd]
   rw [zK6]
   split
   ·rename_i h
    constructor
    ·rintro (h1 | h1)
     ·exact .inl h1
     ·exact .inr (by simp [h1])
    ·rintro (h1 | h1)
     ·exact .inl h1
     ·rcases oG.1 h1 with rfl | h1
      ·exact .inl h
      ·exact .inr h1
   ·simp only [oK,oh,oG,nD,mP,or_assoc]
theorem zFm:∀ (out l:List ByteArray),(dd out l).length<=out.length+l.length
 | out,[]=>by simp [dd]
 | out,s::l=>by
   simp only [dd]
   have:=zFm (if s∈out then out else out++[s]) l
   split at this<;>simp_all<;>omega
theorem zKo {a b:List ByteArray} {x:ByteArray}:x∈zAG a b↔x∈a\/x∈b:=by
 unfold zAG;rw [zK6,zK6];simp
theorem zFN {n l:List ByteArray} {x:ByteArray}:x∈zBT n l↔x∈l/\x∉n:=by simp [zBT]
def zEN (k:Int) (n:Nat):Int:=if k=6/\n=1 then 0 else if k=8/\n=2 then 1 else if k=9/\n=1 then 0 else -1
def bdN (k:Int) (nm ot:ByteArray) (n:Nat):List ByteArray:=if k=6/\n=1 then [nm] else if k=8/\n=2 then [nm] else if k=9/\n=1 then [nm,ot] else []
theorem zNH (k:Int) (nm ot:ByteArray) (n:Nat):(bdN k nm ot n).length<=2:=by unfold bdN;(repeat' split)<;>simp
mutual
def Tm.fv:Tm->List ByteArray
 | .mk k nm ot _ _ _ l=>if k=1 then [nm] else zAg l (zEN k l.length) (bdN k nm ot l.length) 0 []
def zAg:List Tm->Int->List ByteArray->Nat->List ByteArray->List ByteArray
 | [],_,_,_,out=>out
 | x::xs,at_,ns,i,out=>zAg xs at_ ns (i+1) (zAG out (if (i:Int)=at_ then zBT ns x.fv else x.fv))
end
/-- the free names of the part at a place -/
def fvI (at_:Int) (ns:List ByteArray) (i:Nat) (x:Tm):List ByteArray:=if (i:Int)=at_ then zBT ns x.fv else x.fv
theorem zFx:∀ (l:List Tm) (at_:Int) (ns:List ByteArray) (i:Nat) (out:List ByteArray) (s:ByteArray),s∈zAg l at_ ns i out↔s∈out\/∃ (j:Nat) (x:Tm),l[j]?=some x/\s∈fvI at_ ns (i+j) x
 | [],_,_,_,out,s=>by simp [zAg]
 | y :: l,at_,ns,i,out,s=>by
   simp only [zAg]
   rw [zFx,zKo]
   constructor
   ·rintro ((h | h) | ⟨j,x,h1,h2⟩)
    ·exact .inl h
    ·exact .inr ⟨0,y,rfl,h⟩
    ·exact .inr ⟨j+1,x,by simpa using h1,by rw [show i+(j+1)=i+1+j by omega];exact h2⟩
   ·rintro (h | ⟨j,x,h1,h2⟩)
    ·exact .inl (.inl h)
    ·cases j with
     | zero=>simp at h1;subst h1;exact .inl (.inr h2)
     | succ j=>exact .inr ⟨j,x,by simpa using h1,by rw [show i+1+j=i+(j+1) by omega];exact h2⟩
theorem Tm.fv_mem {k:Int} {nm ot:ByteArray} {n:Int} {ty re:Ty} {l:List Tm} {s:ByteArray}:s∈(Tm.mk k nm ot n ty re l).fv↔(k=1/\s=nm)\/(k≠1/\∃ (j:Nat) (x:Tm),l[j]?=some x/\s∈fvI (zEN k l.length) (bdN k nm ot l.length) j x):=by
 simp only [Tm.fv]
 by_cases hk:k=1
 ·simp [hk]
 ·rw [if_neg hk,zFx];simp [hk]
def zOg (k:Nat):ByteArray:=⟨(118::Lib.decDigits k).toArray⟩
def zMp:Nat->Nat->List ByteArray->Nat
 | 0,k,_=>k
 | f+1,k,l=>if zOg k∈l then zMp f (k+1) l else k
def fresh (l:List ByteArray):ByteArray:=zOg (zMp l.length 1 l)
def tm0:Tm:=.mk 0 (bytes []) (bytes []) 0 (.mk 0 []) (.mk 0 []) []
def zPy (s:ByteArray):Tm:=.mk 1 s (bytes []) 0 (.mk 0 []) (.mk 0 []) []
theorem uM:∀ l:List ByteArray,zE (zB l)=[]
 | []=>rfl
 | s::l=>by have:=uM l;simp only [zB,o8,zE,D.foot,oY] at this ⊢;exact this
theorem zDj:∀ l:List ByteArray,wK (zB l)
 | []=>trivial
 | s::l=>⟨trivial,zDj l⟩
theorem zI8 {N N':Nat} (l:List ByteArray):OwnL N N' (zB l):=⟨by rw [uM];exact mD,zDj l,by rw [uM];simp,by rw [uM];simp⟩
theorem uE {N N' M:Nat} {a:Option Addr} {l:List ByteArray} {c:Nat} {ds:List D} (hf:Fresh N N' a (.ag (zB l)::ds)) (h:N'<=M):Own N M (.sl a 0 (zB l) c):=(pj (N1:=N') (zI8 l) hf (oF _)).mono (oF _) h
theorem zJ5 {bs:List (Option Addr)} (l:List ByteArray):Off bs (.ag (zB l)):=fun a _ ad _ hc=>by simp only [D.foot,uM] at hc;simp at hc
/-- names, handed back as a row of their own -/
def zOc (f:FuncId) (args:List PV) (l:List ByteArray):Prop:=∀ (N:Nat) (Q:QT [.sl 0]),(∀ a c N',N<=N'->Own N N' (.sl a 0 (zB l) c)->Q a (zB l) c N')->ACalls prog f [.sl 0] args N Q
def zO0 (f:FuncId) (args:List PV) (l:List ByteArray):Prop:=∀ (N:Nat) (Q:QT [.row 9 0]),(∀ c N',N<=N'->Q (zB l) c N')->ACalls prog f [.row 9 0] args N Q
theorem zE8 {l:List ByteArray} {s:ByteArray} (h:l.length<=8796093022207):zA (zB l) [.lit (.string s)] 16:=by
 unfold zA;rw [oH,z7];simp only [oN,oP];omega
theorem zEB (l:List ByteArray) (hl:l.length<=2199023255552) (a:Option Addr) (c:Nat) (s:ByteArray):zOc 77 [.sv a 0 (zB l) c,.str s] (l.filter fun x=>decide (x≠s)):=fun N Q hQ=>by
 have hes:=wb l
 have hlen:(zB l).length<=4611686018427387904:=by rw [z7];omega
 refine rp N a _ c s Q fun _=>?_
 refine up hes hlen (fun i xs=>∀ (done:List ByteArray) (q N':Nat),N<=N'->done.length<=i->i<=l.length->done++xs.filter (fun x=>decide (x≠s))=l.filter (fun x=>decide (x≠s)) ->
  zw Q N a (zB l) c s (zB done).length q i (zB done) q N') ?_ ?_ [] 0 N (oF _) (by simp) (by omega) rfl
 ·intro i hlt hi done q N' hN' hdl hil hd
  refine wv _ _ _ _ _ _ _ _ _ _ _ _ ?_
  rw [hlt]
  rw [List.filter_nil,nF] at hd
  subst hd
  exact ⟨⟨rfl,rfl⟩,⟨rfl,rfl⟩,⟨rfl,rfl⟩,fun a1 N1 hN1 hf N2 hN2=>hQ _ _ _ (by omega) (uE hf hN2)⟩
 ·intro i x xs hat _ ih2 done q N' hN' hdl hil hd
  have hb:=hat.b
  have hr:=hat.r
  have hlw:=z7 l
  refine wv _ _ _ _ _ _ _ _ _ _ _ _ ?_
  rw [hat.lt,oM,hr,hat.w]
  refine ⟨⟨by omega,by omega⟩,_,rfl,Br.nstr (fun h=>⟨⟨by omega,by omega⟩,_,rfl,⟨rfl,rfl⟩,zE8 (by omega),fun c1=>?_⟩) fun h=>?_⟩
  ·rw [rC]
   refine ih2 _ _ _ hN' (by simp;omega) (by omega) ?_
   rw [<-hd]
   simp [List.filter_cons,h]
  ·refine ih2 _ _ _ hN' (by omega) (by omega) ?_
   rw [<-hd]
   simp [List.filter_cons,h]
theorem zJb (s:ByteArray) (l:List ByteArray):decide (zCZ (fun x=>decide (x=s)) l 0<0)=decide (s∉l):=by
 have h:=sH (fun x=>decide (x=s)) l 0 (by omega)
 rw [nj,na,na]
 have h2:(decide (zCZ (fun x=>decide (x=s)) l 0≥0)=true)↔(l.any fun x=>decide (x=s))=true:=by rw [h]
 rw [na] at h2
 simp only [List.any_eq_true,nC,exists_eq_right] at h2
 constructor
 ·intro h3 h4;have:=h2.2 h4;omega
 ·intro h3;exact Int.not_le.1 fun h4=>h3 (h2.1 h4)
theorem zEo {out xs:List ByteArray} {x:ByteArray}:dd out (x::xs)=dd (if x∈out then out else out++[x]) xs:=rfl
theorem zKN {out:List ByteArray} {x:ByteArray}:(if x∈out then out else out++[x]).length<=out.length+1:=by split<;>simp
theorem pV (l m:List ByteArray) (hl:l.length<=2199023255552) (hm:m.length<=2199023255552) (a b:Option Addr) (c c':Nat):zO0 78 [.sv a 0 (zB l) c,.sv b 0 (zB m) c'] (zAG l m):=fun N Q hQ=>by
 have hes:=wb l
 have hlen:(zB l).length<=4611686018427387904:=by rw [z7];omega
 have hms:=wb m
 have hmen:(zB m).length<=4611686018427387904:=by rw [z7];omega
 have hlw:=z7 l
 have hmw:=z7 m
 refine pT N a _ c b _ c' Q fun _ _=>?_
 have second:∀ (done:List ByteArray) (q N':Nat),N<=N'->done.length<=l.length->done=dd [] l->zh Q N b (zB m) c' (zB done).length q 0 (zB done) q N':=fun done0 q0 N0 hN0 hdl0 hd0=>
  up hms hmen (fun i xs=>∀ (done:List ByteArray) (q N':Nat),N<=N'->done.length<=l.length+i->dd done xs=zAG l m->zh Q N b (zB m) c' (zB done).length q i (zB done) q N')
   (fun i hlt hi done q N' hN' hdl hd=>by
    refine vM _ _ _ _ _ _ _ _ _ _ _ ?_
    rw [hlt]
    simp only [dd] at hd
    subst hd
    exact ⟨⟨rfl,rfl⟩,fun N2 hN2=>hQ _ _ (by omega)⟩)
   (fun i x xs hat _ ih2 done q N' hN' hdl hd=>by
    have hb:=hat.b
    have hr:=hat.r
    have hdl2:=zKN (out:=done) (x:=x)
    refine vM _ _ _ _ _ _ _ _ _ _ _ ?_
    rw [hat.lt,oM,hr,hat.w]
    refine ⟨⟨by omega,by omega⟩,_,rfl,⟨rfl,rfl⟩,fun a1 _ N1 hN1 _=>sq done (by omega) a1 q x N1 _ fun N2 hN2 hle2=>?_⟩
    rw [zJb]
    refine Br.dec (fun h=>⟨⟨by omega,by omega⟩,_,rfl,⟨rfl,rfl⟩,zE8 (by omega),fun c1=>?_⟩) fun h=>?_
    ·rw [rC]
     rw [if_neg h] at hdl2
     refine ih2 _ _ _ (by omega) (by omega) ?_
     rw [<-hd,zEo,if_neg h]
    ·refine ih2 _ _ _ (by omega) (by omega) ?_
     rw [<-hd,zEo,if_pos (Decidable.not_not.1 h)]) done0 q0 N0 hN0 (by omega) (by rw [hd0];rfl)
 refine up hes hlen (fun i xs=>∀ (done:List ByteArray) (q N':Nat),N<=N'->done.length<=i->dd done xs=dd [] l ->
  yA Q N a (zB l) c b (zB m) c' (zB done).length q i (zB done) q N') ?_ ?_ [] 0 N (oF _) (by simp) rfl
 ·intro i hlt hi done q N' hN' hdl hd
  refine vB _ _ _ _ _ _ _ _ _ _ _ _ _ _ ?_
  rw [hlt]
  exact second done q N' hN' (by omega) hd
 ·intro i x xs hat _ ih2 done q N' hN' hdl hd
  have hb:=hat.b
  have hr:=hat.r
  have hdl2:=zKN (out:=done) (x:=x)
  refine vB _ _ _ _ _ _ _ _ _ _ _ _ _ _ ?_
  rw [hat.lt,oM,hr,hat.w]
  refine ⟨⟨by omega,by omega⟩,_,rfl,⟨rfl,rfl⟩,fun a1 _ N1 hN1 _=>sq done (by omega) a1 q x N1 _ fun N2 hN2 hle2=>?_⟩
  rw [zJb]
  refine Br.dec (fun h=>⟨⟨by omega,by omega⟩,_,rfl,⟨rfl,rfl⟩,zE8 (by omega),fun c1=>?_⟩) fun h=>?_
  ·rw [rC]
   rw [if_neg h] at hdl2
   refine ih2 _ _ _ (by omega) (by omega) ?_
   rw [<-hd,zEo,if_neg h]
  ·refine ih2 _ _ _ (by omega) (by omega) ?_
   rw [<-hd,zEo,if_pos (Decidable.not_not.1 h)]
theorem Qbd {Q:QT [.sl 0,.int .i64]} {a:Option Addr} {es es':List D} {c:Nat} {n n':Int} {N:Nat} (h:Q a es c n N) (e1:es=es') (e2:n=n'):Q a es' c n' N:=e1 ▸ e2 ▸ h
def zPF (f:FuncId) (args:List PV) (l:List ByteArray) (n:Int):Prop:=∀ (N:Nat) (Q:QT [.sl 0,.int .i64]),(∀ a c N',N<=N'->Own N N' (.sl a 0 (zB l) c)->Q a (zB l) c n N')->ACalls prog f [.sl 0,.int .i64] args N Q
theorem zJU {k n0:Int} {nm ot:ByteArray} {t0 t1 r0 r1:D} {a:Option Addr} {es:List D} {c n:Nat} (hn:es.length=n) :
  zPF 76 [.dg 9 (.ag [.lit (.int .i64 k),.lit (.string nm),.lit (.string ot),.lit (.int .i64 n0),t0,t1,r0,r1,.sl a 9 es c])] (bdN k nm ot n) (zEN k n):=fun N Q hQ=>by
 subst hn
 have one:∀ (x:ByteArray) (m:Int),bdN k nm ot es.length=[x]->zEN k es.length=m->((1:Nat)=([D.lit (.string x)]).length/\(1:Nat)=1)/\((1:Nat)=([D.lit (.string x)]).length/\(1:Nat)=1)/\∀ a1 N1,N<=N1->Fresh N N1 a1 [D.ag [D.lit (.string x)]]->∀ N2,N1<=N2->Q a1 [D.lit (.string x)] 1 m N2:=fun x m h1 h2=>
  ⟨⟨rfl,rfl⟩,⟨rfl,rfl⟩,fun a1 N1 hN1 hf N2 hN2=>Qbd (hQ a1 1 N2 (by omega) (by rw [h1];exact uE (l:=[x]) hf hN2)) (by rw [h1];rfl) h2⟩
 have two:bdN k nm ot es.length=[nm,ot]->zEN k es.length=0->((2:Nat)=([D.lit (.string nm),D.lit (.string ot)]).length/\(2:Nat)=2)/\((2:Nat)=([D.lit (.string nm),D.lit (.string ot)]).length/\(2:Nat)=2)/\∀ a1 N1,N<=N1->Fresh N N1 a1 [D.ag [D.lit (.string nm),D.lit (.string ot)]]->∀ N2,N1<=N2->Q a1 [D.lit (.string nm),D.lit (.string ot)] 2 0 N2:=fun h1 h2=>
  ⟨⟨rfl,rfl⟩,⟨rfl,rfl⟩,fun a1 N1 hN1 hf N2 hN2=>Qbd (hQ a1 2 N2 (by omega) (by rw [h1];exact uE (l:=[nm,ot]) hf hN2)) (by rw [h1];rfl) h2⟩
 have nil:bdN k nm ot es.length=[]->zEN k es.length = -1->((0:Nat)=0/\(0:Nat)=0)/\((0:Nat)=0/\(0:Nat)=0)/\∀ a1 N1,N<=N1->Fresh N N1 a1 [D.ag []]->∀ N2,N1<=N2->Q a1 [] 0 (-1) N2:=fun h1 h2=>
  ⟨⟨rfl,rfl⟩,⟨rfl,rfl⟩,fun a1 N1 hN1 hf N2 hN2=>Qbd (hQ a1 0 N2 (by omega) (by rw [h1];exact uE (l:=[]) hf hN2)) (by rw [h1];rfl) h2⟩
 refine zC7 N _ Q fun _=>⟨_,rfl,Br.beq (fun h6=>⟨_,_,_,rfl,Br.beq (fun h1=>⟨_,rfl,?_⟩) fun h1=>?_⟩) fun h6=>?_⟩
 ·exact one _ _ (by unfold bdN;rw [if_pos ⟨h6,by omega⟩]) (by unfold zEN;rw [if_pos ⟨h6,by omega⟩])
 ·refine ⟨_,rfl,Br.beq (fun h8=>by omega) fun h8=>⟨_,rfl,Br.beq (fun h9=>by omega) fun h9=>?_⟩⟩
  exact nil (by unfold bdN;rw [if_neg (by omega),if_neg (by omega),if_neg (by omega)]) (by unfold zEN;rw [if_neg (by omega),if_neg (by omega),if_neg (by omega)])
 ·refine ⟨_,rfl,Br.beq (fun h8=>⟨_,_,_,rfl,Br.beq (fun h1=>⟨_,rfl,?_⟩) fun h1=>?_⟩) fun h8=>?_⟩
  ·exact one _ _ (by unfold bdN;rw [if_neg (by omega),if_pos ⟨h8,by omega⟩]) (by unfold zEN;rw [if_neg (by omega),if_pos ⟨h8,by omega⟩])
  ·refine ⟨_,rfl,Br.beq (fun h9=>by omega) fun h9=>?_⟩
   exact nil (by unfold bdN;rw [if_neg (by omega),if_neg (by omega),if_neg (by omega)]) (by unfold zEN;rw [if_neg (by omega),if_neg (by omega),if_neg (by omega)])
  ·refine ⟨_,rfl,Br.beq (fun h9=>⟨_,_,_,rfl,Br.beq (fun h1=>⟨_,rfl,_,rfl,?_⟩) fun h1=>?_⟩) fun h9=>?_⟩
   ·exact two (by unfold bdN;rw [if_neg (by omega),if_neg (by omega),if_pos ⟨h9,by omega⟩]) (by unfold zEN;rw [if_neg (by omega),if_neg (by omega),if_pos ⟨h9,by omega⟩])
   ·exact nil (by unfold bdN;rw [if_neg (by omega),if_neg (by omega),if_neg (by omega)]) (by unfold zEN;rw [if_neg (by omega),if_neg (by omega),if_neg (by omega)])
   ·exact nil (by unfold bdN;rw [if_neg (by omega),if_neg (by omega),if_neg (by omega)]) (by unfold zEN;rw [if_neg (by omega),if_neg (by omega),if_neg (by omega)])
mutual
/-- variables -/
def Tm.vc:Tm->Nat
 | .mk k _ _ _ _ _ l=>if k=1 then 1 else zFG l
def zFG:List Tm->Nat
 | []=>0
 | t::ts=>t.vc+zFG ts
end
mutual
theorem Tm.vc_cnt:∀ t:Tm,3*t.vc<=t.cnt
 | .mk k nm ot n ty re l=>by
   have:=Ty.cnt_pos ty
   have:=Ty.cnt_pos re
   have:=zGI l
   simp only [Tm.vc,Tm.cnt]
   split<;>omega
theorem zGI:∀ l:List Tm,3*zFG l<=zO l
 | []=>oF _
 | t::ts=>by
   have:=Tm.vc_cnt t
   have:=zGI ts
   simp only [zFG,zO];omega
end
mutual
theorem Tm.fv_len:∀ t:Tm,t.fv.length<=t.vc
 | .mk k nm ot n ty re l=>by
   simp only [Tm.fv,Tm.vc]
   split
   ·simp
   ·have:=zGy l (zEN k l.length) (bdN k nm ot l.length) 0 []
    simp at this;omega
theorem zGy:∀ (l:List Tm) (at_:Int) (ns:List ByteArray) (i:Nat) (out:List ByteArray),(zAg l at_ ns i out).length<=out.length+zFG l
 | [],_,_,_,out=>by simp [zAg]
 | x::xs,at_,ns,i,out=>by
   simp only [zAg,zFG]
   have h1:=zGy xs at_ ns (i+1) (zAG out (if (i:Int)=at_ then zBT ns x.fv else x.fv))
   have h2:=Tm.fv_len x
   have h3:(if (i:Int)=at_ then zBT ns x.fv else x.fv).length<=x.vc:=by
    split
    ·exact oW (mR _ _) h2
    ·exact h2
   have h4:(zAG out (if (i:Int)=at_ then zBT ns x.fv else x.fv)).length<=out.length+(if (i:Int)=at_ then zBT ns x.fv else x.fv).length:=by
    unfold zAG
    have a1:=zFm (dd [] out) (if (i:Int)=at_ then zBT ns x.fv else x.fv)
    have a2:=zFm [] out
    simp at a2;omega
   omega
end
theorem zKF (a b:List ByteArray):(zAG a b).length<=a.length+b.length:=by
 unfold zAG
 have a1:=zFm (dd [] a) b
 have a2:=zFm [] a
 simp at a2;omega
theorem zJ8 (ns l:List ByteArray) (s:ByteArray):(zBT ns l).filter (fun x=>decide (x≠s))=zBT (ns++[s]) l:=by
 unfold zBT
 rw [List.filter_filter]
 congr 1
 funext x
 rw [nj]
 simp
 exact And.comm
theorem zEd (l:List ByteArray):zBT [] l=l:=by simp [zBT]
theorem zCO:∀ (t:Tm) (d:D),t.Is d->t.vc<=2199023255552->zOc 21 [.dg 9 d] t.fv:=by
 refine Tm.ind fun k nm ot n0 ty re l ih d hd hG N Q hQ=>?_
 obtain ⟨t0,t1,r0,r1,a,es,c,rfl,hh,hlen,hes⟩:=Tm.is_mk.1 hd
 have hl:=hes.len
 simp only [Tm.vc] at hG
 refine zBP N _ Q fun _=>⟨_,rfl,Br.beq (fun h1=>⟨_,rfl,⟨rfl,rfl⟩,⟨rfl,rfl⟩,fun a1 N1 hN1 hf N2 hN2=>?_⟩) fun h1 N3 hN3=>zJU (n:=l.length) (by omega) N3 _ fun a3 c3 N4 hN4 _ _ _=>?_⟩
 ·have e:(Tm.mk k nm ot n0 ty re l).fv=[nm]:=by simp [Tm.fv,h1]
  rw [e] at hQ
  exact hQ _ _ _ (by omega) (uE (l:=[nm]) hf hN2)
 ·have e:(Tm.mk k nm ot n0 ty re l).fv=zAg l (zEN k l.length) (bdN k nm ot l.length) 0 []:=by simp [Tm.fv,h1]
  rw [e] at hQ
  rw [if_neg h1] at hG
  have hns:=zNH k nm ot l.length
  generalize bdN k nm ot l.length=ns at hQ hns ⊢
  generalize zEN k l.length=at_ at hQ ⊢
  generalize hy:(D.ag [.lit (.int .i64 k),.lit (.string nm),.lit (.string ot),.lit (.int .i64 n0),t0,t1,r0,r1,.sl a 9 es c])=y
  have hy8:y.cell 8=.sl a 9 es c:=by rw [<-hy];rfl
  have hnw:=z7 ns
  have inner:∀ (i:Nat) (x:Tm) (out:List ByteArray) (q N1:Nat),N<=N1->out.length<=2199023255552->x.fv.length<=2199023255552 ->
    (∀ c N'',N1<=N''->zg Q N a3 (zB ns) c3 at_ (zB (zAG out (if (i:Int)=at_ then zBT ns x.fv else x.fv))).length c (IntKind.i64.wrap (i+1)) y (zB (zAG out (if (i:Int)=at_ then zBT ns x.fv else x.fv))) c N'') ->
    ∀ a7 c7,Own N N1 (.sl a7 0 (zB x.fv) c7)->yJ Q N a3 (zB ns) c3 at_ (zB out).length q i a7 (zB x.fv) c7 0 y (zB out) q N1:=fun i x out q N1 hN1 ho hx hc a7 c7 h7=>by
   have fin:∀ (lw:List ByteArray) (a7:Option Addr) (c7 N':Nat),N1<=N'->lw=(if (i:Int)=at_ then zBT ns x.fv else x.fv) ->
     ((zB out).length=(zB out).length/\q=q)/\∀ a_1,ApA a_1 (zB out)->Off [a_1] (.sl a7 0 (zB lw) c7)->∀ N3,N'<=N3->vQ N3 [a_1]->ACalls prog 78 [.row 9 0] [.sv a_1 0 (zB out) q,.sv a7 0 (zB lw) c7] N3 (fun es_1 c_1 N4=>N3<=N4->Off [a_1] (D.ag es_1)/\(Bel N4 (D.ag es_1)->zg Q N a3 (zB ns) c3 at_ es_1.length c_1 (IntKind.i64.wrap (i+1)) y es_1 c_1 N4)):=fun lw a7 c7 N' hN' hlw=>⟨⟨rfl,rfl⟩,fun a9 _ _ N5 hN5 hbel=>by
    have h5:lw.length<=2199023255552:=by
     rw [hlw];split
     ·exact oW (mR _ _) hx
     ·exact hx
    refine pV out lw ho h5 a9 a7 q c7 N5 _ fun c8 N8 hN8 _=>⟨zJ5 _,fun _=>?_⟩
    subst hlw
    exact hc _ _ (by omega)⟩
   refine up (wb ns) (by omega) (fun j xs=>∀ (lw:List ByteArray) a7 c7 N',N1<=N'->lw=zBT (ns.take j) x.fv->((i:Int)≠at_->j=0)->yJ Q N a3 (zB ns) c3 at_ (zB out).length q i a7 (zB lw) c7 j y (zB out) q N') ?_ ?_ x.fv a7 c7 N1 (oF _) (by rw [mg,zEd]) (fun _=>rfl)
   ·intro j hlt hj lw a7 c7 N' hN' hlw hat
    refine vw _ _ _ _ _ _ _ _ _ _ _ _ _ _ _ _ _ ?_
    rw [hlt]
    refine fin lw a7 c7 N' hN' ?_
    rw [hlw,nU (by omega)]
    split
    ·rfl
    ·rename_i hne
     have:=hat hne
     have:ns=[]:=om (by omega)
     rw [this,zEd]
   ·intro j s xs hat _ ih2 lw a7 c7 N' hN' hlw hj
    have hb:=hat.b
    have hr:=hat.r
    refine vw _ _ _ _ _ _ _ _ _ _ _ _ _ _ _ _ _ ?_
    rw [hat.lt]
    refine Br.beq (fun he=>⟨⟨by omega,by omega⟩,s,?_,fun N2 hN2=>zEB lw ?_ a7 c7 s N2 _ fun a8 c8 N8 hN8 _ _ _=>?_⟩) fun hne=>fin lw a7 c7 N' hN' ?_
    ·rw [oM,hr]
    ·rw [hlw];exact oW (mR _ _) hx
    ·rw [hat.w]
     refine ih2 _ _ _ _ (by omega) ?_ (fun hc=>absurd he hc)
     rw [hlw,zJ8,rD hat.g]
    ·rw [if_neg hne,hlw,hj hne,mg,zEd]
  refine up hes hlen (fun i xs=>∀ (out:List ByteArray) (q N':Nat),N<=N'->out.length+zFG xs<=zFG l->zAg xs at_ ns i out=zAg l at_ ns 0 []->zg Q N a3 (zB ns) c3 at_ (zB out).length q i y (zB out) q N') ?_ ?_ [] 0 N4 (by omega) (by simp) rfl
  ·intro i hlt hi out q N' hN' _ he
   refine uD _ _ _ _ _ _ _ _ _ _ _ _ _ ⟨_,_,_,hy8,?_⟩
   rw [hlt]
   simp only [zAg] at he
   subst he
   exact ⟨⟨rfl,rfl⟩,⟨rfl,rfl⟩,⟨rfl,rfl⟩,fun a1 N5 hN5 hf N6 hN6=>hQ _ _ _ (by omega) (uE hf hN6)⟩
  ·intro i x xs hat _ ih2 out q N' hN' hle he
   have hb:=hat.b
   simp only [zFG] at hle
   have hxc:=Tm.fv_len x
   have hlx:=zKF out (if (i:Int)=at_ then zBT ns x.fv else x.fv)
   have hcx:(if (i:Int)=at_ then zBT ns x.fv else x.fv).length<=x.vc:=by
    split
    ·exact oW (mR _ _) hxc
    ·exact hxc
   refine uD _ _ _ _ _ _ _ _ _ _ _ _ _ ⟨_,_,_,hy8,?_⟩
   rw [hat.lt]
   refine ⟨_,_,_,hy8,⟨by omega,by omega⟩,fun N5 hN5=>?_⟩
   rw [oM]
   refine ih x hat.m _ hat.r (by omega) N5 _ fun a6 c6 N6 hN6 ho6 _ _=>inner i x out q N6 (by omega) (by omega) (by omega) (fun c N'' h1=>?_) a6 c6 (ho6.mono (by omega) (oF _))
   rw [hat.w]
   exact ih2 _ _ _ (by omega) (by omega) (by rw [<-he];rfl)
end Go.Proofs.YtkdjhkfiolhkiaaGreat
