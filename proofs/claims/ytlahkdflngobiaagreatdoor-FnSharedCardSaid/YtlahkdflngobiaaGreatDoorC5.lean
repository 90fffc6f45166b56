/- Sharing a part of a body: what it comes to (no program in sight). -/
import Derived.Test.YtlahkdflngobiaaGreatDoorC4
import Derived.Test.YtlahkdflngobiaaGreatDoorB6
import Derived.Test.YtlahkdflngobiaaGreatDoorB3
import Derived.Test.YtlahkdflngobiaaGreatDoorKd
import Derived.Test.YtlahkdflngobiaaGreatDoorD1
set_option linter.unusedVariables false
set_option linter.unusedSimpArgs false
namespace Go.Proofs.YtlahkdflngobiaaGreatDoor
open Go Go.Proofs Go.Proofs.Tryz Go.IntWalk
mutual
/-- the names of variables and of lets -/
def Tm.nms:Tm->List ByteArray
 | .mk k nm _ _ _ _ l=>qd l (if k=1\/k=8 then [nm] else [])
def qd:List Tm->List ByteArray->List ByteArray
 | [],out=>out
 | t::I,out=>qd I (si out t.nms)
end
mutual
/-- the program's: places of a part become a variable -/
def shd (ps:List ByteArray) (p:Tm) (w:ByteArray):List ByteArray->Tm->Tm
 | ar,.mk k nm ot n ty re l=>if (zDm ps ar (.mk k nm ot n ty re l)&&u3 (.mk k nm ot n ty re l) p)=true then zUg w else .mk k nm ot n ty re (zFO ps p w ar k nm 0 l)
def zFO (ps:List ByteArray) (p:Tm) (w:ByteArray):List ByteArray->Int->ByteArray->Nat->List Tm->List Tm
 | _,_,_,_,[]=>[]
 | ar,k,nm,i,x::xs=>shd ps p w (qE ar k nm i) x::zFO ps p w ar k nm (i+1) xs
end
/-- no free name is bound around -/
def zQw (ar:List ByteArray) (t:Tm):Bool:=t.fv.all λs=>!decide (s∈ar)
mutual
/-- the reference's -/
def zQs (p:Tm) (w:ByteArray):List ByteArray->Tm->Tm
 | ar,.mk k nm ot n ty re l=>if (u3 (.mk k nm ot n ty re l) p&&zQw ar (.mk k nm ot n ty re l))=true then zUg w else .mk k nm ot n ty re (pK p w ar k nm 0 l)
def pK (p:Tm) (w:ByteArray):List ByteArray->Int->ByteArray->Nat->List Tm->List Tm
 | _,_,_,_,[]=>[]
 | ar,k,nm,i,x::xs=>zQs p w (qE ar k nm i) x::pK p w ar k nm (i+1) xs
end
theorem zO5 {ps ar I:List ByteArray} {p:Tm} (h:zDm ps I p=true):zDm ps ar p=zQw ar p:=by
 cases p with
 | mk k nm ot n ty re l=>
 simp only [zDm,oL] at h
 obtain ⟨J,O,h3⟩:=h
 simp only [zDm]
 rw [J,O,mX,mX]
 unfold zQw
 rw [nP,oT,oT]
 constructor
 ·intro h s hs
  exact (mC.1 (h s hs)).2
 ·intro h s hs
  exact mC.2 ⟨(mC.1 (oT.1 h3 s hs)).1,h s hs⟩
mutual
theorem zMB {ps I:List ByteArray} {p:Tm} {w:ByteArray} (J:zDm ps I p=true):∀ (t:Tm) (ar:List ByteArray),shd ps p w ar t=zQs p w ar t
 | .mk k nm ot n ty re l,ar=>by
   simp only [shd,zQs]
   have e:(zDm ps ar (.mk k nm ot n ty re l)&&u3 (.mk k nm ot n ty re l) p)=(u3 (.mk k nm ot n ty re l) p&&zQw ar (.mk k nm ot n ty re l)):=by
    cases O:u3 (.mk k nm ot n ty re l) p with
    | false=>simp
    | true=>
      have:=(tJ _ _).1 O
      rw [this,zO5 J];simp
   rw [e,zNB J l ar k nm 0]
theorem zNB {ps I:List ByteArray} {p:Tm} {w:ByteArray} (J:zDm ps I p=true):∀ (l:List Tm) (ar:List ByteArray) (k:Int) (nm:ByteArray) (i:Nat),zFO ps p w ar k nm i l=pK p w ar k nm i l
 | [],_,_,_,_=>by simp only [zFO,pK]
 | x::xs,ar,k,nm,i=>by simp only [zFO,pK];rw [zMB J x (qE ar k nm i),zNB J xs ar k nm (i+1)]
end
theorem zOM {ar br:List ByteArray} (h:∀ s,s∈ar↔s∈br) (t:Tm):zQw ar t=zQw br t:=by
 unfold zQw
 have:(λs=>!decide (s∈ar))=λs=>!decide (s∈br):=funext λs=>by simp [h s]
 rw [this]
mutual
theorem zHf {p:Tm} {w:ByteArray}:∀ (t:Tm) {ar br:List ByteArray},(∀ s,s∈ar↔s∈br)->zQs p w ar t=zQs p w br t
 | .mk k nm ot n ty re l,ar,br,h=>by simp only [zQs];rw [zOM h,zGA l k nm 0 h]
theorem zGA {p:Tm} {w:ByteArray}:∀ (l:List Tm) (k:Int) (nm:ByteArray) (i:Nat) {ar br:List ByteArray},(∀ s,s∈ar↔s∈br)->pK p w ar k nm i l=pK p w br k nm i l
 | [],_,_,_,_,_,_=>by simp only [pK]
 | x::xs,k,nm,i,ar,br,h=>by simp only [pK];rw [zHf x (zNf h k nm i),zGA xs k nm (i+1) h]
end
mutual
/-- operations and choices -/
def Tm.ops:Tm->Nat
 | .mk k _ _ _ _ _ l=>(if k=4\/k=5 then 1 else 0)+zH8 l
def zH8:List Tm->Nat
 | []=>0
 | t::I=>t.ops+zH8 I
end
mutual
def zOv (ps:List ByteArray) (p:Tm):List ByteArray->Tm->Nat
 | ar,.mk k nm ot n ty re l=>if (zDm ps ar (.mk k nm ot n ty re l)&&u3 (.mk k nm ot n ty re l) p)=true then 1 else zHJ ps p ar k nm 0 l
def zHJ (ps:List ByteArray) (p:Tm):List ByteArray->Int->ByteArray->Nat->List Tm->Nat
 | _,_,_,_,[]=>0
 | ar,k,nm,i,x::xs=>zOv ps p (qE ar k nm i) x+zHJ ps p ar k nm (i+1) xs
end
mutual
theorem zQp {ps:List ByteArray} {p:Tm} {w:ByteArray}:∀ (t:Tm) (ar:List ByteArray),(shd ps p w ar t).ops+zOv ps p ar t*p.ops=t.ops/\(shd ps p w ar t).sz+zOv ps p ar t*p.sz=t.sz+zOv ps p ar t
 | .mk k nm ot n ty re l,ar=>by
   simp only [shd,zOv]
   split
   ·rename_i h
    have e:=(tJ _ _).1 (mC.1 h).2
    rw [<-e]
    constructor
    ·show 0+0+1*_=_;omega
    ·show 1+0+1*_=_;omega
   ·obtain ⟨I,J⟩:=zNs (ps:=ps) (p:=p) (w:=w) l ar k nm 0
    constructor
    ·simp only [Tm.ops];omega
    ·simp only [Tm.sz];omega
theorem zNs {ps:List ByteArray} {p:Tm} {w:ByteArray}:∀ (l:List Tm) (ar:List ByteArray) (k:Int) (nm:ByteArray) (i:Nat),zH8 (zFO ps p w ar k nm i l)+zHJ ps p ar k nm i l*p.ops=zH8 l/\ui (zFO ps p w ar k nm i l)+zHJ ps p ar k nm i l*p.sz=ui l+zHJ ps p ar k nm i l
 | [],ar,k,nm,i=>by simp [zFO,zHJ,zH8,ui]
 | x::xs,ar,k,nm,i=>by
   obtain ⟨I,J⟩:=zQp (ps:=ps) (p:=p) (w:=w) x (qE ar k nm i)
   obtain ⟨O,h4⟩:=zNs (ps:=ps) (p:=p) (w:=w) xs ar k nm (i+1)
   simp only [zFO,zHJ,zH8,ui,nN]
   constructor<;>omega
end
def rL (p:Tm) (l:List Tm):Nat:=(l.filter λx=>u3 x p).length
theorem zB1 (p:Tm) (a b:List Tm):rL p (a++b)=rL p a+rL p b:=by simp [rL]
mutual
theorem zTb {ps:List ByteArray}:∀ (t:Tm) (ar:List ByteArray),∀ x∈qf ps ar t,x.sz<=t.sz
 | .mk k nm ot n ty re l,ar,x,hx=>by
   simp only [qf,oG] at hx
   rcases hx with hx | hx
   ·split at hx
    ·simp only [oR] at hx;rw [hx];exact oB _
    ·cases hx
   ·have:=zIK l ar k nm 0 x hx
    simp only [Tm.sz];omega
theorem zIK {ps:List ByteArray}:∀ (l:List Tm) (ar:List ByteArray) (k:Int) (nm:ByteArray) (i:Nat),∀ x∈vJ ps ar k nm i l,x.sz<=ui l
 | [],_,_,_,_,x,hx=>by simp [vJ] at hx
 | y::ys,ar,k,nm,i,x,hx=>by
   simp only [vJ,oG] at hx
   simp only [ui]
   rcases hx with hx | hx
   ·have:=zTb y (qE ar k nm i) x hx;omega
   ·have:=zIK ys ar k nm (i+1) x hx;omega
end
mutual
theorem zM6 {ps:List ByteArray} {p:Tm}:∀ (t:Tm) (ar:List ByteArray),zOv ps p ar t=rL p (qf ps ar t)
 | .mk k nm ot n ty re l,ar=>by
   simp only [zOv,qf,zB1]
   rw [zKZ l ar k nm 0]
   cases O:zDm ps ar (.mk k nm ot n ty re l) with
   | false=>simp [rL]
   | true=>
     cases I:u3 (.mk k nm ot n ty re l) p with
     | false=>simp [rL,I]
     | true=>
       have e:=(tJ _ _).1 I
       have h0:rL p (vJ ps ar k nm 0 l)=0:=by
        unfold rL
        rw [lB,List.filter_eq_nil_iff]
        intro x hx hc
        have J:=zIK l ar k nm 0 x hx
        have h2:=(tJ _ _).1 hc
        rw [h2,<-e] at J
        simp only [Tm.sz] at J
        omega
       rw [h0]
       simp [rL,I]
theorem zKZ {ps:List ByteArray} {p:Tm}:∀ (l:List Tm) (ar:List ByteArray) (k:Int) (nm:ByteArray) (i:Nat),zHJ ps p ar k nm i l=rL p (vJ ps ar k nm i l)
 | [],_,_,_,_=>by simp [zHJ,vJ,rL]
 | x::xs,ar,k,nm,i=>by simp only [zHJ,vJ,zB1];rw [zM6 x (qE ar k nm i),zKZ xs ar k nm (i+1)]
end
theorem zC5 {u:Tm}:∀ (xs seen:List Tm),u∈vO seen xs->2<=rL u xs
 | [],_,h=>by simp [vO] at h
 | x :: xs,seen,h=>by
   simp only [vO] at h
   split at h
   ·rename_i hc
    rcases oH.1 h with rfl | h
    ·obtain ⟨y,I,J⟩:=mc.1 hc.2
     have O:y∈xs.filter λz=>u3 z u:=nx.2 ⟨I,by rw [zLD];exact J⟩
     have:=List.length_pos_of_mem O
     unfold rL
     rw [List.filter_cons_of_pos (p:=λx=>u3 x u) (pL u),oJ]
     omega
    ·have:=zC5 xs _ h
     have h2:rL u (x::xs)=rL u [x]+rL u xs:=zB1 u [x] xs
     omega
   ·have:=zC5 xs _ h
    have h2:rL u (x::xs)=rL u [x]+rL u xs:=zB1 u [x] xs
    omega
mutual
theorem zPO {ps:List ByteArray}:∀ (t:Tm) (ar:List ByteArray),∀ x∈qf ps ar t,∃ br,zDm ps br x=true
 | .mk k nm ot n ty re l,ar,x,hx=>by
   simp only [qf,oG] at hx
   rcases hx with hx | hx
   ·split at hx
    ·rename_i h;simp only [oR] at hx;rw [hx];exact ⟨ar,h⟩
    ·cases hx
   ·exact zM7 l ar k nm 0 x hx
theorem zM7 {ps:List ByteArray}:∀ (l:List Tm) (ar:List ByteArray) (k:Int) (nm:ByteArray) (i:Nat),∀ x∈vJ ps ar k nm i l,∃ br,zDm ps br x=true
 | [],_,_,_,_,x,hx=>by simp [vJ] at hx
 | y::ys,ar,k,nm,i,x,hx=>by
   simp only [vJ,oG] at hx
   rcases hx with hx | hx
   ·exact zPO y (qE ar k nm i) x hx
   ·exact zM7 ys ar k nm (i+1) x hx
end
/-- the shared body -/
def zSo (ps:List ByteArray) (c:Tm) (w:ByteArray) (e:Tm):Tm:=.mk 8 w (bytes []) 0 (.mk 0 []) (.mk 0 []) [c,shd ps c w [] e]
theorem zND {ps:List ByteArray} {c e:Tm} {w:ByteArray} (hc:c∈zDC (qf ps [] e)):(zSo ps c w e).ops<e.ops/\(zSo ps c w e).sz<=e.sz/\∃ br,zDm ps br c=true:=by
 have O:c∈vO [] (qf ps [] e):=(tu (key:=Tm.sz) (vO [] (qf ps [] e)) []).mem_iff.1 hc
 have J:=zC5 _ _ O
 rw [<-zM6] at J
 obtain ⟨br,I⟩:=zPO e [] c (pH hc)
 obtain ⟨h3,h4⟩:=zQp (ps:=ps) (p:=c) (w:=w) e []
 have h5:1<=c.ops/\3<=c.sz:=by
  cases c with
  | mk k nm ot n ty re l=>
  simp only [zDm,oL,nk,nD] at I
  refine ⟨?_,I.2.1⟩
  simp only [Tm.ops];rw [if_pos I.1];omega
 have h6:2*c.ops<=zOv ps c [] e*c.ops:=o0 _ J
 have h7:zOv ps c [] e+c.sz+1<=zOv ps c [] e*c.sz:=by
  obtain ⟨m,hm⟩:∃ m,zOv ps c [] e=m+2:=⟨zOv ps c [] e - 2,by omega⟩
  obtain ⟨s,hs⟩:∃ s,c.sz=s+3:=⟨c.sz - 3,by omega⟩
  rw [hm,hs]
  simp only [nN,Nat.mul_add]
  have:0<=m*s:=Nat.zero_le _
  omega
 refine ⟨?_,?_,br,I⟩
 ·show 0+(c.ops+((shd ps c w [] e).ops+0))<_
  omega
 ·show 1+(c.sz+((shd ps c w [] e).sz+0))<=_
  omega
def um (g:List Pm) (t:Tm):List Tm:=if (yk g t).isSome then zDC (qf (zk g) [] t) else []
/-- shared once, if it can be -/
def xX (g:List Pm) (t:Tm):Option Tm:=match um g t with
 | []=>none
 | c::_=>some (zSo (zk g) c (fresh (zk g++t.nms)) t)
def r5 (g:List Pm):Nat->Tm->Tm
 | 0,t=>t
 | n+1,t=>match xX g t with
   | none=>t
   | some u=>r5 g n u
theorem zKv {g:List Pm} {t:Tm} (h:(yk g t).isSome=true):zB2 g=true/\t.sz<=80/\t.dp<=20/\t.ok=true/\t.isB=true:=by
 unfold yk at h
 split at h
 ·rename_i hc
  obtain ⟨J,I,O⟩:=hc
  simp only [Tm.vd,oL,nD] at I
  exact ⟨J,I.1.1,I.1.2,I.2,O⟩
 ·cases h
theorem tS {g:List Pm} {t c:Tm} (h:c∈um g t):(yk g t).isSome=true/\c∈zDC (qf (zk g) [] t):=by
 unfold um at h
 split at h
 ·rename_i hc;exact ⟨hc,h⟩
 ·cases h
theorem zFI {g:List Pm} {t u:Tm} (h:xX g t=some u):∃ c,c∈um g t/\u=zSo (zk g) c (fresh (zk g++t.nms)) t:=by
 unfold xX at h
 split at h
 ·cases h
 ·rename_i c l hc
  cases h
  exact ⟨c,by rw [hc];simp,rfl⟩
theorem tO {g:List Pm} {t u:Tm} (h:xX g t=some u):u.ops<t.ops/\u.sz<=t.sz:=by
 obtain ⟨c,hc,rfl⟩:=zFI h
 obtain ⟨_,I⟩:=tS hc
 obtain ⟨J,O,_⟩:=zND (w:=fresh (zk g++t.nms)) I
 exact ⟨J,O⟩
theorem zDP {g:List Pm} {n:Nat} {t u:Tm} (h:xX g t=some u) (I:t.ops<=n+1):r5 g (n+1) t=r5 g n u:=by
 simp only [r5,h]
theorem tQ {g:List Pm} {n:Nat} {t:Tm} (h:xX g t=none):r5 g n t=t:=by
 cases n with
 | zero=>rfl
 | succ n=>simp only [r5,h]
theorem zV6:∀ t:Tm,3<=t.cnt
 | .mk _ _ _ _ ty re l=>by
   cases ty with
   | mk k l1=>
   cases re with
   | mk I l2=>
   simp only [Tm.cnt,Ty.cnt];omega
theorem zRq (w:ByteArray):(zUg w).cnt=3:=by simp [zUg,Tm.cnt,Ty.cnt,zV,za]
mutual
theorem zMF {ps:List ByteArray} {p:Tm} {w:ByteArray}:∀ (t:Tm) (ar:List ByteArray),(shd ps p w ar t).cnt<=t.cnt
 | .mk k nm ot n ty re l,ar=>by
   simp only [shd]
   split
   ·rw [zRq];exact zV6 _
   ·simp only [Tm.cnt]
    have:=zNR (ps:=ps) (p:=p) (w:=w) l ar k nm 0
    omega
theorem zNR {ps:List ByteArray} {p:Tm} {w:ByteArray}:∀ (l:List Tm) (ar:List ByteArray) (k:Int) (nm:ByteArray) (i:Nat),za (zFO ps p w ar k nm i l)<=za l
 | [],_,_,_,_=>by simp [zFO]
 | x::xs,ar,k,nm,i=>by
   simp only [zFO,za]
   have I:=zMF (ps:=ps) (p:=p) (w:=w) x (qE ar k nm i)
   have J:=zNR (ps:=ps) (p:=p) (w:=w) xs ar k nm (i+1)
   omega
end
theorem zR6 {ps:List ByteArray} {c t:Tm} {w:ByteArray}:(zSo ps c w t).cnt<=3+c.cnt+t.cnt:=by
 have h:=zMF (ps:=ps) (p:=c) (w:=w) t []
 simp only [zSo,Tm.cnt,Ty.cnt,zV,za];omega
mutual
theorem zDA:∀ t:Tm,t.nms.length<=t.cnt
 | .mk k nm _ _ ty re l=>by
   have:=zHZ l (if k=1\/k=8 then [nm] else [])
   simp only [Tm.nms,Tm.cnt]
   have I:(if k=1\/k=8 then [nm] else []).length<=1:=by split<;>simp
   omega
theorem zHZ:∀ (l:List Tm) (out:List ByteArray),(qd l out).length<=out.length+za l
 | [],out=>by simp [qd,za]
 | t::J,out=>by
   have O:=zHZ J (si out t.nms)
   have I:=uq out t.nms
   have h3:=zDA t
   simp only [qd,za]
   omega
end
theorem zBB:∀ (t:Tm) (d:D),t.Is d->t.cnt<=1073741824->zQg 28 [.dg 9 d] t.nms:=by
 refine Tm.ind λk nm ot n0 ty re l ih d hd hc N Q hQ=>?_
 obtain ⟨t0,t1,r0,r1,a,es,c,rfl,hh,hlen,J⟩:=Tm.is_mk.1 hd
 have hl:=J.len
 simp only [Tm.cnt] at hc
 have key:=up J hlen (λi xs=>∀ (out:List ByteArray) (q N':Nat),N<=N'->out.length+za xs<=1+za l->qd xs out=(Tm.mk k nm ot n0 ty re l).nms ->
  yq Q N (zA out).length q i (.ag [.j k,.t nm,.t ot,.j n0,t0,t1,r0,r1,.sl a 9 es c]) (zA out) q N') ?_ ?_
 ·refine zGu N _ Q λ_=>⟨k,rfl,Br.beq (λh1=>⟨nm,rfl,⟨rfl,rfl⟩,by unfold zB;simp,λc1=>?_⟩) λh1=>⟨k,rfl,Br.beq (λh8=>⟨nm,rfl,⟨rfl,rfl⟩,by unfold zB;simp,λc1=>?_⟩) λh8=>?_⟩⟩
  ·exact key [nm] c1 N (oB _) (by simp) (by simp only [Tm.nms];rw [if_pos (.inl h1)])
  ·exact key [nm] c1 N (oB _) (by simp) (by simp only [Tm.nms];rw [if_pos (.inr h8)])
  ·exact key [] 0 N (oB _) (by simp) (by simp only [Tm.nms];rw [if_neg (by omega)])
 ·intro i aa hi out q N' ab _ O
  refine qA _ _ _ _ _ _ _ _ _ ⟨_,_,_,rfl,?_⟩
  rw [aa]
  simp only [qd] at O
  subst O
  exact ⟨⟨rfl,rfl⟩,⟨rfl,rfl⟩,⟨rfl,rfl⟩,λa1 N5 ai hf N6 ac=>hQ _ _ _ (by omega) (wP hf ac)⟩
 ·intro i x xs I _ ae out q N' ab ah O
  have hb:=I.b
  have aj:=zu I.m
  have ak:=zDA x
  have al:=uq out x.nms
  simp only [za] at ah
  refine qA _ _ _ _ _ _ _ _ _ ⟨_,_,_,rfl,?_⟩
  rw [I.lt]
  refine ⟨_,_,_,rfl,⟨by omega,by omega⟩,λN1 am=>?_⟩
  rw [oK,I.w]
  refine ih x I.m _ I.r (by omega) N1 _ λa2 c2 N2 ao aq _ _=>⟨⟨rfl,rfl⟩,λa3 _ _ N3 au _=>?_⟩
  refine we out x.nms (by omega) (by omega) a3 a2 q c2 N3 _ λc4 N4 aw _=>⟨rT _,λ_=>?_⟩
  exact ae _ _ _ (by omega) (by omega) (by rw [<-O];rfl)
theorem zAv:∀ (t:Tm) (d:D),t.Is d->t.cnt<=1073741824->zQg 27 [.dg 9 d] t.nms:=by
 refine Tm.ind λk nm ot n0 ty re l ih d hd hc N Q hQ=>?_
 obtain ⟨t0,t1,r0,r1,a,es,c,rfl,hh,hlen,J⟩:=Tm.is_mk.1 hd
 have hl:=J.len
 simp only [Tm.cnt] at hc
 have key:=up J hlen (λi xs=>∀ (out:List ByteArray) (q N':Nat),N<=N'->out.length+za xs<=1+za l->qd xs out=(Tm.mk k nm ot n0 ty re l).nms ->
  yp Q N (zA out).length q a es c (es.length:Int) i (zA out) q N') ?_ ?_
 ·refine zGl N _ Q λ_=>⟨k,rfl,Br.beq (λh1=>⟨nm,rfl,⟨rfl,rfl⟩,by unfold zB;simp,λc1=>⟨_,_,_,rfl,?_⟩⟩) λh1=>⟨k,rfl,Br.beq (λh8=>⟨nm,rfl,⟨rfl,rfl⟩,by unfold zB;simp,λc1=>⟨_,_,_,rfl,?_⟩⟩) λh8=>⟨_,_,_,rfl,?_⟩⟩⟩
  ·exact key [nm] c1 N (oB _) (by simp) (by simp only [Tm.nms];rw [if_pos (.inl h1)])
  ·exact key [nm] c1 N (oB _) (by simp) (by simp only [Tm.nms];rw [if_pos (.inr h8)])
  ·exact key [] 0 N (oB _) (by simp) (by simp only [Tm.nms];rw [if_neg (by omega)])
 ·intro i aa hi out q N' ab _ O
  refine qb _ _ _ _ _ _ _ _ _ _ _ _ ?_
  rw [aa]
  simp only [qd] at O
  subst O
  exact ⟨⟨rfl,rfl⟩,⟨rfl,rfl⟩,⟨rfl,rfl⟩,λa1 N5 ai hf N6 ac=>hQ _ _ _ (by omega) (wP hf ac)⟩
 ·intro i x xs I _ ae out q N' ab ah O
  have hb:=I.b
  have aj:=zu I.m
  have ak:=zDA x
  have al:=uq out x.nms
  simp only [za] at ah
  refine qb _ _ _ _ _ _ _ _ _ _ _ _ ?_
  rw [I.lt]
  refine ⟨⟨by omega,by omega⟩,λN1 am=>?_⟩
  rw [oK,I.w]
  refine ih x I.m _ I.r (by omega) N1 _ λa2 c2 N2 ao aq _ _=>⟨⟨rfl,rfl⟩,λa3 _ _ N3 au _=>?_⟩
  refine uO out x.nms (by omega) (by omega) a3 a2 q c2 N3 _ λc4 N4 aw _=>⟨rT _,λ_=>?_⟩
  exact ae _ _ _ (by omega) (by omega) (by rw [<-O];rfl)
theorem zHj:∀ {l:List D} {j:Nat} {x:D} {b:Nat},b∈zC (l.set j x)->b∈zC l\/b∈x.foot
 | [],j,x,b,h=>by simp [zC] at h
 | a::l,0,x,b,h=>by
   simp only [lA,zC,oG] at h ⊢
   rcases h with h | h
   ·exact .inr h
   ·exact .inl (.inr h)
 | a::l,j+1,x,b,h=>by
   simp only [List.set_cons_succ,zC,oG] at h ⊢
   rcases h with h | h
   ·exact .inl (.inl h)
   ·rcases zHj h with h | h
    ·exact .inl (.inr h)
    ·exact .inr h
theorem zLY {N N1 N2 N3:Nat} {x:D} (I:Own N2 N3 x) (h1:N<=N2) (h2:N1<=N2) (h3:N2<=N3):∀ {l:List D} {j:Nat},OwnL N N1 l->OwnL N N3 (l.set j x)
 | [],j,h=>by simp only [List.set_nil];exact h.mono (oB _) (by omega)
 | a::l,0,h=>by
   have J:=h.nd
   simp only [zC,oq] at J
   simp only [lA]
   refine ⟨?_,⟨I.fl,h.fl.2⟩,λb hb=>?_,λb hb=>?_⟩
   ·simp only [zC,oq]
    refine ⟨I.nd,J.2.1,λu hu v hv O=>?_⟩
    have:=I.lo u hu
    have:=h.hi v (by simp only [zC,oG];exact .inr hv)
    omega
   ·simp only [zC,oG] at hb
    rcases hb with hb | hb
    ·have:=I.lo b hb;omega
    ·exact h.lo b (by simp only [zC,oG];exact .inr hb)
   ·simp only [zC,oG] at hb
    rcases hb with hb | hb
    ·exact I.hi b hb
    ·have:=h.hi b (by simp only [zC,oG];exact .inr hb);omega
 | a :: l,j+1,h=>by
   have J:=h.nd
   simp only [zC,oq] at J
   have hl:OwnL N N1 l:=⟨J.2.1,h.fl.2,λb hb=>h.lo b (by simp only [zC,oG];exact .inr hb),λb hb=>h.hi b (by simp only [zC,oG];exact .inr hb)⟩
   have ih:=zLY I h1 h2 h3 (l:=l) (j:=j) hl
   simp only [List.set_cons_succ]
   refine ⟨?_,⟨h.fl.1,ih.fl⟩,λb hb=>?_,λb hb=>?_⟩
   ·simp only [zC,oq]
    refine ⟨J.1,ih.nd,λu hu v hv O=>?_⟩
    rcases zHj hv with hv | hv
    ·exact J.2.2 u hu v hv O
    ·have:=I.lo v hv
     have:=h.hi u (by simp only [zC,oG];exact .inl hu)
     omega
   ·simp only [zC,oG] at hb
    rcases hb with hb | hb
    ·exact h.lo b (by simp only [zC,oG];exact .inl hb)
    ·exact ih.lo b hb
   ·simp only [zC,oG] at hb
    rcases hb with hb | hb
    ·have:=h.hi b (by simp only [zC,oG];exact .inl hb);omega
    ·exact ih.hi b hb
theorem zBP:∀ {u v:List D},xp (u++v)->xp u/\xp v
 | [],v,h=>⟨trivial,h⟩
 | x::u,v,h=>⟨⟨h.1,(zBP h.2).1⟩,(zBP h.2).2⟩
theorem zPt {N0 N1 N3:Nat} {hd es ds:List D} {a:Option Addr} {z c:Nat} (h:OwnL N0 N1 (hd++es)) (J:Fresh N0 N3 a (.ag es::(hd++ds))) (hN:N1<=N3):OwnL N0 N3 (hd++[.sl a z es c]):=by
 obtain ⟨aa,ab⟩:=zBP h.fl
 have hn:=h.nd
 rw [zE,oq] at hn
 have e:zC (hd++[D.sl a z es c])=zC hd++(D.sl a z es c).foot:=by simp only [zE,zC,o6]
 have hE:∀ ad,a=some ad->ad.block∉zC es:=λad h=>J.ap ad h (.ag es) (by simp)
 have hH:∀ ad,a=some ad->ad.block∉zC hd:=λad h hc=>by
  obtain ⟨d,ac,hb⟩:=zH.1 hc
  exact J.ap ad h d (by simp [ac]) hb
 refine ⟨?_,xc aa ⟨⟨λad h=>J.off ad h,ab⟩,trivial⟩,λb hb=>?_,λb hb=>?_⟩
 ·rw [e,oq]
  refine ⟨hn.1,zMv hn.2.1 hE,λx hx y hy ae=>?_⟩
  subst ae
  rcases vH x hy with I | ⟨ad,I,O⟩
  ·exact hn.2.2 x hx x I rfl
  ·subst O;exact hH ad I hx
 ·rw [e] at hb
  rcases oG.1 hb with hb | hb
  ·exact h.lo b (by rw [zE];exact oY _ hb)
  ·rcases vH b hb with I | ⟨ad,I,O⟩
   ·exact h.lo b (by rw [zE];exact ow _ I)
   ·subst O;exact J.lo ad I
 ·rw [e] at hb
  rcases oG.1 hb with hb | hb
  ·have:=h.hi b (by rw [zE];exact oY _ hb);omega
  ·rcases vH b hb with I | ⟨ad,I,O⟩
   ·have:=h.hi b (by rw [zE];exact ow _ I);omega
   ·subst O;exact J.hi ad I
theorem zCT {N N1 N2:Nat} {v0 v1 v2 v3:Value} {I J O x7:D} {es:List D} {a:Option Addr} {c:Nat} (h:OwnL N N1 ([I,J,O,x7]++es)) (hf:Fresh N N2 a [.ag es,I,J,O,x7]) (hN:N1<=N2):Own N N2 (.ag [.lit v0,.lit v1,.lit v2,.lit v3,I,J,O,x7,.sl a 9 es c]):=
 zA5 (ze (ze (ze (ze (zPt (hd:=[I,J,O,x7]) (ds:=[]) h hf hN)))))
theorem zKM {α:Type} {R:α->D->Prop}:∀ {l:List α} {es:List D} {t:α} {d:D} {j:Nat},All2 R l es->R t d->All2 R (l.set j t) (es.set j d)
 | [],es,t,d,j,h,_=>by cases h;exact rfl
 | x::l,es,t,d,0,h,I=>by
   obtain ⟨y,ys,rfl,O,J⟩:=h
   exact ⟨_,_,rfl,I,J⟩
 | x::l,es,t,d,j+1,h,I=>by
   obtain ⟨y,ys,rfl,O,J⟩:=h
   exact ⟨_,_,rfl,O,zKM J I⟩
theorem zR5 {α:Type} {T l:List α} {i:Nat} {t:α} (hT:T.length=l.length) (hi:i<l.length) (I:T[i]?=some t):(T.take i++l.drop i).set i t=T.take (i+1)++l.drop (i+1):=by
 have J:(T.take i).length=i:=by rw [o8];omega
 rw [lH _ _ (by omega),J,Nat.sub_self,mG hi,lA,xK I,nG]
 rfl
theorem zNA {s:ByteArray} (hs:s.size<=4611686018427387904):(zUg s).Is (.ag [.j 1,.t s,.t (bytes []),.j 0,.j 0,.sl none 2 [] 0,.j 0,.sl none 2 [] 0,.sl none 9 [] 0]):=
 Tm.is_mk.2 ⟨_,_,_,_,_,_,_,rfl,⟨hs,by decide,wD 0,wD 0⟩,by simp,rfl⟩
theorem zK2 {N N':Nat} {v0 v1 v2 v3 v4 v6:Value}:Own N N' (.ag [.lit v0,.lit v1,.lit v2,.lit v3,.lit v4,.sl none 2 [] 0,.lit v6,.sl none 2 [] 0,.sl none 9 [] 0]):=
 zA5 (ze (ze (ze (ze (ze (zDI (ze (zDI ⟨by simp [zC,D.foot],⟨⟨by simp,trivial⟩,trivial⟩,by simp [zC,D.foot],by simp [zC,D.foot]⟩))))))))
/-- a term of one's own, handed back -/
def zSA (f:FuncId) (args:List PV) (t:Tm):Prop:=∀ (N:Nat) (Q:QT [.ag 9]),(∀ d N',N<=N'->t.Is d->Own N N' d->Q d N')->ACalls prog f [.ag 9] args N Q
theorem zRa {p:Tm} {dp:D} (hp:p.Is dp) {w:ByteArray} (hw:w.size<=4611686018427387904) {ps:List ByteArray} (bc:ps.length<=2199023255552):∀ (t:Tm) (d:D),t.Is d->t.cnt<=1073741824->∀ (ar:List ByteArray),ar.length+t.cnt<=2199023255552->∀ (a J:Option Addr) (c O:Nat),
  zSA 47 [.sv a 0 (zA ps) c,.sv J 0 (zA ar) O,.dg 9 d,.dg 9 dp,.str w] (shd ps p w ar t):=by
 refine Tm.ind λk nm ot n0 ty re l ih d hd hc ar ha a J c O N Q hQ=>?_
 have ac:=hd
 have ak:=hc
 obtain ⟨t0,t1,r0,r1,a9,es,c9,rfl,hh,hlen,ae⟩:=Tm.is_mk.1 hd
 have hl:=ae.len
 have bd:=y6 l
 simp only [Tm.cnt] at hc ha
 simp only [shd] at hQ
 have key:(zDm ps ar (.mk k nm ot n0 ty re l)&&u3 (.mk k nm ot n0 ty re l) p)=false->∀ N',N<=N' ->
   xJ Q N a (zA ps) c J (zA ar) O w 0 0 a9 es c9 (es.length:Int) 0 (.ag [.j k,.t nm,.t ot,.j n0,t0,t1,r0,r1,.sl a9 9 es c9]) dp 0 (bytes []) (bytes []) 0 0 none [] 0 0 none [] 0 none [] 0 [] 0 N':=by
  intro hn N0 al
  rw [hn] at hQ
  have hQ:∀ d N',N<=N'->(Tm.mk k nm ot n0 ty re (zFO ps p w ar k nm 0 l)).Is d->Own N N' d->Q d N':=hQ
  refine up ae hlen (λi xs=>∀ (done:List D) (pre:List Tm) (q N':Nat),N<=N'->All2 Tm.Is pre done->OwnL N N' done->pre++zFO ps p w ar k nm i xs=zFO ps p w ar k nm 0 l->done.length=i ->
   xJ Q N a (zA ps) c J (zA ar) O w done.length q a9 es c9 (es.length:Int) i (.ag [.j k,.t nm,.t ot,.j n0,t0,t1,r0,r1,.sl a9 9 es c9]) dp 0 (bytes []) (bytes []) 0 0 none [] 0 0 none [] 0 none [] 0 done q N') ?_ ?_ [] [] 0 N0 al rfl zBw rfl rfl
  ·intro i am hi done pre q N' ao aa ho he ah
   refine pp _ _ _ _ _ _ _ _ _ _ _ _ _ _ _ _ _ _ _ _ _ _ _ _ _ _ _ _ _ _ _ _ _ _ _ _ ?_
   rw [am]
   simp only [zFO,o6] at he
   subst he
   refine ⟨⟨rfl,rfl⟩,λa1 bg _ N4 ab ai=>?_⟩
   refine zPE hh (by omega) (by omega) a1 done q N4 _ λx4 x5 x6 x7 N5 aq au aj _=>⟨rfl,?_⟩
   have off:∀ y∈[x4,x5,x6,x7],Off [a1] y:=λy hy J aw ad ax hc=>by
    have h1:=ai J aw ad ax
    have h2:=aj.lo _ (zH.2 ⟨y,hy,hc⟩)
    omega
   refine ⟨off x4 (by simp),off x5 (by simp),off x6 (by simp),off x7 (by simp),⟨rfl,rfl⟩,⟨rfl,rfl⟩,⟨rfl,rfl⟩,⟨rfl,rfl⟩,λa2 N7 ay hf N8 az=>?_⟩
   have hO:=zDl (N1:=N4) (aj.mono (oB _) (oB _)) (ho.mono (oB _) ab) (by omega) (by omega)
   exact hQ _ _ (by omega) (Tm.is_mk.2 ⟨_,_,_,_,_,_,_,rfl,au,by omega,aa⟩) ((zCT hO hf (by omega)).mono (oB _) az)
  ·intro i x xs I _ a6 done pre q N' ao aa ho he ah
   have hb:=I.b
   have bh:=zu I.m
   have bi:(qE ar k nm i).length<=ar.length+1:=by unfold qE;split<;>simp
   refine pp _ _ _ _ _ _ _ _ _ _ _ _ _ _ _ _ _ _ _ _ _ _ _ _ _ _ _ _ _ _ _ _ _ _ _ _ ?_
   rw [I.lt]
   refine ⟨⟨by omega,by omega⟩,λN1 a7=>zPY ar (by omega) i J O N1 _ λa2 c2 N2 a8 _ _ N3 ba=>?_⟩
   rw [oK,I.w]
   refine ih x I.m _ I.r (by omega) _ (by omega) a a2 c c2 N3 _ λdx N4 ab hx bb _ _=>⟨⟨rfl,rfl⟩,by unfold zB;rw [oE];simp only [oJ,oM];omega,λc3=>?_⟩
   refine a6 _ (pre++[shd ps p w (qE ar k nm i) x]) _ _ (by omega) (aa.snoc hx) ?_ (by rw [nG];exact he) (by simp [ah])
   exact (y7 ho (yP (bb.mono (by omega) (oB _))) (N1:=N') (by omega) (by omega)).mono (oB _) (by omega)
 refine zIj N a _ c J _ O _ dp w Q λ_ _ _ _ N1 a7=>zLC ac ak ps ar (by omega) (by omega) a J c O N1 _ λN2 a8 _=>Br.of (λh1 N3 ba=>qV _ _ _ _ ac hp N3 _ λN4 ab _=>Br.of (λh2 N5 aq=>zLq N5 w _ λN6 bj _ _ N7 ay=>?_) λh2=>⟨_,_,_,rfl,?_⟩) λh1=>⟨_,_,_,rfl,?_⟩
 ·rw [h1,h2] at hQ
  exact hQ _ _ (by omega) (zNA hw) zK2
 ·exact key (by rw [h2,md]) _ (by omega)
 ·exact key (by rw [h1,Bool.false_and]) _ (by omega)
theorem zKl {p:Tm} {w:ByteArray}:∀ (l:List Tm) (ar:List ByteArray) (k:Int) (nm:ByteArray) (i:Nat),(pK p w ar k nm i l).length=l.length
 | [],_,_,_,_=>by simp [pK]
 | x::xs,ar,k,nm,i=>by simp only [pK,oJ,zKl xs]
theorem zLp {p:Tm} {w:ByteArray}:∀ (l:List Tm) (ar:List ByteArray) (k:Int) (nm:ByteArray) (i j:Nat) (x:Tm),l[j]?=some x->(pK p w ar k nm i l)[j]?=some (zQs p w (qE ar k nm (i+j)) x)
 | [],_,_,_,_,j,x,h=>by simp at h
 | y::ys,ar,k,nm,i,0,x,h=>by simp at h;subst h;simp [pK]
 | y::ys,ar,k,nm,i,j+1,x,h=>by
   simp only [pK,nA]
   rw [zLp ys ar k nm (i+1) j x (by simpa using h)]
   congr 2;congr 1;omega
theorem zQo (ar:List ByteArray) (t:Tm):(t.fv.all λs=>decide (s∈t.fv)&&!decide (s∈ar))=zQw ar t:=by
 unfold zQw
 rw [nP,oT,oT]
 constructor
 ·intro h s hs;exact (mC.1 (h s hs)).2
 ·intro h s hs;exact mC.2 ⟨by simpa using hs,h s hs⟩
theorem zRB {p:Tm} {dp:D} (hp:p.Is dp) {w:ByteArray} (hw:w.size<=4611686018427387904):∀ (t:Tm) (d:D),t.Is d->t.cnt<=1073741824->∀ (ar:List ByteArray),ar.length+t.cnt<=2199023255552->∀ (a':Option Addr) (c':Nat),
  zSA 39 [.dg 9 d,.dg 9 dp,.str w,.sv a' 0 (zA ar) c'] (zQs p w ar t):=by
 refine Tm.ind λk nm ot n0 ty re l ih d hd hc ar ha a' c' N Q hQ=>?_
 have aa:=hd
 have aq:=hc
 have bh:=(Tm.mk k nm ot n0 ty re l).vc_cnt
 have bi:=(Tm.mk k nm ot n0 ty re l).fv_len
 have hG:=Tm.G_cnt _ hc
 obtain ⟨t0,t1,r0,r1,a9,es,c9,rfl,hh,hlen,aj⟩:=Tm.is_mk.1 hd
 have hl:=aj.len
 have bj:=y6 l
 have hT:=zKl (p:=p) (w:=w) l ar k nm 0
 simp only [Tm.cnt] at hc ha
 simp only [zQs] at hQ
 have key:(u3 (.mk k nm ot n0 ty re l) p&&zQw ar (.mk k nm ot n0 ty re l))=false->∀ (x4 x5 x6 x7:D) (ae:List D) (c1 N':Nat),N<=N'->Tm.Hd nm ot ty re x4 x5 x6 x7->All2 Tm.Is l ae->OwnL N N' ([x4,x5,x6,x7]++ae) ->
   xS Q N w a' (zA ar) c' 0 (.ag [.j k,.t nm,.t ot,.j n0,t0,t1,r0,r1,.sl a9 9 es c9]) dp 0 (bytes []) (bytes []) 0 0 none [] 0 0 none [] 0 none [] 0 k nm ot n0 x4 x5 x6 x7 ae.length c1 ae c1 N':=by
  intro hn x4 x5 x6 x7 J c1 N0 au ab I ac
  have bm:=I.len
  rw [hn] at hQ
  have hQ:∀ d N',N<=N'->(Tm.mk k nm ot n0 ty re (pK p w ar k nm 0 l)).Is d->Own N N' d->Q d N':=hQ
  refine up aj hlen (λi xs=>∀ (rr:List D) (N':Nat),N<=N'->All2 Tm.Is ((pK p w ar k nm 0 l).take i++l.drop i) rr->rr.length=J.length->OwnL N N' ([x4,x5,x6,x7]++rr) ->
   xS Q N w a' (zA ar) c' i (.ag [.j k,.t nm,.t ot,.j n0,t0,t1,r0,r1,.sl a9 9 es c9]) dp 0 (bytes []) (bytes []) 0 0 none [] 0 0 none [] 0 none [] 0 k nm ot n0 x4 x5 x6 x7 J.length c1 rr c1 N') ?_ ?_ J N0 au (by simpa using I) rfl ac
  ·intro i aw hi rr N' ax ah ak ho
   refine pG _ _ _ _ _ _ _ _ _ _ _ _ _ _ _ _ _ _ _ _ _ _ _ _ _ _ _ _ _ _ _ _ _ _ _ _ _ ⟨_,_,_,rfl,?_⟩
   rw [aw]
   rw [od (by omega),mA (by omega),o6] at ah
   refine ⟨⟨by omega,rfl⟩,⟨by omega,rfl⟩,⟨by omega,rfl⟩,λa2 N7 ay hf N8 al=>?_⟩
   exact hQ _ _ (by omega) (Tm.is_mk.2 ⟨_,_,_,_,_,_,_,rfl,ab,by omega,ah⟩) ((zCT ho hf (by omega)).mono (oB _) al)
  ·intro i x xs O _ az rr N' ax ah ak ho
   have hb:=O.b
   have bn:=zu O.m
   have bp:(zCW ar k nm i).length<=ar.length+1:=by
    unfold zCW
    split
    ·have:=uq ar [nm];simpa using this
    ·omega
   refine pG _ _ _ _ _ _ _ _ _ _ _ _ _ _ _ _ _ _ _ _ _ _ _ _ _ _ _ _ _ _ _ _ _ _ _ _ _ ⟨_,_,_,rfl,?_⟩
   rw [O.lt]
   refine ⟨_,_,_,rfl,⟨by omega,by omega⟩,λN1 a6=>zH5 ar (by omega) i a' c' N1 _ λa2 c2 N2 a7 _ _ N3 a8=>?_⟩
   rw [oK,O.w]
   refine ih x O.m _ O.r (by omega) _ (by omega) a2 c2 N3 _ λdx N4 ba hx bb _ _=>⟨⟨by omega,by omega,by omega⟩,by omega,?_⟩
   have am:=zLp (p:=p) (w:=w) l ar k nm 0 i x O.g
   rw [nM,<-zHf x (λs=>zKs s)] at am
   rw [nM]
   refine az _ _ (by omega) ?_ (by simp [ak]) ?_
   ·have:=zKM (j:=i) ah hx
    rwa [zR5 hT (by omega) am] at this
   ·exact zLY bb (by omega) (by omega) (by omega) (l:=[x4,x5,x6,x7]++rr) (j:=i+4) ho
 refine zJG N _ dp w a' _ c' Q λ_ _ _ N1 a6=>xj _ _ _ _ aa hp N1 _ λN2 a7 _=>Br.of (λh1 N3 a8=>?_) λh1 bc bd=>?_
 ·refine qz _ _ aa (by omega) N3 _ λa1 c1 N4 ba _ _ _ N5 bq=>zLU aa aq _ ar (by omega) (by omega) a1 a' c1 c' N5 _ λN6 bt _=>?_
  rw [zQo]
  refine Br.of (λh2 N7 ay=>zDr N7 w _ λN8 al _ _ N9 bv=>?_) λh2 N10 bg=>zGP _ _ aa hG N10 _ ?_
  ·rw [h1,h2] at hQ
   exact hQ _ _ (by omega) (zNA hw) zK2
  ·intro x4 x5 x6 x7 J c1 ai ao ab I ac _ _
   exact key (by rw [h2,md]) x4 x5 x6 x7 J c1 ai (by omega) ab I (ac.mono (by omega) (oB _))
 ·refine zGP _ _ aa hG bc _ ?_
  intro x4 x5 x6 x7 J c1 ai ao ab I ac _ _
  exact key (by rw [h1,Bool.false_and]) x4 x5 x6 x7 J c1 ai (by omega) ab I (ac.mono (by omega) (oB _))
theorem zLr:∀ {l:List Tm},zBO l=true↔∀ x∈l,x.ok=true
 | []=>by simp [zBO]
 | t::I=>by simp only [zBO,oL,zLr (l:=I),oH,forall_eq_or_imp]
theorem Tm.ok_mk {k:Int} {nm ot:ByteArray} {n:Int} {ty re:Ty} {l:List Tm}:(Tm.mk k nm ot n ty re l).ok=true↔(∀ x∈l,x.ok=true)/\yf k nm ot n ty re=true/\(l.length:Int)=zGm k nm:=by
 simp only [Tm.ok,oL,zLr,mE]
theorem zGV:∀ {l:List Tm} {j:Nat} {x:Tm} (v:List Nb),l[j]?=some x->zFg l j v=x.ev v
 | x::_,0,y,v,h=>by simp at h;subst h;simp only [zFg]
 | _::l,j+1,y,v,h=>by simp only [zFg];exact zGV v (by simpa using h)
theorem zE9:∀ {l:List Tm} {j:Nat} (v:List Nb),l[j]?=none->zFg l j v=0
 | [],_,v,h=>by simp only [zFg]
 | _::_,0,v,h=>by simp at h
 | _::l,j+1,v,h=>by simp only [zFg];exact zE9 v (by simpa using h)
theorem zIz {l I:List Tm} {v v':List Nb} {j:Nat} (hl:I.length=l.length) (h:∀ x x',l[j]?=some x->I[j]?=some x'->x'.ev v'=x.ev v):zFg I j v'=zFg l j v:=by
 cases J:l[j]? with
 | none=>
   have:I[j]?=none:=by rw [nV] at J ⊢;omega
   rw [zE9 v J,zE9 v' this]
 | some x=>
   have hj:=(oD.1 J).1
   have O:I[j]?=some (I[j]'(by omega)):=oF (by omega)
   rw [zGV v J,zGV v' O]
   exact h x _ J O
/-- a value leans on the free names -/
theorem zTB:∀ (t:Tm),t.ok=true->∀ (v v':List Nb),(∀ s∈t.fv,zBJ s v=zBJ s v')->t.ev v=t.ev v':=by
 refine Tm.ind λk nm ot n ty re l ih O v v' h=>?_
 have hk:=(Tm.ok_mk.1 O).1
 have aa:=(Tm.ok_mk.1 O).2.2
 simp only [Tm.ev]
 split
 ·rename_i h1
  rw [h nm (Tm.fv_mem.2 (.inl ⟨h1,rfl⟩))]
 ·rename_i h1
  have off:∀ (j:Nat),(j:Int)≠qk k l.length->zFg l j v=zFg l j v':=λj hj=>zIz rfl λx x' J I=>by
   rw [J] at I;cases I
   refine ih x (oC J) (hk x (oC J)) v v' λs hs=>h s (Tm.fv_mem.2 (.inr ⟨h1,j,x,J,?_⟩))
   unfold fvI;rw [if_neg hj];exact hs
  split
  ·rename_i h4
   subst h4
   rw [off 0 (by simp [qk]),off 1 (by simp [qk])]
  ·split
   ·rename_i h5
    subst h5
    rw [off 0 (by simp [qk]),off _ (by simp [qk];omega)]
   ·split
    ·rename_i h8
     subst h8
     have hl:l.length=2:=by have:(l.length:Int)=2:=aa;omega
     have e0:=off 0 (by rw [hl];simp [qk])
     rw [e0]
     refine zIz rfl λx x' J I=>?_
     rw [J] at I;cases I
     refine ih x (oC J) (hk x (oC J)) _ _ λs hs=>?_
     rw [xy,xy]
     split
     ·rfl
     ·rename_i ab
      refine h s (Tm.fv_mem.2 (.inr ⟨by decide,1,x,J,?_⟩))
      unfold fvI
      rw [hl,if_pos (by simp [qk])]
      exact zRE.2 ⟨hs,by simp [bdN];exact λe=>ab e.symm⟩
    ·rfl
theorem zOb {x:ByteArray} {a b:List ByteArray}:x∈si a b↔x∈a\/x∈b:=zBj
theorem zH0:∀ (l:List Tm) (out:List ByteArray) (s:ByteArray),s∈qd l out↔s∈out\/∃ x∈l,s∈x.nms
 | [],out,s=>by simp [qd]
 | x::l,out,s=>by
   simp only [qd]
   rw [zH0 l,zOb]
   simp only [oH,exists_eq_or_imp]
   exact or_assoc
theorem zJV {ps:List ByteArray} {c:Tm} {w:ByteArray}:∀ (l:List Tm) (ar:List ByteArray) (k:Int) (nm:ByteArray) (i:Nat),(zFO ps c w ar k nm i l).length=l.length
 | [],_,_,_,_=>by simp [zFO]
 | x::xs,ar,k,nm,i=>by simp only [zFO,oJ,zJV xs]
theorem zIL {ps:List ByteArray} {c:Tm} {w:ByteArray}:∀ (l:List Tm) (ar:List ByteArray) (k:Int) (nm:ByteArray) (i j:Nat) (x:Tm),l[j]?=some x->(zFO ps c w ar k nm i l)[j]?=some (shd ps c w (qE ar k nm (i+j)) x)
 | [],_,_,_,_,j,x,h=>by simp at h
 | y::ys,ar,k,nm,i,0,x,h=>by simp at h;subst h;simp [zFO]
 | y::ys,ar,k,nm,i,j+1,x,h=>by
   simp only [zFO,nA]
   rw [zIL ys ar k nm (i+1) j x (by simpa using h)]
   congr 2;congr 1;omega
theorem zUb {ps:List ByteArray} {c:Tm} {w:ByteArray} (hc:c.ok=true) {v0:List Nb}:∀ (t:Tm),t.ok=true->w∉t.nms->∀ (ar:List ByteArray) (v v':List Nb),(∀ s,s≠w->zBJ s v'=zBJ s v)->zBJ w v'=some (c.ev v0)->(∀ s,s∉ar->zBJ s v=zBJ s v0) ->
  (shd ps c w ar t).ev v'=t.ev v:=by
 refine Tm.ind λk nm ot n ty re l ih aa hw ar v v' h1 h2 h3=>?_
 have hk:=(Tm.ok_mk.1 aa).1
 have ah:=(Tm.ok_mk.1 aa).2.2
 simp only [Tm.nms] at hw
 rw [zH0] at hw
 have ab:(k=1\/k=8)->w≠nm:=λh e=>hw (.inl (by rw [if_pos h,e];simp))
 have ac:∀ x∈l,w∉x.nms:=λx I h=>hw (.inr ⟨x,I,h⟩)
 simp only [shd]
 split
 ·rename_i hp
  obtain ⟨p1,p2⟩:=mC.1 hp
  have e:=(tJ _ _).1 p2
  rw [e] at p1 ⊢
  rw [zO5 p1] at p1
  show (zBJ w v').getD 0=_
  rw [h2]
  refine zTB c hc v0 v λs hs=>(h3 s ?_).symm
  simpa using oT.1 p1 s hs
 ·simp only [Tm.ev]
  split
  ·rename_i ae
   rw [h1 nm λe=>ab (.inl ae) e.symm]
  ·have off:∀ (j:Nat),(∀ x,l[j]?=some x->qE ar k nm j=ar)->zFg (zFO ps c w ar k nm 0 l) j v'=zFg l j v:=λj hj=>zIz (zJV _ _ _ _ _) λx x' I J=>by
    rw [zIL l ar k nm 0 j x I] at J
    cases J
    rw [nM,hj x I]
    exact ih x (oC I) (hk x (oC I)) (ac x (oC I)) ar v v' h1 h2 h3
   have O:¬k=8->∀ j,qE ar k nm j=ar:=λh j=>by unfold qE;rw [if_neg (λh2=>h h2.1)]
   split
   ·rename_i h4
    rw [off 0 λ_ _=>O (by omega) _,off 1 λ_ _=>O (by omega) _]
   ·split
    ·rename_i h5
     rw [off 0 λ_ _=>O (by omega) _,off _ λ_ _=>O (by omega) _]
    ·split
     ·rename_i h8
      subst h8
      rw [off 0 λ_ _=>by unfold qE;rw [if_neg (by omega)]]
      refine zIz (zJV _ _ _ _ _) λx x' I J=>?_
      rw [zIL l ar 8 nm 0 1 x I] at J
      cases J
      have e:qE ar 8 nm (0+1)=ar++[nm]:=by unfold qE;rw [if_pos ⟨rfl,rfl⟩]
      rw [e]
      refine ih x (oC I) (hk x (oC I)) (ac x (oC I)) _ _ _ (λs hs=>?_) ?_ λs hs=>?_
      ·rw [xy,xy,h1 s hs]
      ·rw [xy,if_neg (λe=>ab (.inr rfl) e.symm),h2]
      ·simp only [oG,oR,not_or] at hs
       rw [xy,if_neg (λe=>hs.2 e.symm),h3 s hs.1]
     ·rfl
mutual
theorem zPU {ps:List ByteArray}:∀ (t:Tm) (ar:List ByteArray),t.ok=true->∀ x∈qf ps ar t,x.ok=true
 | .mk k nm ot n ty re l,ar,I,x,hx=>by
   simp only [qf,oG] at hx
   rcases hx with hx | hx
   ·split at hx
    ·simp only [oR] at hx;rw [hx];exact I
    ·cases hx
   ·exact zNT l ar k nm 0 (Tm.ok_mk.1 I).1 x hx
theorem zNT {ps:List ByteArray}:∀ (l:List Tm) (ar:List ByteArray) (k:Int) (nm:ByteArray) (i:Nat),(∀ x∈l,x.ok=true)->∀ x∈vJ ps ar k nm i l,x.ok=true
 | [],_,_,_,_,_,x,hx=>by simp [vJ] at hx
 | y::ys,ar,k,nm,i,I,x,hx=>by
   simp only [vJ,oG] at hx
   rcases hx with hx | hx
   ·exact zPU y (qE ar k nm i) (I y (by simp)) x hx
   ·exact zNT ys ar k nm (i+1) (λz J=>I z (by simp [J])) x hx
end
theorem zUl {ps:List ByteArray} {c e:Tm} {w:ByteArray} (hc:c∈zDC (qf ps [] e)) (I:e.ok=true) (O:w∉e.nms) (v:List Nb):(zSo ps c w e).ev v=e.ev v:=by
 have J:=zPU e [] I c (pH hc)
 show ((shd ps c w [] e).ev (v++[(w,c.ev v)]))=_
 refine zUb J (v0:=v) e I O [] v _ (λs hs=>?_) ?_ λ_ _=>rfl
 ·rw [xy,if_neg (λe=>hs e.symm)]
 ·rw [xy,if_pos rfl]
end Go.Proofs.YtlahkdflngobiaaGreatDoor
