/- Sharing a part of a body: what it comes to (no program in sight). -/
import Derived.Test.YtlahkdflngobiaaGreatDoorC4
import Derived.Test.YtlahkdflngobiaaGreatDoorB6
import Derived.Test.YtlahkdflngobiaaGreatDoorB3
import Derived.Test.YtlahkdflngobiaaGreatDoorKd
set_option linter.unusedVariables false
set_option linter.unusedSimpArgs false
namespace Go.Proofs.YtlahkdflngobiaaGreatDoor
open Go Go.Proofs Go.Proofs.Tryz Go.IntWalk
mutual
/-- the names of variables and of lets -/
def Tm.nms:Tm->List ByteArray
 | .mk k nm _ _ _ _ l=>zCN l (if k=1\/k=8 then [nm] else [])
def zCN:List Tm->List ByteArray->List ByteArray
 | [],out=>out
 | t::I,out=>zCN I (sf out t.nms)
end
mutual
/-- the program's: places of a part become a variable -/
def shd (ps:List ByteArray) (p:Tm) (w:ByteArray):List ByteArray->Tm->Tm
 | ar,.mk k nm ot n ty re l=>if (zDQ ps ar (.mk k nm ot n ty re l)&&uc (.mk k nm ot n ty re l) p)=true then zTs w else .mk k nm ot n ty re (zLc ps p w ar k nm 0 l)
def zLc (ps:List ByteArray) (p:Tm) (w:ByteArray):List ByteArray->Int->ByteArray->Nat->List Tm->List Tm
 | _,_,_,_,[]=>[]
 | ar,k,nm,i,x::xs=>shd ps p w (zBC ar k nm i) x::zLc ps p w ar k nm (i+1) xs
end
/-- no free name is bound around -/
def zQZ (ar:List ByteArray) (t:Tm):Bool:=t.fv.all λs=>!decide (s∈ar)
mutual
/-- the reference's -/
def zQU (p:Tm) (w:ByteArray):List ByteArray->Tm->Tm
 | ar,.mk k nm ot n ty re l=>if (uc (.mk k nm ot n ty re l) p&&zQZ ar (.mk k nm ot n ty re l))=true then zTs w else .mk k nm ot n ty re (q8 p w ar k nm 0 l)
def q8 (p:Tm) (w:ByteArray):List ByteArray->Int->ByteArray->Nat->List Tm->List Tm
 | _,_,_,_,[]=>[]
 | ar,k,nm,i,x::xs=>zQU p w (zBC ar k nm i) x::q8 p w ar k nm (i+1) xs
end
theorem zSR {ps ar I:List ByteArray} {p:Tm} (h:zDQ ps I p=true):zDQ ps ar p=zQZ ar p:=by
 cases p with
 | mk k nm ot n ty re l=>
 simp only [zDQ,oL] at h
 obtain ⟨J,O,h3⟩:=h
 simp only [zDQ]
 rw [J,O,mo,mo]
 unfold zQZ
 rw [nQ,oW,oW]
 constructor
 ·intro h s hs
  exact (mK.1 (h s hs)).2
 ·intro h s hs
  exact mK.2 ⟨(mK.1 (oW.1 h3 s hs)).1,h s hs⟩
mutual
theorem zLt {ps I:List ByteArray} {p:Tm} {w:ByteArray} (J:zDQ ps I p=true):∀ (t:Tm) (ar:List ByteArray),shd ps p w ar t=zQU p w ar t
 | .mk k nm ot n ty re l,ar=>by
   simp only [shd,zQU]
   have e:(zDQ ps ar (.mk k nm ot n ty re l)&&uc (.mk k nm ot n ty re l) p)=(uc (.mk k nm ot n ty re l) p&&zQZ ar (.mk k nm ot n ty re l)):=by
    cases O:uc (.mk k nm ot n ty re l) p with
    | false=>simp
    | true=>
      have:=(sH _ _).1 O
      rw [this,zSR J];simp
   rw [e,zMn J l ar k nm 0]
theorem zMn {ps I:List ByteArray} {p:Tm} {w:ByteArray} (J:zDQ ps I p=true):∀ (l:List Tm) (ar:List ByteArray) (k:Int) (nm:ByteArray) (i:Nat),zLc ps p w ar k nm i l=q8 p w ar k nm i l
 | [],_,_,_,_=>by simp only [zLc,q8]
 | x::xs,ar,k,nm,i=>by simp only [zLc,q8];rw [zLt J x (zBC ar k nm i),zMn J xs ar k nm (i+1)]
end
theorem zNy {ar br:List ByteArray} (h:∀ s,s∈ar↔s∈br) (t:Tm):zQZ ar t=zQZ br t:=by
 unfold zQZ
 have:(λs=>!decide (s∈ar))=λs=>!decide (s∈br):=funext λs=>by simp [h s]
 rw [this]
mutual
theorem zHV {p:Tm} {w:ByteArray}:∀ (t:Tm) {ar br:List ByteArray},(∀ s,s∈ar↔s∈br)->zQU p w ar t=zQU p w br t
 | .mk k nm ot n ty re l,ar,br,h=>by simp only [zQU];rw [zNy h,zFt l k nm 0 h]
theorem zFt {p:Tm} {w:ByteArray}:∀ (l:List Tm) (k:Int) (nm:ByteArray) (i:Nat) {ar br:List ByteArray},(∀ s,s∈ar↔s∈br)->q8 p w ar k nm i l=q8 p w br k nm i l
 | [],_,_,_,_,_,_=>by simp only [q8]
 | x::xs,k,nm,i,ar,br,h=>by simp only [q8];rw [zHV x (zNF h k nm i),zFt xs k nm (i+1) h]
end
mutual
/-- operations and choices -/
def Tm.ops:Tm->Nat
 | .mk k _ _ _ _ _ l=>(if k=4\/k=5 then 1 else 0)+zHx l
def zHx:List Tm->Nat
 | []=>0
 | t::I=>t.ops+zHx I
end
mutual
def zOY (ps:List ByteArray) (p:Tm):List ByteArray->Tm->Nat
 | ar,.mk k nm ot n ty re l=>if (zDQ ps ar (.mk k nm ot n ty re l)&&uc (.mk k nm ot n ty re l) p)=true then 1 else zG5 ps p ar k nm 0 l
def zG5 (ps:List ByteArray) (p:Tm):List ByteArray->Int->ByteArray->Nat->List Tm->Nat
 | _,_,_,_,[]=>0
 | ar,k,nm,i,x::xs=>zOY ps p (zBC ar k nm i) x+zG5 ps p ar k nm (i+1) xs
end
mutual
theorem zQR {ps:List ByteArray} {p:Tm} {w:ByteArray}:∀ (t:Tm) (ar:List ByteArray),(shd ps p w ar t).ops+zOY ps p ar t*p.ops=t.ops/\(shd ps p w ar t).sz+zOY ps p ar t*p.sz=t.sz+zOY ps p ar t
 | .mk k nm ot n ty re l,ar=>by
   simp only [shd,zOY]
   split
   ·rename_i h
    have e:=(sH _ _).1 (mK.1 h).2
    rw [<-e]
    constructor
    ·show 0+0+1*_=_;omega
    ·show 1+0+1*_=_;omega
   ·obtain ⟨I,J⟩:=zNR (ps:=ps) (p:=p) (w:=w) l ar k nm 0
    constructor
    ·simp only [Tm.ops];omega
    ·simp only [Tm.sz];omega
theorem zNR {ps:List ByteArray} {p:Tm} {w:ByteArray}:∀ (l:List Tm) (ar:List ByteArray) (k:Int) (nm:ByteArray) (i:Nat),zHx (zLc ps p w ar k nm i l)+zG5 ps p ar k nm i l*p.ops=zHx l/\uM (zLc ps p w ar k nm i l)+zG5 ps p ar k nm i l*p.sz=uM l+zG5 ps p ar k nm i l
 | [],ar,k,nm,i=>by simp [zLc,zG5,zHx,uM]
 | x::xs,ar,k,nm,i=>by
   obtain ⟨I,J⟩:=zQR (ps:=ps) (p:=p) (w:=w) x (zBC ar k nm i)
   obtain ⟨O,h4⟩:=zNR (ps:=ps) (p:=p) (w:=w) xs ar k nm (i+1)
   simp only [zLc,zG5,zHx,uM,nO]
   constructor<;>omega
end
def s5 (p:Tm) (l:List Tm):Nat:=(l.filter λx=>uc x p).length
theorem zBe (p:Tm) (a b:List Tm):s5 p (a++b)=s5 p a+s5 p b:=by simp [s5]
mutual
theorem zSz {ps:List ByteArray}:∀ (t:Tm) (ar:List ByteArray),∀ x∈zAN ps ar t,x.sz<=t.sz
 | .mk k nm ot n ty re l,ar,x,hx=>by
   simp only [zAN,oF] at hx
   rcases hx with hx | hx
   ·split at hx
    ·simp only [oZ] at hx;rw [hx];exact oA _
    ·cases hx
   ·have:=zH7 l ar k nm 0 x hx
    simp only [Tm.sz];omega
theorem zH7 {ps:List ByteArray}:∀ (l:List Tm) (ar:List ByteArray) (k:Int) (nm:ByteArray) (i:Nat),∀ x∈vq ps ar k nm i l,x.sz<=uM l
 | [],_,_,_,_,x,hx=>by simp [vq] at hx
 | y::ys,ar,k,nm,i,x,hx=>by
   simp only [vq,oF] at hx
   simp only [uM]
   rcases hx with hx | hx
   ·have:=zSz y (zBC ar k nm i) x hx;omega
   ·have:=zH7 ys ar k nm (i+1) x hx;omega
end
mutual
theorem zMj {ps:List ByteArray} {p:Tm}:∀ (t:Tm) (ar:List ByteArray),zOY ps p ar t=s5 p (zAN ps ar t)
 | .mk k nm ot n ty re l,ar=>by
   simp only [zOY,zAN,zBe]
   rw [zKK l ar k nm 0]
   cases O:zDQ ps ar (.mk k nm ot n ty re l) with
   | false=>simp [s5]
   | true=>
     cases I:uc (.mk k nm ot n ty re l) p with
     | false=>simp [s5,I]
     | true=>
       have e:=(sH _ _).1 I
       have h0:s5 p (vq ps ar k nm 0 l)=0:=by
        unfold s5
        rw [lH,List.filter_eq_nil_iff]
        intro x hx hc
        have J:=zH7 l ar k nm 0 x hx
        have h2:=(sH _ _).1 hc
        rw [h2,<-e] at J
        simp only [Tm.sz] at J
        omega
       rw [h0]
       simp [s5,I]
theorem zKK {ps:List ByteArray} {p:Tm}:∀ (l:List Tm) (ar:List ByteArray) (k:Int) (nm:ByteArray) (i:Nat),zG5 ps p ar k nm i l=s5 p (vq ps ar k nm i l)
 | [],_,_,_,_=>by simp [zG5,vq,s5]
 | x::xs,ar,k,nm,i=>by simp only [zG5,vq,zBe];rw [zMj x (zBC ar k nm i),zKK xs ar k nm (i+1)]
end
theorem zCe {u:Tm}:∀ (xs seen:List Tm),u∈vE seen xs->2<=s5 u xs
 | [],_,h=>by simp [vE] at h
 | x :: xs,seen,h=>by
   simp only [vE] at h
   split at h
   ·rename_i hc
    rcases oJ.1 h with rfl | h
    ·obtain ⟨y,I,J⟩:=me.1 hc.2
     have O:y∈xs.filter λz=>uc z u:=nz.2 ⟨I,by rw [zKy];exact J⟩
     have:=List.length_pos_of_mem O
     unfold s5
     rw [List.filter_cons_of_pos (p:=λx=>uc x u) (zKT u),oK]
     omega
    ·have:=zCe xs _ h
     have h2:s5 u (x::xs)=s5 u [x]+s5 u xs:=zBe u [x] xs
     omega
   ·have:=zCe xs _ h
    have h2:s5 u (x::xs)=s5 u [x]+s5 u xs:=zBe u [x] xs
    omega
mutual
theorem zOz {ps:List ByteArray}:∀ (t:Tm) (ar:List ByteArray),∀ x∈zAN ps ar t,∃ br,zDQ ps br x=true
 | .mk k nm ot n ty re l,ar,x,hx=>by
   simp only [zAN,oF] at hx
   rcases hx with hx | hx
   ·split at hx
    ·rename_i h;simp only [oZ] at hx;rw [hx];exact ⟨ar,h⟩
    ·cases hx
   ·exact zMk l ar k nm 0 x hx
theorem zMk {ps:List ByteArray}:∀ (l:List Tm) (ar:List ByteArray) (k:Int) (nm:ByteArray) (i:Nat),∀ x∈vq ps ar k nm i l,∃ br,zDQ ps br x=true
 | [],_,_,_,_,x,hx=>by simp [vq] at hx
 | y::ys,ar,k,nm,i,x,hx=>by
   simp only [vq,oF] at hx
   rcases hx with hx | hx
   ·exact zOz y (zBC ar k nm i) x hx
   ·exact zMk ys ar k nm (i+1) x hx
end
/-- the shared body -/
def zSn (ps:List ByteArray) (c:Tm) (w:ByteArray) (e:Tm):Tm:=.mk 8 w (bytes []) 0 (.mk 0 []) (.mk 0 []) [c,shd ps c w [] e]
theorem zMq {ps:List ByteArray} {c e:Tm} {w:ByteArray} (hc:c∈zDy (zAN ps [] e)):(zSn ps c w e).ops<e.ops/\(zSn ps c w e).sz<=e.sz/\∃ br,zDQ ps br c=true:=by
 have O:c∈vE [] (zAN ps [] e):=(tS (key:=Tm.sz) (vE [] (zAN ps [] e)) []).mem_iff.1 hc
 have J:=zCe _ _ O
 rw [<-zMj] at J
 obtain ⟨br,I⟩:=zOz e [] c (zBh hc)
 obtain ⟨h3,h4⟩:=zQR (ps:=ps) (p:=c) (w:=w) e []
 have h5:1<=c.ops/\3<=c.sz:=by
  cases c with
  | mk k nm ot n ty re l=>
  simp only [zDQ,oL,mD,nC] at I
  refine ⟨?_,I.2.1⟩
  simp only [Tm.ops];rw [if_pos I.1];omega
 have h6:2*c.ops<=zOY ps c [] e*c.ops:=nY _ J
 have h7:zOY ps c [] e+c.sz+1<=zOY ps c [] e*c.sz:=by
  obtain ⟨m,hm⟩:∃ m,zOY ps c [] e=m+2:=⟨zOY ps c [] e - 2,by omega⟩
  obtain ⟨s,hs⟩:∃ s,c.sz=s+3:=⟨c.sz - 3,by omega⟩
  rw [hm,hs]
  simp only [nO,Nat.mul_add]
  have:0<=m*s:=Nat.zero_le _
  omega
 refine ⟨?_,?_,br,I⟩
 ·show 0+(c.ops+((shd ps c w [] e).ops+0))<_
  omega
 ·show 1+(c.sz+((shd ps c w [] e).sz+0))<=_
  omega
def qO (g:List Pm) (t:Tm):List Tm:=if (xW g t).isSome then zDy (zAN (zq g) [] t) else []
/-- shared once, if it can be -/
def wG (g:List Pm) (t:Tm):Option Tm:=match qO g t with
 | []=>none
 | c::_=>some (zSn (zq g) c (fresh (zq g++t.nms)) t)
def zAS (g:List Pm):Nat->Tm->Tm
 | 0,t=>t
 | n+1,t=>match wG g t with
   | none=>t
   | some u=>zAS g n u
theorem zPj {g:List Pm} {t:Tm} (h:(xW g t).isSome=true):zCn g=true/\t.sz<=80/\t.dp<=20/\t.ok=true/\t.isB=true:=by
 unfold xW at h
 split at h
 ·rename_i hc
  obtain ⟨J,I,O⟩:=hc
  simp only [Tm.vd,oL,nC] at I
  exact ⟨J,I.1.1,I.1.2,I.2,O⟩
 ·cases h
theorem rN {g:List Pm} {t c:Tm} (h:c∈qO g t):(xW g t).isSome=true/\c∈zDy (zAN (zq g) [] t):=by
 unfold qO at h
 split at h
 ·rename_i hc;exact ⟨hc,h⟩
 ·cases h
theorem zJu {g:List Pm} {t u:Tm} (h:wG g t=some u):∃ c,c∈qO g t/\u=zSn (zq g) c (fresh (zq g++t.nms)) t:=by
 unfold wG at h
 split at h
 ·cases h
 ·rename_i c l hc
  cases h
  exact ⟨c,by rw [hc];simp,rfl⟩
theorem sx {g:List Pm} {t u:Tm} (h:wG g t=some u):u.ops<t.ops/\u.sz<=t.sz:=by
 obtain ⟨c,hc,rfl⟩:=zJu h
 obtain ⟨_,I⟩:=rN hc
 obtain ⟨J,O,_⟩:=zMq (w:=fresh (zq g++t.nms)) I
 exact ⟨J,O⟩
theorem zCz {g:List Pm} {n:Nat} {t u:Tm} (h:wG g t=some u) (I:t.ops<=n+1):zAS g (n+1) t=zAS g n u:=by
 simp only [zAS,h]
theorem p7 {g:List Pm} {n:Nat} {t:Tm} (h:wG g t=none):zAS g n t=t:=by
 cases n with
 | zero=>rfl
 | succ n=>simp only [zAS,h]
theorem zVI:∀ t:Tm,3<=t.cnt
 | .mk _ _ _ _ ty re l=>by
   cases ty with
   | mk k l1=>
   cases re with
   | mk I l2=>
   simp only [Tm.cnt,Ty.cnt];omega
theorem zRL (w:ByteArray):(zTs w).cnt=3:=by simp [zTs,Tm.cnt,Ty.cnt,zI,zh]
mutual
theorem zLx {ps:List ByteArray} {p:Tm} {w:ByteArray}:∀ (t:Tm) (ar:List ByteArray),(shd ps p w ar t).cnt<=t.cnt
 | .mk k nm ot n ty re l,ar=>by
   simp only [shd]
   split
   ·rw [zRL];exact zVI _
   ·simp only [Tm.cnt]
    have:=zM4 (ps:=ps) (p:=p) (w:=w) l ar k nm 0
    omega
theorem zM4 {ps:List ByteArray} {p:Tm} {w:ByteArray}:∀ (l:List Tm) (ar:List ByteArray) (k:Int) (nm:ByteArray) (i:Nat),zh (zLc ps p w ar k nm i l)<=zh l
 | [],_,_,_,_=>by simp [zLc]
 | x::xs,ar,k,nm,i=>by
   simp only [zLc,zh]
   have I:=zLx (ps:=ps) (p:=p) (w:=w) x (zBC ar k nm i)
   have J:=zM4 (ps:=ps) (p:=p) (w:=w) xs ar k nm (i+1)
   omega
end
theorem zRZ {ps:List ByteArray} {c t:Tm} {w:ByteArray}:(zSn ps c w t).cnt<=3+c.cnt+t.cnt:=by
 have h:=zLx (ps:=ps) (p:=c) (w:=w) t []
 simp only [zSn,Tm.cnt,Ty.cnt,zI,zh];omega
mutual
theorem zFH:∀ t:Tm,t.nms.length<=t.cnt
 | .mk k nm _ _ ty re l=>by
   have:=zHP l (if k=1\/k=8 then [nm] else [])
   simp only [Tm.nms,Tm.cnt]
   have I:(if k=1\/k=8 then [nm] else []).length<=1:=by split<;>simp
   omega
theorem zHP:∀ (l:List Tm) (out:List ByteArray),(zCN l out).length<=out.length+zh l
 | [],out=>by simp [zCN,zh]
 | t::J,out=>by
   have O:=zHP J (sf out t.nms)
   have I:=uR out t.nms
   have h3:=zFH t
   simp only [zCN,zh]
   omega
end
theorem zHD:∀ (t:Tm) (d:D),t.Is d->t.cnt<=1073741824->zQH 28 [.dg 9 d] t.nms:=by
 refine Tm.ind λk nm ot n0 ty re l ih d hd hc N Q hQ=>?_
 obtain ⟨t0,t1,r0,r1,a,es,c,rfl,hh,hlen,J⟩:=Tm.is_mk.1 hd
 have hl:=J.len
 simp only [Tm.cnt] at hc
 have key:=up J hlen (λi xs=>∀ (out:List ByteArray) (q N':Nat),N<=N'->out.length+zh xs<=1+zh l->zCN xs out=(Tm.mk k nm ot n0 ty re l).nms ->
  yo Q N (zA out).length q i (.ag [.j k,.t nm,.t ot,.j n0,t0,t1,r0,r1,.sl a 9 es c]) (zA out) q N') ?_ ?_
 ·refine zGZ N _ Q λ_=>⟨k,rfl,Br.beq (λh1=>⟨nm,rfl,⟨rfl,rfl⟩,by unfold zC;simp,λc1=>?_⟩) λh1=>⟨k,rfl,Br.beq (λh8=>⟨nm,rfl,⟨rfl,rfl⟩,by unfold zC;simp,λc1=>?_⟩) λh8=>?_⟩⟩
  ·exact key [nm] c1 N (oA _) (by simp) (by simp only [Tm.nms];rw [if_pos (.inl h1)])
  ·exact key [nm] c1 N (oA _) (by simp) (by simp only [Tm.nms];rw [if_pos (.inr h8)])
  ·exact key [] 0 N (oA _) (by simp) (by simp only [Tm.nms];rw [if_neg (by omega)])
 ·intro i aa hi out q N' ab _ O
  refine r6 _ _ _ _ _ _ _ _ _ ⟨_,_,_,rfl,?_⟩
  rw [aa]
  simp only [zCN] at O
  subst O
  exact ⟨⟨rfl,rfl⟩,⟨rfl,rfl⟩,⟨rfl,rfl⟩,λa1 N5 ai hf N6 ac=>hQ _ _ _ (by omega) (wD hf ac)⟩
 ·intro i x xs I _ ae out q N' ab ah O
  have hb:=I.b
  have aj:=zn I.m
  have ak:=zFH x
  have al:=uR out x.nms
  simp only [zh] at ah
  refine r6 _ _ _ _ _ _ _ _ _ ⟨_,_,_,rfl,?_⟩
  rw [I.lt]
  refine ⟨_,_,_,rfl,⟨by omega,by omega⟩,λN1 am=>?_⟩
  rw [oH,I.w]
  refine ih x I.m _ I.r (by omega) N1 _ λa2 c2 N2 ao aq _ _=>⟨⟨rfl,rfl⟩,λa3 _ _ N3 au _=>?_⟩
  refine wS out x.nms (by omega) (by omega) a3 a2 q c2 N3 _ λc4 N4 aw _=>⟨rF _,λ_=>?_⟩
  exact ae _ _ _ (by omega) (by omega) (by rw [<-O];rfl)
theorem zGq:∀ (t:Tm) (d:D),t.Is d->t.cnt<=1073741824->zQH 27 [.dg 9 d] t.nms:=by
 refine Tm.ind λk nm ot n0 ty re l ih d hd hc N Q hQ=>?_
 obtain ⟨t0,t1,r0,r1,a,es,c,rfl,hh,hlen,J⟩:=Tm.is_mk.1 hd
 have hl:=J.len
 simp only [Tm.cnt] at hc
 have key:=up J hlen (λi xs=>∀ (out:List ByteArray) (q N':Nat),N<=N'->out.length+zh xs<=1+zh l->zCN xs out=(Tm.mk k nm ot n0 ty re l).nms ->
  yn Q N (zA out).length q a es c (es.length:Int) i (zA out) q N') ?_ ?_
 ·refine zGU N _ Q λ_=>⟨k,rfl,Br.beq (λh1=>⟨nm,rfl,⟨rfl,rfl⟩,by unfold zC;simp,λc1=>⟨_,_,_,rfl,?_⟩⟩) λh1=>⟨k,rfl,Br.beq (λh8=>⟨nm,rfl,⟨rfl,rfl⟩,by unfold zC;simp,λc1=>⟨_,_,_,rfl,?_⟩⟩) λh8=>⟨_,_,_,rfl,?_⟩⟩⟩
  ·exact key [nm] c1 N (oA _) (by simp) (by simp only [Tm.nms];rw [if_pos (.inl h1)])
  ·exact key [nm] c1 N (oA _) (by simp) (by simp only [Tm.nms];rw [if_pos (.inr h8)])
  ·exact key [] 0 N (oA _) (by simp) (by simp only [Tm.nms];rw [if_neg (by omega)])
 ·intro i aa hi out q N' ab _ O
  refine qV _ _ _ _ _ _ _ _ _ _ _ _ ?_
  rw [aa]
  simp only [zCN] at O
  subst O
  exact ⟨⟨rfl,rfl⟩,⟨rfl,rfl⟩,⟨rfl,rfl⟩,λa1 N5 ai hf N6 ac=>hQ _ _ _ (by omega) (wD hf ac)⟩
 ·intro i x xs I _ ae out q N' ab ah O
  have hb:=I.b
  have aj:=zn I.m
  have ak:=zFH x
  have al:=uR out x.nms
  simp only [zh] at ah
  refine qV _ _ _ _ _ _ _ _ _ _ _ _ ?_
  rw [I.lt]
  refine ⟨⟨by omega,by omega⟩,λN1 am=>?_⟩
  rw [oH,I.w]
  refine ih x I.m _ I.r (by omega) N1 _ λa2 c2 N2 ao aq _ _=>⟨⟨rfl,rfl⟩,λa3 _ _ N3 au _=>?_⟩
  refine vz out x.nms (by omega) (by omega) a3 a2 q c2 N3 _ λc4 N4 aw _=>⟨rF _,λ_=>?_⟩
  exact ae _ _ _ (by omega) (by omega) (by rw [<-O];rfl)
theorem zHZ:∀ {l:List D} {j:Nat} {x:D} {b:Nat},b∈zB (l.set j x)->b∈zB l\/b∈x.foot
 | [],j,x,b,h=>by simp [zB] at h
 | a::l,0,x,b,h=>by
   simp only [lG,zB,oF] at h ⊢
   rcases h with h | h
   ·exact .inr h
   ·exact .inl (.inr h)
 | a::l,j+1,x,b,h=>by
   simp only [List.set_cons_succ,zB,oF] at h ⊢
   rcases h with h | h
   ·exact .inl (.inl h)
   ·rcases zHZ h with h | h
    ·exact .inl (.inr h)
    ·exact .inr h
theorem zLJ {N N1 N2 N3:Nat} {x:D} (I:Own N2 N3 x) (h1:N<=N2) (h2:N1<=N2) (h3:N2<=N3):∀ {l:List D} {j:Nat},OwnL N N1 l->OwnL N N3 (l.set j x)
 | [],j,h=>by simp only [List.set_nil];exact h.mono (oA _) (by omega)
 | a::l,0,h=>by
   have J:=h.nd
   simp only [zB,oc] at J
   simp only [lG]
   refine ⟨?_,⟨I.fl,h.fl.2⟩,λb hb=>?_,λb hb=>?_⟩
   ·simp only [zB,oc]
    refine ⟨I.nd,J.2.1,λu hu v hv O=>?_⟩
    have:=I.lo u hu
    have:=h.hi v (by simp only [zB,oF];exact .inr hv)
    omega
   ·simp only [zB,oF] at hb
    rcases hb with hb | hb
    ·have:=I.lo b hb;omega
    ·exact h.lo b (by simp only [zB,oF];exact .inr hb)
   ·simp only [zB,oF] at hb
    rcases hb with hb | hb
    ·exact I.hi b hb
    ·have:=h.hi b (by simp only [zB,oF];exact .inr hb);omega
 | a :: l,j+1,h=>by
   have J:=h.nd
   simp only [zB,oc] at J
   have hl:OwnL N N1 l:=⟨J.2.1,h.fl.2,λb hb=>h.lo b (by simp only [zB,oF];exact .inr hb),λb hb=>h.hi b (by simp only [zB,oF];exact .inr hb)⟩
   have ih:=zLJ I h1 h2 h3 (l:=l) (j:=j) hl
   simp only [List.set_cons_succ]
   refine ⟨?_,⟨h.fl.1,ih.fl⟩,λb hb=>?_,λb hb=>?_⟩
   ·simp only [zB,oc]
    refine ⟨J.1,ih.nd,λu hu v hv O=>?_⟩
    rcases zHZ hv with hv | hv
    ·exact J.2.2 u hu v hv O
    ·have:=I.lo v hv
     have:=h.hi u (by simp only [zB,oF];exact .inl hu)
     omega
   ·simp only [zB,oF] at hb
    rcases hb with hb | hb
    ·exact h.lo b (by simp only [zB,oF];exact .inl hb)
    ·exact ih.lo b hb
   ·simp only [zB,oF] at hb
    rcases hb with hb | hb
    ·have:=h.hi b (by simp only [zB,oF];exact .inl hb);omega
    ·exact ih.hi b hb
theorem zA3:∀ {u v:List D},y7 (u++v)->y7 u/\y7 v
 | [],v,h=>⟨trivial,h⟩
 | x::u,v,h=>⟨⟨h.1,(zA3 h.2).1⟩,(zA3 h.2).2⟩
theorem zPU {N0 N1 N3:Nat} {hd es ds:List D} {a:Option Addr} {z c:Nat} (h:OwnL N0 N1 (hd++es)) (J:Fresh N0 N3 a (.ag es::(hd++ds))) (hN:N1<=N3):OwnL N0 N3 (hd++[.sl a z es c]):=by
 obtain ⟨aa,ab⟩:=zA3 h.fl
 have hn:=h.nd
 rw [zE,oc] at hn
 have e:zB (hd++[D.sl a z es c])=zB hd++(D.sl a z es c).foot:=by simp only [zE,zB,oY]
 have hE:∀ ad,a=some ad->ad.block∉zB es:=λad h=>J.ap ad h (.ag es) (by simp)
 have hH:∀ ad,a=some ad->ad.block∉zB hd:=λad h hc=>by
  obtain ⟨d,ac,hb⟩:=zF.1 hc
  exact J.ap ad h d (by simp [ac]) hb
 refine ⟨?_,xZ aa ⟨⟨λad h=>J.off ad h,ab⟩,trivial⟩,λb hb=>?_,λb hb=>?_⟩
 ·rw [e,oc]
  refine ⟨hn.1,zMX hn.2.1 hE,λx hx y hy ae=>?_⟩
  subst ae
  rcases w8 x hy with I | ⟨ad,I,O⟩
  ·exact hn.2.2 x hx x I rfl
  ·subst O;exact hH ad I hx
 ·rw [e] at hb
  rcases oF.1 hb with hb | hb
  ·exact h.lo b (by rw [zE];exact oV _ hb)
  ·rcases w8 b hb with I | ⟨ad,I,O⟩
   ·exact h.lo b (by rw [zE];exact oX _ I)
   ·subst O;exact J.lo ad I
 ·rw [e] at hb
  rcases oF.1 hb with hb | hb
  ·have:=h.hi b (by rw [zE];exact oV _ hb);omega
  ·rcases w8 b hb with I | ⟨ad,I,O⟩
   ·have:=h.hi b (by rw [zE];exact oX _ I);omega
   ·subst O;exact J.hi ad I
theorem zB5 {N N1 N2:Nat} {v0 v1 v2 v3:Value} {I J O x7:D} {es:List D} {a:Option Addr} {c:Nat} (h:OwnL N N1 ([I,J,O,x7]++es)) (hf:Fresh N N2 a [.ag es,I,J,O,x7]) (hN:N1<=N2):Own N N2 (.ag [.lit v0,.lit v1,.lit v2,.lit v3,I,J,O,x7,.sl a 9 es c]):=
 s9 (zR (zR (zR (zR (zPU (hd:=[I,J,O,x7]) (ds:=[]) h hf hN)))))
theorem zJ5 {α:Type} {R:α->D->Prop}:∀ {l:List α} {es:List D} {t:α} {d:D} {j:Nat},All2 R l es->R t d->All2 R (l.set j t) (es.set j d)
 | [],es,t,d,j,h,_=>by cases h;exact rfl
 | x::l,es,t,d,0,h,I=>by
   obtain ⟨y,ys,rfl,O,J⟩:=h
   exact ⟨_,_,rfl,I,J⟩
 | x::l,es,t,d,j+1,h,I=>by
   obtain ⟨y,ys,rfl,O,J⟩:=h
   exact ⟨_,_,rfl,O,zJ5 J I⟩
theorem zRY {α:Type} {T l:List α} {i:Nat} {t:α} (hT:T.length=l.length) (hi:i<l.length) (I:T[i]?=some t):(T.take i++l.drop i).set i t=T.take (i+1)++l.drop (i+1):=by
 have J:(T.take i).length=i:=by rw [o8];omega
 rw [lN _ _ (by omega),J,Nat.sub_self,mF hi,lG,xo I,o0]
 rfl
theorem zMm {s:ByteArray} (hs:s.size<=4611686018427387904):(zTs s).Is (.ag [.j 1,.t s,.t (bytes []),.j 0,.j 0,.sl none 2 [] 0,.j 0,.sl none 2 [] 0,.sl none 9 [] 0]):=
 Tm.is_mk.2 ⟨_,_,_,_,_,_,_,rfl,⟨hs,by decide,vP 0,vP 0⟩,by simp,rfl⟩
theorem zKl {N N':Nat} {v0 v1 v2 v3 v4 v6:Value}:Own N N' (.ag [.lit v0,.lit v1,.lit v2,.lit v3,.lit v4,.sl none 2 [] 0,.lit v6,.sl none 2 [] 0,.sl none 9 [] 0]):=
 s9 (zR (zR (zR (zR (zR (zCr (zR (zCr ⟨by simp [zB,D.foot],⟨⟨by simp,trivial⟩,trivial⟩,by simp [zB,D.foot],by simp [zB,D.foot]⟩))))))))
/-- a term of one's own, handed back -/
def zRc (f:FuncId) (args:List PV) (t:Tm):Prop:=∀ (N:Nat) (Q:QT [.ag 9]),(∀ d N',N<=N'->t.Is d->Own N N' d->Q d N')->ACalls prog f [.ag 9] args N Q
theorem zQ8 {p:Tm} {dp:D} (hp:p.Is dp) {w:ByteArray} (hw:w.size<=4611686018427387904) {ps:List ByteArray} (bc:ps.length<=2199023255552):∀ (t:Tm) (d:D),t.Is d->t.cnt<=1073741824->∀ (ar:List ByteArray),ar.length+t.cnt<=2199023255552->∀ (a J:Option Addr) (c O:Nat),
  zRc 47 [.sv a 0 (zA ps) c,.sv J 0 (zA ar) O,.dg 9 d,.dg 9 dp,.str w] (shd ps p w ar t):=by
 refine Tm.ind λk nm ot n0 ty re l ih d hd hc ar ha a J c O N Q hQ=>?_
 have ac:=hd
 have ak:=hc
 obtain ⟨t0,t1,r0,r1,a9,es,c9,rfl,hh,hlen,ae⟩:=Tm.is_mk.1 hd
 have hl:=ae.len
 have bd:=yg l
 simp only [Tm.cnt] at hc ha
 simp only [shd] at hQ
 have key:(zDQ ps ar (.mk k nm ot n0 ty re l)&&uc (.mk k nm ot n0 ty re l) p)=false->∀ N',N<=N' ->
   xH Q N a (zA ps) c J (zA ar) O w 0 0 a9 es c9 (es.length:Int) 0 (.ag [.j k,.t nm,.t ot,.j n0,t0,t1,r0,r1,.sl a9 9 es c9]) dp 0 (bytes []) (bytes []) 0 0 none [] 0 0 none [] 0 none [] 0 [] 0 N':=by
  intro hn N0 al
  rw [hn] at hQ
  have hQ:∀ d N',N<=N'->(Tm.mk k nm ot n0 ty re (zLc ps p w ar k nm 0 l)).Is d->Own N N' d->Q d N':=hQ
  refine up ae hlen (λi xs=>∀ (done:List D) (pre:List Tm) (q N':Nat),N<=N'->All2 Tm.Is pre done->OwnL N N' done->pre++zLc ps p w ar k nm i xs=zLc ps p w ar k nm 0 l->done.length=i ->
   xH Q N a (zA ps) c J (zA ar) O w done.length q a9 es c9 (es.length:Int) i (.ag [.j k,.t nm,.t ot,.j n0,t0,t1,r0,r1,.sl a9 9 es c9]) dp 0 (bytes []) (bytes []) 0 0 none [] 0 0 none [] 0 none [] 0 done q N') ?_ ?_ [] [] 0 N0 al rfl uv rfl rfl
  ·intro i am hi done pre q N' ao aa ho he ah
   refine pT _ _ _ _ _ _ _ _ _ _ _ _ _ _ _ _ _ _ _ _ _ _ _ _ _ _ _ _ _ _ _ _ _ _ _ _ ?_
   rw [am]
   simp only [zLc,oY] at he
   subst he
   refine ⟨⟨rfl,rfl⟩,λa1 bg _ N4 ab ai=>?_⟩
   refine zOq hh (by omega) (by omega) a1 done q N4 _ λx4 x5 x6 x7 N5 aq au aj _=>⟨rfl,?_⟩
   have off:∀ y∈[x4,x5,x6,x7],Off [a1] y:=λy hy J aw ad ax hc=>by
    have h1:=ai J aw ad ax
    have h2:=aj.lo _ (zF.2 ⟨y,hy,hc⟩)
    omega
   refine ⟨off x4 (by simp),off x5 (by simp),off x6 (by simp),off x7 (by simp),⟨rfl,rfl⟩,⟨rfl,rfl⟩,⟨rfl,rfl⟩,⟨rfl,rfl⟩,λa2 N7 ay hf N8 az=>?_⟩
   have hO:=zDP (N1:=N4) (aj.mono (oA _) (oA _)) (ho.mono (oA _) ab) (by omega) (by omega)
   exact hQ _ _ (by omega) (Tm.is_mk.2 ⟨_,_,_,_,_,_,_,rfl,au,by omega,aa⟩) ((zB5 hO hf (by omega)).mono (oA _) az)
  ·intro i x xs I _ a6 done pre q N' ao aa ho he ah
   have hb:=I.b
   have bh:=zn I.m
   have bi:(zBC ar k nm i).length<=ar.length+1:=by unfold zBC;split<;>simp
   refine pT _ _ _ _ _ _ _ _ _ _ _ _ _ _ _ _ _ _ _ _ _ _ _ _ _ _ _ _ _ _ _ _ _ _ _ _ ?_
   rw [I.lt]
   refine ⟨⟨by omega,by omega⟩,λN1 a7=>zO9 ar (by omega) i J O N1 _ λa2 c2 N2 a8 _ _ N3 ba=>?_⟩
   rw [oH,I.w]
   refine ih x I.m _ I.r (by omega) _ (by omega) a a2 c c2 N3 _ λdx N4 ab hx bb _ _=>⟨⟨rfl,rfl⟩,by unfold zC;rw [oE];simp only [oK,oO];omega,λc3=>?_⟩
   refine a6 _ (pre++[shd ps p w (zBC ar k nm i) x]) _ _ (by omega) (aa.snoc hx) ?_ (by rw [o0];exact he) (by simp [ah])
   exact (zm ho (zo (bb.mono (by omega) (oA _))) (N1:=N') (by omega) (by omega)).mono (oA _) (by omega)
 refine zIZ N a _ c J _ O _ dp w Q λ_ _ _ _ N1 a7=>zKx ac ak ps ar (by omega) (by omega) a J c O N1 _ λN2 a8 _=>Br.of (λh1 N3 ba=>qM _ _ _ _ ac hp N3 _ λN4 ab _=>Br.of (λh2 N5 aq=>zLZ N5 w _ λN6 bj _ _ N7 ay=>?_) λh2=>⟨_,_,_,rfl,?_⟩) λh1=>⟨_,_,_,rfl,?_⟩
 ·rw [h1,h2] at hQ
  exact hQ _ _ (by omega) (zMm hw) zKl
 ·exact key (by rw [h2,mf]) _ (by omega)
 ·exact key (by rw [h1,Bool.false_and]) _ (by omega)
theorem zKW {p:Tm} {w:ByteArray}:∀ (l:List Tm) (ar:List ByteArray) (k:Int) (nm:ByteArray) (i:Nat),(q8 p w ar k nm i l).length=l.length
 | [],_,_,_,_=>by simp [q8]
 | x::xs,ar,k,nm,i=>by simp only [q8,oK,zKW xs]
theorem zLY {p:Tm} {w:ByteArray}:∀ (l:List Tm) (ar:List ByteArray) (k:Int) (nm:ByteArray) (i j:Nat) (x:Tm),l[j]?=some x->(q8 p w ar k nm i l)[j]?=some (zQU p w (zBC ar k nm (i+j)) x)
 | [],_,_,_,_,j,x,h=>by simp at h
 | y::ys,ar,k,nm,i,0,x,h=>by simp at h;subst h;simp [q8]
 | y::ys,ar,k,nm,i,j+1,x,h=>by
   simp only [q8,nJ]
   rw [zLY ys ar k nm (i+1) j x (by simpa using h)]
   congr 2;congr 1;omega
theorem zQQ (ar:List ByteArray) (t:Tm):(t.fv.all λs=>decide (s∈t.fv)&&!decide (s∈ar))=zQZ ar t:=by
 unfold zQZ
 rw [nQ,oW,oW]
 constructor
 ·intro h s hs;exact (mK.1 (h s hs)).2
 ·intro h s hs;exact mK.2 ⟨by simpa using hs,h s hs⟩
theorem zQl {p:Tm} {dp:D} (hp:p.Is dp) {w:ByteArray} (hw:w.size<=4611686018427387904):∀ (t:Tm) (d:D),t.Is d->t.cnt<=1073741824->∀ (ar:List ByteArray),ar.length+t.cnt<=2199023255552->∀ (a':Option Addr) (c':Nat),
  zRc 39 [.dg 9 d,.dg 9 dp,.str w,.sv a' 0 (zA ar) c'] (zQU p w ar t):=by
 refine Tm.ind λk nm ot n0 ty re l ih d hd hc ar ha a' c' N Q hQ=>?_
 have aa:=hd
 have ao:=hc
 have bg:=(Tm.mk k nm ot n0 ty re l).vc_cnt
 have bh:=(Tm.mk k nm ot n0 ty re l).fv_len
 have hG:=Tm.G_cnt _ hc
 obtain ⟨t0,t1,r0,r1,a9,es,c9,rfl,hh,hlen,ai⟩:=Tm.is_mk.1 hd
 have hl:=ai.len
 have bi:=yg l
 have hT:=zKW (p:=p) (w:=w) l ar k nm 0
 simp only [Tm.cnt] at hc ha
 simp only [zQU] at hQ
 have key:(uc (.mk k nm ot n0 ty re l) p&&zQZ ar (.mk k nm ot n0 ty re l))=false->∀ (x4 x5 x6 x7:D) (es':List D) (c1 N':Nat),N<=N'->Tm.Hd nm ot ty re x4 x5 x6 x7->All2 Tm.Is l es'->OwnL N N' ([x4,x5,x6,x7]++es') ->
   xQ Q N w a' (zA ar) c' 0 (.ag [.j k,.t nm,.t ot,.j n0,t0,t1,r0,r1,.sl a9 9 es c9]) dp 0 (bytes []) (bytes []) 0 0 none [] 0 0 none [] 0 none [] 0 k nm ot n0 x4 x5 x6 x7 es'.length c1 es' c1 N':=by
  intro hn x4 x5 x6 x7 J c1 N0 aq ab I ac
  have bj:=I.len
  rw [hn] at hQ
  have hQ:∀ d N',N<=N'->(Tm.mk k nm ot n0 ty re (q8 p w ar k nm 0 l)).Is d->Own N N' d->Q d N':=hQ
  refine up ai hlen (λi xs=>∀ (rr:List D) (N':Nat),N<=N'->All2 Tm.Is ((q8 p w ar k nm 0 l).take i++l.drop i) rr->rr.length=J.length->OwnL N N' ([x4,x5,x6,x7]++rr) ->
   xQ Q N w a' (zA ar) c' i (.ag [.j k,.t nm,.t ot,.j n0,t0,t1,r0,r1,.sl a9 9 es c9]) dp 0 (bytes []) (bytes []) 0 0 none [] 0 0 none [] 0 none [] 0 k nm ot n0 x4 x5 x6 x7 J.length c1 rr c1 N') ?_ ?_ J N0 aq (by simpa using I) rfl ac
  ·intro i au hi rr N' aw ae aj ho
   refine qx _ _ _ _ _ _ _ _ _ _ _ _ _ _ _ _ _ _ _ _ _ _ _ _ _ _ _ _ _ _ _ _ _ _ _ _ _ ⟨_,_,_,rfl,?_⟩
   rw [au]
   rw [oi (by omega),mC (by omega),oY] at ae
   refine ⟨⟨by omega,rfl⟩,⟨by omega,rfl⟩,⟨by omega,rfl⟩,λa2 N7 ax hf N8 ak=>?_⟩
   exact hQ _ _ (by omega) (Tm.is_mk.2 ⟨_,_,_,_,_,_,_,rfl,ab,by omega,ae⟩) ((zB5 ho hf (by omega)).mono (oA _) ak)
  ·intro i x xs O _ ay rr N' aw ae aj ho
   have hb:=O.b
   have bm:=zn O.m
   have bn:(zB8 ar k nm i).length<=ar.length+1:=by
    unfold zB8
    split
    ·have:=uR ar [nm];simpa using this
    ·omega
   refine qx _ _ _ _ _ _ _ _ _ _ _ _ _ _ _ _ _ _ _ _ _ _ _ _ _ _ _ _ _ _ _ _ _ _ _ _ _ ⟨_,_,_,rfl,?_⟩
   rw [O.lt]
   refine ⟨_,_,_,rfl,⟨by omega,by omega⟩,λN1 az=>zHt ar (by omega) i a' c' N1 _ λa2 c2 N2 a6 _ _ N3 a7=>?_⟩
   rw [oH,O.w]
   refine ih x O.m _ O.r (by omega) _ (by omega) a2 c2 N3 _ λdx N4 a8 hx ba _ _=>⟨⟨by omega,by omega,by omega⟩,by omega,?_⟩
   have al:=zLY (p:=p) (w:=w) l ar k nm 0 i x O.g
   rw [o6,<-zHV x (λs=>zKb s)] at al
   rw [o6]
   refine ay _ _ (by omega) ?_ (by simp [aj]) ?_
   ·have:=zJ5 (j:=i) ae hx
    rwa [zRY hT (by omega) al] at this
   ·exact zLJ ba (by omega) (by omega) (by omega) (l:=[x4,x5,x6,x7]++rr) (j:=i+4) ho
 refine zI8 N _ dp w a' _ c' Q λ_ _ _ N1 az=>r7 _ _ _ _ aa hp N1 _ λN2 a6 _=>Br.of (λh1 N3 a7=>?_) λh1 bb bc=>?_
 ·refine qq _ _ aa (by omega) N3 _ λa1 c1 N4 a8 _ _ _ N5 bp=>zLG aa ao _ ar (by omega) (by omega) a1 a' c1 c' N5 _ λN6 bq _=>?_
  rw [zQQ]
  refine Br.of (λh2 N7 ax=>zKI N7 w _ λN8 ak _ _ N9 bt=>?_) λh2 N10 bd=>zGA _ _ aa hG N10 _ ?_
  ·rw [h1,h2] at hQ
   exact hQ _ _ (by omega) (zMm hw) zKl
  ·intro x4 x5 x6 x7 J c1 ah am ab I ac _ _
   exact key (by rw [h2,mf]) x4 x5 x6 x7 J c1 ah (by omega) ab I (ac.mono (by omega) (oA _))
 ·refine zGA _ _ aa hG bb _ ?_
  intro x4 x5 x6 x7 J c1 ah am ab I ac _ _
  exact key (by rw [h1,Bool.false_and]) x4 x5 x6 x7 J c1 ah (by omega) ab I (ac.mono (by omega) (oA _))
end Go.Proofs.YtlahkdflngobiaaGreatDoor
