/- Free names, fresh names, substitution: what they are (no program in sight). -/
import Derived.Test.YtmfjakahanbnlaaGreatDoorA5
import Derived.Lib.ItoaNum
import Derived.Test.YtmfjakahanbnlaaGreatDoorA6
import Derived.Test.YtmfjakahanbnlaaGreatDoorKu
set_option linter.unusedVariables false
set_option linter.unusedSimpArgs false
namespace Go.Proofs.YtmfjakahanbnlaaGreatDoor
open Go Go.Proofs Go.Proofs.Tryz Go.IntWalk
instance decMem (s:ByteArray) (l:List ByteArray):Decidable (s∈l):=decidable_of_iff ((l.any fun x=>decide (x=s))=true) (by simp)
/-- those of a list that are new go behind -/
def dd:List ByteArray->List ByteArray->List ByteArray
 | out,[]=>out
 | out,s::l=>dd (if s∈out then out else out++[s]) l
def s9 (a b:List ByteArray):List ByteArray:=dd (dd [] a) b
def tA (names l:List ByteArray):List ByteArray:=l.filter fun s=>decide (s∉names)
theorem zI5:∀ (out a b:List ByteArray),dd out (a++b)=dd (dd out a) b
 | out,[],b=>rfl
 | out,s::a,b=>by simp only [nY,dd];exact zI5 _ a b
theorem zCq:∀ (out l:List ByteArray),(dd out l).length<=out.length+l.length
 | out,[]=>by simp [dd]
 | out,s::l=>by
   simp only [dd]
   have:=zCq (if s∈out then out else out++[s]) l
   split at this<;>simp_all<;>omega
/-- different elements of a list are no more than the list has -/
theorem zGM:∀ {l m:List ByteArray},l.Nodup->(∀ x∈l,x∈m)->l.length<=m.length
 | [],m,_,_=>Nat.zero_le _
 | x::l,m,hn,hs=>by
   obtain ⟨h1,h2⟩:=nP.1 hn
   have hx:=hs x (by simp)
   have h3:=zGM (l:=l) (m:=m.filter fun y=>decide (y≠x)) h2 fun y hy=>by
    rw [nk]
    exact ⟨hs y (by simp [hy]),by simp;exact fun hc=>h1 (hc ▸ hy)⟩
   have h4:=List.length_filter_lt_length_iff_exists (p:=fun y=>decide (y≠x)).2 ⟨x,hx,by simp⟩
   simp only [oR]
   omega
def xL (k:Int) (n:Nat):Int:=if k=6/\n=1 then 0 else if k=8/\n=2 then 1 else if k=9/\n=1 then 0 else -1
def bdN (k:Int) (nm ot:ByteArray) (n:Nat):List ByteArray:=if k=6/\n=1 then [nm] else if k=8/\n=2 then [nm] else if k=9/\n=1 then [nm,ot] else []
theorem pP (k:Int) (nm ot:ByteArray) (n:Nat):(bdN k nm ot n).length<=2:=by unfold bdN;(repeat' split)<;>simp
mutual
def Tm.fv:Tm->List ByteArray
 | .mk k nm ot _ _ _ l=>if k=1 then [nm] else tS l (xL k l.length) (bdN k nm ot l.length) 0 []
def tS:List Tm->Int->List ByteArray->Nat->List ByteArray->List ByteArray
 | [],_,_,_,out=>out
 | x::xs,at_,ns,i,out=>tS xs at_ ns (i+1) (s9 out (if (i:Int)=at_ then tA ns x.fv else x.fv))
end
def zKA (k:Nat):ByteArray:=⟨(118::Lib.decDigits k).toArray⟩
theorem zJQ:∀ (a b:Nat),Lib.decDigits a=Lib.decDigits b->a=b:=by
 intro a
 have hn:∀ u,(Lib.decDigits u).length=Lib.nDigits u:=Lib.decDigits_length
 have e1:∀ u,u<10->Lib.decDigits u=[UInt8.ofNat (48+u)]:=fun u h=>by rw [Lib.decDigits,dif_pos h]
 have e2:∀ u,¬u<10->Lib.decDigits u=Lib.decDigits (u / 10)++[UInt8.ofNat (48+u % 10)]:=fun u h=>by rw [Lib.decDigits,dif_neg h]
 have u8:∀ x y:Nat,x<10->y<10->UInt8.ofNat (48+x)=UInt8.ofNat (48+y)->x=y:=fun x y hx hy h=>by
  have:=o9 UInt8.toNat h
  simp only [UInt8.toNat_ofNat'] at this
  omega
 induction a using Nat.strongRecOn with
 | _ a ih=>
   intro b h
   have hl:=o9 List.length h
   rw [hn,hn] at hl
   by_cases ha:a<10
   ·rw [Lib.nDigits_small ha] at hl
    have hb:b<10:=by
     refine mf fun hc=>?_
     rw [Lib.nDigits_big (by omega)] at hl
     have:=Lib.nDigits_pos (b / 10)
     omega
    rw [e1 a ha,e1 b hb] at h
    exact u8 a b ha hb (by simpa using h)
   ·have hb:¬b<10:=fun hc=>by
     rw [Lib.nDigits_big ha,Lib.nDigits_small hc] at hl
     have:=Lib.nDigits_pos (a / 10)
     omega
    rw [e2 a ha,e2 b hb] at h
    obtain ⟨h1,h2⟩:=List.append_inj' h rfl
    have:=ih (a / 10) (by omega) (b / 10) h1
    have:=u8 (a % 10) (b % 10) (by omega) (by omega) (by simpa using h2)
    omega
def zIv:Nat->Nat->List ByteArray->Nat
 | 0,k,_=>k
 | f+1,k,l=>if zKA k∈l then zIv f (k+1) l else k
def fresh (l:List ByteArray):ByteArray:=zKA (zIv l.length 1 l)
mutual
/-- types and rows of a term are not too long -/
def Tm.G:Tm->Prop
 | .mk _ _ _ _ ty re l=>ty.cnt<=1073741824/\re.cnt<=1073741824/\l.length<=1073741824/\zKw l
def zKw:List Tm->Prop
 | []=>True
 | t::ts=>t.G/\zKw ts
end
theorem uk:∀ {l:List Tm} {x:Tm},zKw l->x∈l->x.G
 | t::ts,x,h,hx=>by
   rcases oI.1 hx with rfl | hx
   ·exact h.1
   ·exact uk h.2 hx
mutual
theorem Tm.G_cnt:∀ t:Tm,t.cnt<=1073741824->t.G
 | .mk _ _ _ _ ty re l,h=>by
   simp only [Tm.cnt] at h
   have:=tH l
   exact ⟨by omega,by omega,by omega,zEX l (by omega)⟩
theorem zEX:∀ l:List Tm,z8 l<=1073741824->zKw l
 | [],_=>trivial
 | t::ts,h=>by
   simp only [z8] at h
   exact ⟨Tm.G_cnt t (by omega),zEX ts (by omega)⟩
end
/-- the cells of a term that was made anew, and nothing else -/
def zKm (t:Tm) (N:Nat) (Q:QT [.pk,.int .i64,.str,.str,.int .i64,.dc,.dc,.dc,.dc,.row 35 9]):Prop:=
 match t with | .mk k nm ot n ty re l=>∀ x4 x5 x6 x7 es' c' N',N<=N'->Tm.Hd nm ot ty re x4 x5 x6 x7->All2 Tm.Is l es'->OwnL N N' ([x4,x5,x6,x7]++es')->Q k nm ot n x4 x5 x6 x7 es' c' N'
theorem zCQ {N N3:Nat} {a:Option Addr} {ds:List D} {es:List D} (hf:Fresh N N3 a ds) (h:∀ b,b∈zM es->∃ d∈ds,b∈d.foot):∀ ad,a=some ad->ad.block∉zM es:=fun ad ha hc=>by
 obtain ⟨d,hd,hb⟩:=h _ hc
 exact hf.ap ad ha d hd hb
/-- a term's head anew; its parts are those handed in, and come back -/
theorem zJE {k:Int} {nm ot:ByteArray} {n0:Int} {ty re:Ty} {t0 t1 r0 r1 x:D} (hh:Tm.Hd nm ot ty re t0 t1 r0 r1) (h1:ty.cnt<=1073741824) (h2:re.cnt<=1073741824) (a:Option Addr) (es:List D) (c:Nat) (N:Nat)
  (Q:QT [.pk,.int .i64,.str,.str,.int .i64,.dc,.dc,.dc,.dc,.bk 1]) (hQ:∀ x4 x5 x6 x7 N',N<=N'->Tm.Hd nm ot ty re x4 x5 x6 x7->OwnL N N' [x4,x5,x6,x7]->Q k nm ot n0 x4 x5 x6 x7 (.sl a 9 es c) N') :
  ACalls prog 164 [.pk,.int .i64,.str,.str,.int .i64,.dc,.dc,.dc,.dc,.bk 1] [.dg 9 (.ag [.lit (.int .i64 k),.lit (.string nm),.lit (.string ot),.lit (.int .i64 n0),t0,t1,r0,r1,x]),.sv a 9 es c] N Q:=by
 refine rv N _ a es c Q fun _ _=>?_
 repeat' first|with_reducible intro _|simp only[Y1,Y2,Y3,Y4]|with_reducible refine X ?_ ?_|refine⟨_,_,_,rfl,?_⟩|refine⟨_,rfl,?_⟩|refine And.intro (by first|omega|trivial|(show _=_;rfl)|(with_reducible constructor)<;>first|omega|trivial|rfl) ?_|refine (zKE _ _ hh.ty h1) _ _ ?_|refine (zKE _ _ hh.re h2) _ _ ?_|fail
 rename_i N1 hN1 x1 N2 hN2 hx hox _ _ N3 hN3 y N4 hN4 hy hoy _ _ N5 hN5
 refine hQ _ _ _ _ _ (by omega) ⟨hh.nm,hh.ot,Ty.is_cells hx,Ty.is_cells hy⟩ ?_
 exact y3 ((sT hx hox).mono hN1 (oF _)) ((sT hy hoy).mono hN3 hN5) (by omega) (by omega)
theorem zIo:∀ (t:Tm) (d:D),t.Is d->t.G->∀ (N:Nat) (Q:QT [.pk,.int .i64,.str,.str,.int .i64,.dc,.dc,.dc,.dc,.row 35 9]),zKm t N Q ->
  ACalls prog 101 [.pk,.int .i64,.str,.str,.int .i64,.dc,.dc,.dc,.dc,.row 35 9] [.dg 9 d] N Q:=by
 refine Tm.ind fun k nm ot n0 ty re l ih d hd hG N Q hQ=>?_
 obtain ⟨t0,t1,r0,r1,a,es,c,rfl,hh,hlen,hes⟩:=Tm.is_mk.1 hd
 have hl:=hes.len
 obtain ⟨g1,g2,g3,g4⟩:=hG
 simp only [zKm] at hQ
 refine pX N _ Q fun _ N1 hN1=>?_
 refine v6 N1 _ _ fun _=>⟨_,_,_,rfl,?_⟩
 refine up hes hlen (fun i xs=>∀ (done:List D) (q N':Nat),N1<=N'->All2 Tm.Is (l.take i) done->done.length=i->OwnL N1 N' done ->
  zq _ N1 done.length q a es c es.length i (.ag [.lit (.int .i64 k),.lit (.string nm),.lit (.string ot),.lit (.int .i64 n0),t0,t1,r0,r1,.sl a 9 es c]) 0 (bytes []) (bytes []) 0 0 none [] 0 0 none [] 0 none [] 0 done q N') ?_ ?_ [] 0 N1 (oF _) rfl rfl zBI
 ·intro i hlt hi done q N' hN' hd hdl ho
  refine xp _ _ _ _ _ _ _ _ _ _ _ _ _ _ _ _ _ _ _ _ _ _ _ _ _ _ _ _ ?_
  rw [nH (by omega)] at hd
  rw [hlt]
  refine ⟨⟨rfl,rfl⟩,fun a1 hap _ N4 hN4 hbel=>?_⟩
  refine zJE hh g1 g2 a1 done q N4 _ fun x4 x5 x6 x7 N5 hN5 hh5 ho5 _=>⟨rfl,?_⟩
  have off:∀ y∈[x4,x5,x6,x7],Off [a1] y:=fun y hy a' ha' ad had hc=>by
   have h1:=hbel a' ha' ad had
   have h2:=ho5.lo _ (zD.2 ⟨y,hy,hc⟩)
   omega
  refine ⟨off x4 (by simp),off x5 (by simp),off x6 (by simp),off x7 (by simp),⟨rfl,rfl⟩,fun N6 hN6 _ _=>⟨⟨rfl,rfl⟩,fun N7 hN7=>?_⟩⟩
  exact hQ _ _ _ _ _ _ _ (by omega) hh5 hd (zCt (N1:=N4) (ho5.mono (oF _) (by omega)) (ho.mono hN1 hN4) (by omega) (by omega))
 ·intro i x xs hat _ ih2 done q N' hN' hd hdl ho
  have hb:=hat.b
  have hxG:=uk g4 hat.m
  refine xp _ _ _ _ _ _ _ _ _ _ _ _ _ _ _ _ _ _ _ _ _ _ _ _ _ _ _ _ ?_
  rw [hat.lt]
  refine ⟨⟨by omega,by omega⟩,fun N5 hN5=>?_⟩
  rw [oJ,hat.w]
  refine ih x hat.m _ hat.r hxG _ _ ?_
  cases x with
  | mk k2 nm2 ot2 n2 ty2 re2 l2=>
    intro x4 x5 x6 x7 es2 c2 N6 hN6 hh2 hes2 ho2 _ _
    have hl2:=hes2.len
    have hg2:=hxG.2.2.1
    refine ⟨⟨rfl,rfl⟩,fun a2 N7 hN7 hf=>⟨⟨rfl,rfl⟩,by unfold zC;rw [oH];simp only [oR,nN];omega,fun c3=>?_⟩⟩
    refine ih2 _ _ _ (by omega) (by rw [vq hat.g];exact hd.snoc (Tm.is_mk.2 ⟨_,_,_,_,_,_,_,rfl,hh2,by omega,hes2⟩)) (by simp [hdl]) ?_
    refine zKd (hd:=[]) (xs:=[x4,x5,x6,x7]) (ho.mono (oF _) hN5) ho2 hf (by omega) (by omega) (by omega) (zCQ hf fun b hb=>?_) (zCQ hf fun b hb=>?_)
    ·exact ⟨.ag done,by simp,by simpa only [D.foot,ou] using hb⟩
    ·simp only [nY,ou,zM,oO] at hb
     rcases hb with hb | hb | hb | hb | hb
     ·exact ⟨x4,by simp,hb⟩
     ·exact ⟨x5,by simp,hb⟩
     ·exact ⟨x6,by simp,hb⟩
     ·exact ⟨x7,by simp,hb⟩
     ·exact ⟨.ag es2,by simp,by simpa only [D.foot] using hb⟩
theorem wz:∀ l:List ByteArray,zM (zA l)=[]
 | []=>rfl
 | s::l=>by have:=wz l;simp only [zA,oq,zM,D.foot,ou] at this ⊢;exact this
theorem zAr:∀ l:List ByteArray,xU (zA l)
 | []=>trivial
 | s::l=>⟨trivial,zAr l⟩
theorem zFZ {N N':Nat} (l:List ByteArray):OwnL N N' (zA l):=⟨by rw [wz];exact mA,zAr l,by rw [wz];simp,by rw [wz];simp⟩
theorem xF {N N' M:Nat} {a:Option Addr} {l:List ByteArray} {c:Nat} {ds:List D} (hf:Fresh N N' a (.ag (zA l)::ds)) (h:N'<=M):Own N M (.sl a 0 (zA l) c):=(zDC (N1:=N') (zFZ l) hf (oF _)).mono (oF _) h
theorem qx {bs:List (Option Addr)} (l:List ByteArray):Off bs (.ag (zA l)):=fun a _ ad _ hc=>by simp only [D.foot,wz] at hc;simp at hc
/-- names, handed back as a row of their own -/
def zJq (f:FuncId) (args:List PV) (l:List ByteArray):Prop:=∀ (N:Nat) (Q:QT [.sl 0]),(∀ a c N',N<=N'->Own N N' (.sl a 0 (zA l) c)->Q a (zA l) c N')->ACalls prog f [.sl 0] args N Q
def zHi (f:FuncId) (args:List PV) (l:List ByteArray):Prop:=∀ (N:Nat) (Q:QT [.row 9 0]),(∀ c N',N<=N'->Q (zA l) c N')->ACalls prog f [.row 9 0] args N Q
theorem vN {l:List ByteArray} {s:ByteArray} (h:l.length<=8796093022207):zC (zA l) [.lit (.string s)] 16:=by
 unfold zC;rw [oH,zB];simp only [oR,nN];omega
theorem zB8 (l:List ByteArray) (hl:l.length<=2199023255552) (a:Option Addr) (c:Nat) (s:ByteArray):zJq 174 [.sv a 0 (zA l) c,.str s] (l.filter fun x=>decide (x≠s)):=fun N Q hQ=>by
 have hes:=yF l
 have hlen:(zA l).length<=4611686018427387904:=by rw [zB];omega
 refine tv N a _ c s Q fun _=>?_
 refine up hes hlen (fun i xs=>∀ (done:List ByteArray) (q N':Nat),N<=N'->done.length<=i->i<=l.length->done++xs.filter (fun x=>decide (x≠s))=l.filter (fun x=>decide (x≠s)) ->
  zf Q N a (zA l) c s (zA done).length q i (zA done) q N') ?_ ?_ [] 0 N (oF _) (by simp) (by omega) rfl
 ·intro i hlt hi done q N' hN' hdl hil hd
  refine xu _ _ _ _ _ _ _ _ _ _ _ _ ?_
  rw [hlt]
  rw [List.filter_nil,od] at hd
  subst hd
  exact ⟨⟨rfl,rfl⟩,⟨rfl,rfl⟩,⟨rfl,rfl⟩,fun a1 N1 hN1 hf N2 hN2=>hQ _ _ _ (by omega) (xF hf hN2)⟩
 ·intro i x xs hat _ ih2 done q N' hN' hdl hil hd
  have hb:=hat.b
  have hr:=hat.r
  have hlw:=zB l
  refine xu _ _ _ _ _ _ _ _ _ _ _ _ ?_
  rw [hat.lt,oJ,hr,hat.w]
  refine ⟨⟨by omega,by omega⟩,_,rfl,Br.nstr (fun h=>⟨⟨by omega,by omega⟩,_,rfl,⟨rfl,rfl⟩,vN (by omega),fun c1=>?_⟩) fun h=>?_⟩
  ·rw [yN]
   refine ih2 _ _ _ hN' (by simp;omega) (by omega) ?_
   rw [<-hd]
   simp [List.filter_cons,h]
  ·refine ih2 _ _ _ hN' (by omega) (by omega) ?_
   rw [<-hd]
   simp [List.filter_cons,h]
theorem zDf (s:ByteArray) (l:List ByteArray):decide (r8 (fun x=>decide (x=s)) l 0<0)=decide (s∉l):=by
 have h:=sC (fun x=>decide (x=s)) l 0 (by omega)
 rw [mG,mN,mN]
 have h2:(decide (r8 (fun x=>decide (x=s)) l 0≥0)=true)↔(l.any fun x=>decide (x=s))=true:=by rw [h]
 rw [mN] at h2
 simp only [List.any_eq_true,na,exists_eq_right] at h2
 constructor
 ·intro h3 h4;have:=h2.2 h4;omega
 ·intro h3;exact Int.not_le.1 fun h4=>h3 (h2.1 h4)
theorem rK {out xs:List ByteArray} {x:ByteArray}:dd out (x::xs)=dd (if x∈out then out else out++[x]) xs:=rfl
theorem zDo {out:List ByteArray} {x:ByteArray}:(if x∈out then out else out++[x]).length<=out.length+1:=by split<;>simp
theorem rB (l m:List ByteArray) (hl:l.length<=2199023255552) (hm:m.length<=2199023255552) (a b:Option Addr) (c c':Nat):zHi 175 [.sv a 0 (zA l) c,.sv b 0 (zA m) c'] (s9 l m):=fun N Q hQ=>by
 have hes:=yF l
 have hlen:(zA l).length<=4611686018427387904:=by rw [zB];omega
 have hms:=yF m
 have hmen:(zA m).length<=4611686018427387904:=by rw [zB];omega
 have hlw:=zB l
 have hmw:=zB m
 refine rG N a _ c b _ c' Q fun _ _=>?_
 have second:∀ (done:List ByteArray) (q N':Nat),N<=N'->done.length<=l.length->done=dd [] l->zW Q N b (zA m) c' (zA done).length q 0 (zA done) q N':=fun done0 q0 N0 hN0 hdl0 hd0=>
  up hms hmen (fun i xs=>∀ (done:List ByteArray) (q N':Nat),N<=N'->done.length<=l.length+i->dd done xs=s9 l m->zW Q N b (zA m) c' (zA done).length q i (zA done) q N')
   (fun i hlt hi done q N' hN' hdl hd=>by
    refine wF _ _ _ _ _ _ _ _ _ _ _ ?_
    rw [hlt]
    simp only [dd] at hd
    subst hd
    exact ⟨⟨rfl,rfl⟩,fun N2 hN2=>hQ _ _ (by omega)⟩)
   (fun i x xs hat _ ih2 done q N' hN' hdl hd=>by
    have hb:=hat.b
    have hr:=hat.r
    have hdl2:=zDo (out:=done) (x:=x)
    refine wF _ _ _ _ _ _ _ _ _ _ _ ?_
    rw [hat.lt,oJ,hr,hat.w]
    refine ⟨⟨by omega,by omega⟩,_,rfl,⟨rfl,rfl⟩,fun a1 _ N1 hN1 _=>wn done (by omega) a1 q x N1 _ fun N2 hN2 hle2=>?_⟩
    rw [zDf]
    refine Br.dec (fun h=>⟨⟨by omega,by omega⟩,_,rfl,⟨rfl,rfl⟩,vN (by omega),fun c1=>?_⟩) fun h=>?_
    ·rw [yN]
     rw [if_neg h] at hdl2
     refine ih2 _ _ _ (by omega) (by omega) ?_
     rw [<-hd,rK,if_neg h]
    ·refine ih2 _ _ _ (by omega) (by omega) ?_
     rw [<-hd,rK,if_pos (Decidable.not_not.1 h)]) done0 q0 N0 hN0 (by omega) (by rw [hd0];rfl)
 refine up hes hlen (fun i xs=>∀ (done:List ByteArray) (q N':Nat),N<=N'->done.length<=i->dd done xs=dd [] l ->
  zh Q N a (zA l) c b (zA m) c' (zA done).length q i (zA done) q N') ?_ ?_ [] 0 N (oF _) (by simp) rfl
 ·intro i hlt hi done q N' hN' hdl hd
  refine wL _ _ _ _ _ _ _ _ _ _ _ _ _ _ ?_
  rw [hlt]
  exact second done q N' hN' (by omega) hd
 ·intro i x xs hat _ ih2 done q N' hN' hdl hd
  have hb:=hat.b
  have hr:=hat.r
  have hdl2:=zDo (out:=done) (x:=x)
  refine wL _ _ _ _ _ _ _ _ _ _ _ _ _ _ ?_
  rw [hat.lt,oJ,hr,hat.w]
  refine ⟨⟨by omega,by omega⟩,_,rfl,⟨rfl,rfl⟩,fun a1 _ N1 hN1 _=>wn done (by omega) a1 q x N1 _ fun N2 hN2 hle2=>?_⟩
  rw [zDf]
  refine Br.dec (fun h=>⟨⟨by omega,by omega⟩,_,rfl,⟨rfl,rfl⟩,vN (by omega),fun c1=>?_⟩) fun h=>?_
  ·rw [yN]
   rw [if_neg h] at hdl2
   refine ih2 _ _ _ (by omega) (by omega) ?_
   rw [<-hd,rK,if_neg h]
  ·refine ih2 _ _ _ (by omega) (by omega) ?_
   rw [<-hd,rK,if_pos (Decidable.not_not.1 h)]
theorem zIm {N N' z c:Nat}:Own N N' (.sl none z [] c):=⟨by simp [D.foot,zM],⟨by simp,trivial⟩,by simp [D.foot,zM],by simp [D.foot,zM]⟩
theorem Qbd {Q:QT [.sl 0,.int .i64]} {a:Option Addr} {es es':List D} {c:Nat} {n n':Int} {N:Nat} (h:Q a es c n N) (e1:es=es') (e2:n=n'):Q a es' c n' N:=e1 ▸ e2 ▸ h
def zKi (f:FuncId) (args:List PV) (l:List ByteArray) (n:Int):Prop:=∀ (N:Nat) (Q:QT [.sl 0,.int .i64]),(∀ a c N',N<=N'->Own N N' (.sl a 0 (zA l) c)->Q a (zA l) c n N')->ACalls prog f [.sl 0,.int .i64] args N Q
theorem zHb {k n0:Int} {nm ot:ByteArray} {t0 t1 r0 r1:D} {a:Option Addr} {es:List D} {c n:Nat} (hn:es.length=n) :
  zKi 181 [.dg 9 (.ag [.lit (.int .i64 k),.lit (.string nm),.lit (.string ot),.lit (.int .i64 n0),t0,t1,r0,r1,.sl a 9 es c])] (bdN k nm ot n) (xL k n):=fun N Q hQ=>by
 subst hn
 have one:∀ (x:ByteArray) (m:Int),bdN k nm ot es.length=[x]->xL k es.length=m->((1:Nat)=([D.lit (.string x)]).length/\(1:Nat)=1)/\((1:Nat)=([D.lit (.string x)]).length/\(1:Nat)=1)/\∀ a1 N1,N<=N1->Fresh N N1 a1 [D.ag [D.lit (.string x)]]->∀ N2,N1<=N2->Q a1 [D.lit (.string x)] 1 m N2:=fun x m h1 h2=>
  ⟨⟨rfl,rfl⟩,⟨rfl,rfl⟩,fun a1 N1 hN1 hf N2 hN2=>Qbd (hQ a1 1 N2 (by omega) (by rw [h1];exact xF (l:=[x]) hf hN2)) (by rw [h1];rfl) h2⟩
 have two:bdN k nm ot es.length=[nm,ot]->xL k es.length=0->((2:Nat)=([D.lit (.string nm),D.lit (.string ot)]).length/\(2:Nat)=2)/\((2:Nat)=([D.lit (.string nm),D.lit (.string ot)]).length/\(2:Nat)=2)/\∀ a1 N1,N<=N1->Fresh N N1 a1 [D.ag [D.lit (.string nm),D.lit (.string ot)]]->∀ N2,N1<=N2->Q a1 [D.lit (.string nm),D.lit (.string ot)] 2 0 N2:=fun h1 h2=>
  ⟨⟨rfl,rfl⟩,⟨rfl,rfl⟩,fun a1 N1 hN1 hf N2 hN2=>Qbd (hQ a1 2 N2 (by omega) (by rw [h1];exact xF (l:=[nm,ot]) hf hN2)) (by rw [h1];rfl) h2⟩
 have nil:bdN k nm ot es.length=[]->xL k es.length = -1->∀ N1,N<=N1->Q none [] 0 (-1) N1:=fun h1 h2 N1 hN1=>Qbd (hQ none 0 N1 hN1 (by rw [h1];exact zIm)) (by rw [h1];rfl) h2
 refine zDA N _ Q fun _=>⟨_,rfl,Br.beq (fun h6=>⟨_,_,_,rfl,Br.beq (fun h1=>⟨_,rfl,?_⟩) fun h1=>?_⟩) fun h6=>?_⟩
 ·exact one _ _ (by unfold bdN;rw [if_pos ⟨h6,by omega⟩]) (by unfold xL;rw [if_pos ⟨h6,by omega⟩])
 ·refine ⟨_,rfl,Br.beq (fun h8=>by omega) fun h8=>⟨_,rfl,Br.beq (fun h9=>by omega) fun h9=>?_⟩⟩
  exact nil (by unfold bdN;rw [if_neg (by omega),if_neg (by omega),if_neg (by omega)]) (by unfold xL;rw [if_neg (by omega),if_neg (by omega),if_neg (by omega)])
 ·refine ⟨_,rfl,Br.beq (fun h8=>⟨_,_,_,rfl,Br.beq (fun h1=>⟨_,rfl,?_⟩) fun h1=>?_⟩) fun h8=>?_⟩
  ·exact one _ _ (by unfold bdN;rw [if_neg (by omega),if_pos ⟨h8,by omega⟩]) (by unfold xL;rw [if_neg (by omega),if_pos ⟨h8,by omega⟩])
  ·refine ⟨_,rfl,Br.beq (fun h9=>by omega) fun h9=>?_⟩
   exact nil (by unfold bdN;rw [if_neg (by omega),if_neg (by omega),if_neg (by omega)]) (by unfold xL;rw [if_neg (by omega),if_neg (by omega),if_neg (by omega)])
  ·refine ⟨_,rfl,Br.beq (fun h9=>⟨_,_,_,rfl,Br.beq (fun h1=>⟨_,rfl,_,rfl,?_⟩) fun h1=>?_⟩) fun h9=>?_⟩
   ·exact two (by unfold bdN;rw [if_neg (by omega),if_neg (by omega),if_pos ⟨h9,by omega⟩]) (by unfold xL;rw [if_neg (by omega),if_neg (by omega),if_pos ⟨h9,by omega⟩])
   ·exact nil (by unfold bdN;rw [if_neg (by omega),if_neg (by omega),if_neg (by omega)]) (by unfold xL;rw [if_neg (by omega),if_neg (by omega),if_neg (by omega)])
   ·exact nil (by unfold bdN;rw [if_neg (by omega),if_neg (by omega),if_neg (by omega)]) (by unfold xL;rw [if_neg (by omega),if_neg (by omega),if_neg (by omega)])
theorem pG {k n0:Int} {nm ot:ByteArray} {t0 t1 r0 r1:D} {a:Option Addr} {es:List D} {c n:Nat} (hn:es.length=n) :
  zKi 172 [.dg 9 (.ag [.lit (.int .i64 k),.lit (.string nm),.lit (.string ot),.lit (.int .i64 n0),t0,t1,r0,r1,.sl a 9 es c])] (bdN k nm ot n) (xL k n):=fun N Q hQ=>by
 subst hn
 have one:∀ (x:ByteArray) (m:Int),bdN k nm ot es.length=[x]->xL k es.length=m->((1:Nat)=([D.lit (.string x)]).length/\(1:Nat)=1)/\((1:Nat)=([D.lit (.string x)]).length/\(1:Nat)=1)/\∀ a1 N1,N<=N1->Fresh N N1 a1 [D.ag [D.lit (.string x)]]->∀ N2,N1<=N2->Q a1 [D.lit (.string x)] 1 m N2:=fun x m h1 h2=>
  ⟨⟨rfl,rfl⟩,⟨rfl,rfl⟩,fun a1 N1 hN1 hf N2 hN2=>Qbd (hQ a1 1 N2 (by omega) (by rw [h1];exact xF (l:=[x]) hf hN2)) (by rw [h1];rfl) h2⟩
 have two:bdN k nm ot es.length=[nm,ot]->xL k es.length=0->((2:Nat)=([D.lit (.string nm),D.lit (.string ot)]).length/\(2:Nat)=2)/\((2:Nat)=([D.lit (.string nm),D.lit (.string ot)]).length/\(2:Nat)=2)/\∀ a1 N1,N<=N1->Fresh N N1 a1 [D.ag [D.lit (.string nm),D.lit (.string ot)]]->∀ N2,N1<=N2->Q a1 [D.lit (.string nm),D.lit (.string ot)] 2 0 N2:=fun h1 h2=>
  ⟨⟨rfl,rfl⟩,⟨rfl,rfl⟩,fun a1 N1 hN1 hf N2 hN2=>Qbd (hQ a1 2 N2 (by omega) (by rw [h1];exact xF (l:=[nm,ot]) hf hN2)) (by rw [h1];rfl) h2⟩
 have nil:bdN k nm ot es.length=[]->xL k es.length = -1->((0:Nat)=0/\(0:Nat)=0)/\((0:Nat)=0/\(0:Nat)=0)/\∀ a1 N1,N<=N1->Fresh N N1 a1 [D.ag []]->∀ N2,N1<=N2->Q a1 [] 0 (-1) N2:=fun h1 h2=>
  ⟨⟨rfl,rfl⟩,⟨rfl,rfl⟩,fun a1 N1 hN1 hf N2 hN2=>Qbd (hQ a1 0 N2 (by omega) (by rw [h1];exact xF (l:=[]) hf hN2)) (by rw [h1];rfl) h2⟩
 refine zAD N _ Q fun _=>⟨_,rfl,Br.beq (fun h6=>⟨_,_,_,rfl,Br.beq (fun h1=>⟨_,rfl,?_⟩) fun h1=>?_⟩) fun h6=>?_⟩
 ·exact one _ _ (by unfold bdN;rw [if_pos ⟨h6,by omega⟩]) (by unfold xL;rw [if_pos ⟨h6,by omega⟩])
 ·refine ⟨_,rfl,Br.beq (fun h8=>by omega) fun h8=>⟨_,rfl,Br.beq (fun h9=>by omega) fun h9=>?_⟩⟩
  exact nil (by unfold bdN;rw [if_neg (by omega),if_neg (by omega),if_neg (by omega)]) (by unfold xL;rw [if_neg (by omega),if_neg (by omega),if_neg (by omega)])
 ·refine ⟨_,rfl,Br.beq (fun h8=>⟨_,_,_,rfl,Br.beq (fun h1=>⟨_,rfl,?_⟩) fun h1=>?_⟩) fun h8=>?_⟩
  ·exact one _ _ (by unfold bdN;rw [if_neg (by omega),if_pos ⟨h8,by omega⟩]) (by unfold xL;rw [if_neg (by omega),if_pos ⟨h8,by omega⟩])
  ·refine ⟨_,rfl,Br.beq (fun h9=>by omega) fun h9=>?_⟩
   exact nil (by unfold bdN;rw [if_neg (by omega),if_neg (by omega),if_neg (by omega)]) (by unfold xL;rw [if_neg (by omega),if_neg (by omega),if_neg (by omega)])
  ·refine ⟨_,rfl,Br.beq (fun h9=>⟨_,_,_,rfl,Br.beq (fun h1=>⟨_,rfl,_,rfl,?_⟩) fun h1=>?_⟩) fun h9=>?_⟩
   ·exact two (by unfold bdN;rw [if_neg (by omega),if_neg (by omega),if_pos ⟨h9,by omega⟩]) (by unfold xL;rw [if_neg (by omega),if_neg (by omega),if_pos ⟨h9,by omega⟩])
   ·exact nil (by unfold bdN;rw [if_neg (by omega),if_neg (by omega),if_neg (by omega)]) (by unfold xL;rw [if_neg (by omega),if_neg (by omega),if_neg (by omega)])
   ·exact nil (by unfold bdN;rw [if_neg (by omega),if_neg (by omega),if_neg (by omega)]) (by unfold xL;rw [if_neg (by omega),if_neg (by omega),if_neg (by omega)])
/-- a row made by append, cut to nothing -/
theorem zKj (n:Nat) (hn:n<=8796093022208) (N:Nat) (Q:QT [.row 9 0]) (hQ:∀ c N',N<=N'->Q [] c N'):ACalls prog 278 [.row 9 0] [.sv none 0 [] 0,.int .i64 n] N Q:=by
 have hw:IntKind.i64.wrap ((n:Int) - 0)=n:=by rw [Int.sub_zero];exact i64_in _ (by omega)
 refine sI N n Q fun _=>Br.dec (fun h=>by omega) fun _=>?_
 rw [hw]
 refine Br.dec (fun h=>⟨⟨by omega,by omega,by omega⟩,⟨by omega,by omega,by omega⟩,fun c=>⟨⟨by omega,by omega⟩,Nat.zero_le _,⟨rfl,rfl⟩,fun N1 hN1=>hQ c N1 hN1⟩⟩) fun h N1 hN1=>hQ 0 N1 hN1
def zFD:List (List ByteArray)->List ByteArray
 | []=>[]
 | l::ls=>l++zFD ls
def IsW (l:List ByteArray) (d:D):Prop:=∃ a c,d=.sl a 0 (zA l) c
theorem zFu (l m:List ByteArray):zA l++zA m=zA (l++m):=by simp [zA]
theorem zHr {ls:List (List ByteArray)} {es:List D} (hes:All2 IsW ls es) (hlen:es.length<=2199023255552) (hc:(zFD ls).length<=8796093022208) (a:Option Addr) (c:Nat):zJq 242 [.sv a 0 es c] (zFD ls):=fun N Q hQ=>by
 refine ur N a es c Q fun _=>?_
 have second:∀ (q N':Nat),N<=N'->zP Q N 0 q a es c (es.length:Int) 0 [] q N':=fun q0 N0 hN0=>
  up hes (by omega) (fun i xs=>∀ (done:List ByteArray) (q N':Nat),N<=N'->done++zFD xs=zFD ls->zP Q N (zA done).length q a es c (es.length:Int) i (zA done) q N')
   (fun i hlt hi done q N' hN' hd=>by
    refine xJ _ _ _ _ _ _ _ _ _ _ _ _ ?_
    rw [hlt]
    simp only [zFD,od] at hd
    subst hd
    exact ⟨⟨rfl,rfl⟩,⟨rfl,rfl⟩,⟨rfl,rfl⟩,fun a1 N1 hN1 hf N2 hN2=>hQ _ _ _ (by omega) (xF hf hN2)⟩)
   (fun i x xs hat _ ih2 done q N' hN' hd=>by
    have hb:=hat.b
    obtain ⟨a1,c1,hr⟩:=hat.r
    refine xJ _ _ _ _ _ _ _ _ _ _ _ _ ?_
    rw [hat.lt,oJ,hr,hat.w]
    have hl2:=o9 List.length hd
    simp only [zFD,oH] at hl2
    refine ⟨⟨by omega,by omega⟩,_,_,_,rfl,⟨rfl,rfl⟩,by unfold zC;rw [oH,zB,zB];omega,fun c2=>?_⟩
    rw [zFu]
    refine ih2 _ _ _ hN' ?_
    rw [<-hd]
    simp [zFD,nC]) [] q0 N0 hN0 rfl
 refine up hes (by omega) (fun i xs=>∀ (t:Nat) (N':Nat),N<=N'->t+(zFD xs).length=(zFD ls).length ->
  zj Q N a es c t a es c (es.length:Int) i N') ?_ ?_ 0 N (oF _) (by simp)
 ·intro i hlt hi t N' hN' ht
  refine xT _ _ _ _ _ _ _ _ _ _ _ _ ?_
  rw [hlt]
  simp only [zFD,nN] at ht
  exact fun N1 hN1=>zKj t (by omega) N1 _ fun c1 N2 hN2 _ _=>second c1 N2 (by omega)
 ·intro i x xs hat _ ih2 t N' hN' ht
  have hb:=hat.b
  obtain ⟨a1,c1,hr⟩:=hat.r
  refine xT _ _ _ _ _ _ _ _ _ _ _ _ ?_
  simp only [zFD,oH] at ht
  rw [hat.lt,oJ,hr,hat.w]
  have hw:IntKind.i64.wrap ((t:Int)+((zA x).length:Int))=((t+x.length:Nat):Int):=by rw [zB];rw [i64_in _ (by omega)];omega
  refine ⟨⟨by omega,by omega⟩,_,_,_,rfl,?_⟩
  rw [hw]
  exact Br.dec (fun h=>by omega) fun _=>ih2 _ _ hN' (by omega)
theorem zD5 (s:ByteArray) (l:List ByteArray):(l.any fun x=>decide (s=x))=decide (s∈l):=by
 rw [mG];simp
theorem vE (l m:List ByteArray) (hl:l.length<=2199023255552) (hm:m.length<=2199023255552) (a b:Option Addr) (c c':Nat):zHi 185 [.sv a 0 (zA l) c,.sv b 0 (zA m) c'] (s9 l m):=fun N Q hQ=>by
 refine sZ N a _ c b _ c' Q fun _ _=>⟨⟨rfl,rfl⟩,fun a1 _ N1 hN1 hbel=>?_⟩
 have hes:All2 IsW [l,m] [.sl a 0 (zA l) c,.sl b 0 (zA m) c']:=⟨_,_,rfl,⟨_,_,rfl⟩,_,_,rfl,⟨_,_,rfl⟩,rfl⟩
 have hcat:zFD [l,m]=l++m:=by simp [zFD]
 refine zHr hes (by simp) (by rw [hcat,oH];omega) a1 2 N1 _ fun a2 c2 N2 hN2 ho _=>⟨zJa hbel ho,fun _=>?_⟩
 rw [hcat]
 have hws:=yF (l++m)
 have hwl:=zB (l++m)
 rw [oH] at hwl
 refine up hws (by omega) (fun i xs=>∀ (done:List ByteArray) (q N':Nat),N<=N'->done.length<=i->dd done xs=s9 l m ->
  zi Q N (zA done).length q a2 (zA (l++m)) c2 ((zA (l++m)).length:Int) i (zA done) q N') ?_ ?_ [] 0 N2 (by omega) (by simp) (by unfold s9;rw [zI5])
 ·intro i hlt hi done q N' hN' hdl hd
  refine wQ _ _ _ _ _ _ _ _ _ _ _ _ ?_
  rw [hlt]
  simp only [dd] at hd
  subst hd
  exact ⟨⟨rfl,rfl⟩,fun N3 hN3=>hQ _ _ (by omega)⟩
 ·intro i x xs hat _ ih2 done q N' hN' hdl hd
  have hb:=hat.b
  have hr:=hat.r
  have hdl2:=zDo (out:=done) (x:=x)
  refine wQ _ _ _ _ _ _ _ _ _ _ _ _ ?_
  rw [hat.lt,oJ,hr,hat.w]
  refine ⟨⟨by omega,by omega⟩,_,rfl,⟨rfl,rfl⟩,fun a1 _ N1 hN1 _=>xc done (by omega) a1 q x N1 _ fun N2 hN2 hle2=>?_⟩
  rw [zD5]
  refine Br.ndec (fun h=>⟨⟨rfl,rfl⟩,vN (by omega),fun c1=>?_⟩) fun h=>?_
  ·rw [yN]
   rw [if_neg h] at hdl2
   refine ih2 _ _ _ (by omega) (by omega) ?_
   rw [<-hd,rK,if_neg h]
  ·refine ih2 _ _ _ (by omega) (by omega) ?_
   rw [<-hd,rK,if_pos h]
end Go.Proofs.YtmfjakahanbnlaaGreatDoor
