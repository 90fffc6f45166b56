/- Parameters: what they are; the laws' sizes, copies, equality and marks on them. -/
import Derived.Test.YtkdjhkfiolhkiaaGreatVv
import Derived.Test.YtkdjhkfiolhkiaaGreatWm
import Derived.Test.YtkdjhkfiolhkiaaGreatVn
set_option linter.unusedVariables false
set_option linter.unusedSimpArgs false
namespace Go.Proofs.YtkdjhkfiolhkiaaGreat
open Go Go.Proofs Go.Proofs.Tryz Go.IntWalk
structure Pm where
 nm:ByteArray
 ty:Ty
 dy:Bool
def Pm.Is (g:Pm) (d:D):Prop:=∃ t0 t1,d=.ag [.lit (.string g.nm),t0,t1,.lit (.bool g.dy)]/\g.nm.size<=4611686018427387904/\g.ty.Is (.ag [t0,t1])
structure Pms (g:List Pm) (es:List D):Prop where
 len:es.length<=4611686018427387904
 all:All2 Pm.Is g es
mutual
def Tm.sz:Tm->Nat
 | .mk _ _ _ _ _ _ l=>1+xT l
def xT:List Tm->Nat
 | []=>0
 | t::ts=>t.sz+xT ts
end
mutual
def Tm.dp:Tm->Nat
 | .mk _ _ _ _ _ _ l=>zBP l+1
def zBP:List Tm->Nat
 | []=>0
 | t::ts=>max t.dp (zBP ts)
end
mutual
theorem Tm.sz_cnt:∀ t:Tm,t.sz<=t.cnt
 | .mk _ _ _ _ ty re l=>by simp only [Tm.sz,Tm.cnt];have:=pA l;omega
theorem pA:∀ l:List Tm,xT l<=zJ l
 | []=>oF _
 | t::ts=>by simp only [xT,zJ];have:=t.sz_cnt;have:=pA ts;omega
end
mutual
theorem Tm.dp_cnt:∀ t:Tm,t.dp<=t.cnt
 | .mk _ _ _ _ ty re l=>by simp only [Tm.dp,Tm.cnt];have:=pR l;omega
theorem pR:∀ l:List Tm,zBP l<=zJ l
 | []=>oF _
 | t::ts=>by simp only [zBP,zJ];have:=t.dp_cnt;have:=pR ts;omega
end
/-- one form of a body's nodes -/
def zAe (k:Int):Bool:=inB k 1 5||k==8
mutual
def Tm.isB:Tm->Bool
 | .mk k _ _ _ _ _ l=>zKv l&&zAe k
def zKv:List Tm->Bool
 | []=>true
 | t::ts=>t.isB&&zKv ts
end
def Tm.vd (t:Tm):Bool:=decide (t.sz<=80)&&decide (t.dp<=20)&&t.ok
theorem qp:∀ (t:Tm) (d:D),t.Is d->∀ n:Int,0<=n->n<=1000->tz 170 [.dg 9 d,.int .i64 n] (if (t.sz:Int)<=n then n - t.sz else -1):=by
 refine Tm.ind fun k nm ot n0 ty re l ih d hd n hn0 hn1 N Q hQ=>?_
 obtain ⟨t0,t1,r0,r1,a,es,c,rfl,hh,hlen,hes⟩:=Tm.is_mk.1 hd
 refine zEx N _ n Q fun _=>?_
 have key:=up hes hlen (fun i xs=>∀ (m:Int) (N':Nat),N<=N' -> -1<=m->m<=1000->(∀ N'',N'<=N''->Q (if m<0 then -1 else if (xT xs:Int)<=m then m - xT xs else -1) N'') ->
  wK Q N m i (.ag [.lit (.int .i64 k),.lit (.string nm),.lit (.string ot),.lit (.int .i64 n0),t0,t1,r0,r1,.sl a 9 es c]) N') ?_ ?_
 ·rw [i64_in _ (by omega)]
  refine key (n - 1) N (oF _) (by omega) (by omega) fun N' hN'=>Qi (hQ N' hN') ?_
  simp only [Tm.sz]
  (repeat' split)<;>omega
 ·intro i hlt _ m N' hN' h1 h2 hQ'
  refine sc _ _ _ _ _ _ ?_
  repeat' first|with_reducible intro _|simp only[hlt,Y1,Y2,Y3,Y4]|with_reducible refine X ?_ ?_|refine⟨_,_,_,rfl,?_⟩|refine⟨_,rfl,?_⟩|refine And.intro (by first|omega|trivial|(show _=_;rfl)|(with_reducible constructor)<;>first|omega|trivial|rfl) ?_|fail
  refine Qi (hQ' _ (by assumption)) ?_
  simp only [xT]
  (repeat' split)<;>omega
 ·intro i x xs hat _ ih2 m N' hN' h1 h2 hQ'
  have hb:=hat.b
  refine sc _ _ _ _ _ _ ?_
  repeat' first|with_reducible intro _|simp only[hat.lt,hat.w,oG,Y1,Y2,Y3,Y4]|with_reducible refine X ?_ ?_|refine⟨_,_,_,rfl,?_⟩|refine⟨_,rfl,?_⟩|refine And.intro (by first|omega|trivial|(show _=_;rfl)|(with_reducible constructor)<;>first|omega|trivial|rfl) ?_|refine (ih x hat.m _ hat.r m (by omega) (by omega)) _ _ ?_|fail
  ·refine ih2 _ _ (by omega) (by split<;>omega) (by split<;>omega) fun N'' hN''=>Qi (hQ' N'' (by omega)) ?_
   simp only [xT]
   (repeat' split)<;>omega
  ·refine Qi (hQ' _ (by assumption)) ?_
   rw [if_pos (by omega)]
   omega
theorem zDS:∀ (t:Tm) (d:D),t.Is d->t.cnt<=1073741824->tz 171 [.dg 9 d] t.dp:=by
 refine Tm.ind fun k nm ot n0 ty re l ih d hd hc N Q hQ=>?_
 obtain ⟨t0,t1,r0,r1,a,es,c,rfl,hh,hlen,hes⟩:=Tm.is_mk.1 hd
 refine zDy N _ Q fun _=>?_
 simp only [Tm.cnt] at hc
 have hdl:=pR l
 have key:=up hes hlen (fun i xs=>∀ (m:Nat) (N':Nat),N<=N'->max m (zBP xs)=zBP l->xg Q N (m:Int) i (.ag [.lit (.int .i64 k),.lit (.string nm),.lit (.string ot),.lit (.int .i64 n0),t0,t1,r0,r1,.sl a 9 es c]) N') ?_ ?_
 ·exact key 0 N (oF _) (by omega)
 ·intro i hlt _ m N' hN' hm
  simp only [zBP] at hm
  refine te _ _ _ _ _ _ ?_
  repeat' first|with_reducible intro _|simp only[hlt,Y1,Y2,Y3,Y4]|with_reducible refine X ?_ ?_|refine⟨_,_,_,rfl,?_⟩|refine⟨_,rfl,?_⟩|refine And.intro (by first|omega|trivial|(show _=_;rfl)|(with_reducible constructor)<;>first|omega|trivial|rfl) ?_|fail
  rw [i64_in _ (by omega)]
  refine Qi (hQ _ (od hN' (by assumption))) ?_
  simp only [Tm.dp]
  omega
 ·intro i x xs hat _ ih2 m N' hN' hm
  have hb:=hat.b
  have hxc:=zP hat.m
  simp only [zBP] at hm
  refine te _ _ _ _ _ _ ?_
  repeat' first|with_reducible intro _|simp only[hat.lt,hat.w,oG,Y1,Y2,Y3,Y4]|with_reducible refine X ?_ ?_|refine⟨_,_,_,rfl,?_⟩|refine⟨_,rfl,?_⟩|refine And.intro (by first|omega|trivial|(show _=_;rfl)|(with_reducible constructor)<;>first|omega|trivial|rfl) ?_|refine (ih x hat.m _ hat.r (by omega)) _ _ ?_|refine (zA5 _ _) _ _ ?_|fail
  have e:max (m:Int) (x.dp:Int)=((max m x.dp:Nat):Int):=by omega
  rw [e]
  exact ih2 _ _ (by omega) (by omega)
theorem p9 (t:Tm) (d:D) (hd:t.Is d) (hc:t.cnt<=1073741824):wm 106 [.dg 9 d] t.vd:=fun N Q hQ=>by
 refine p4 N _ Q fun _=>?_
 by_cases h80:t.sz<=80
 ·have h1:((t.sz:Int)<=80):=by omega
  repeat' first|with_reducible intro _|simp only[if_pos h1,Y1,Y2,Y3,Y4]|with_reducible refine X ?_ ?_|refine⟨_,_,_,rfl,?_⟩|refine⟨_,rfl,?_⟩|refine And.intro (by first|omega|trivial|(show _=_;rfl)|(with_reducible constructor)<;>first|omega|trivial|rfl) ?_|refine (qp t d hd _ (by omega) (by omega)) _ _ ?_|refine (zDS t d hd hc) _ _ ?_|refine (zF8 t d hd hc) _ _ ?_|fail
  all_goals first | omega | skip
  ·have h8:t.dp<=20:=by omega
   refine Qb (hQ _ (by omega)) ?_;simp [Tm.vd, *]
  ·have h8:¬t.dp<=20:=by omega
   refine Qb (hQ _ (by omega)) ?_;simp [Tm.vd, *]
 ·have h1:¬((t.sz:Int)<=80):=by omega
  repeat' first|with_reducible intro _|simp only[if_neg h1,Y1,Y2,Y3,Y4]|with_reducible refine X ?_ ?_|refine⟨_,_,_,rfl,?_⟩|refine⟨_,rfl,?_⟩|refine And.intro (by first|omega|trivial|(show _=_;rfl)|(with_reducible constructor)<;>first|omega|trivial|rfl) ?_|refine (qp t d hd _ (by omega) (by omega)) _ _ ?_|fail
  all_goals first | omega | skip
  refine Qb (hQ _ (by omega)) ?_;simp [Tm.vd, *]
theorem zHB:∀ (t:Tm) (d:D),t.Is d->wm 140 [.dg 9 d] t.isB:=by
 refine Tm.ind fun k nm ot n0 ty re l ih d hd N Q hQ=>?_
 obtain ⟨t0,t1,r0,r1,a,es,c,rfl,hh,hlen,hes⟩:=Tm.is_mk.1 hd
 refine zHH N _ Q fun _=>?_
 have key:=up hes hlen (fun i xs=>∀ (N':Nat),N<=N'->(∀ N'',N'<=N''->Q (zKv xs&&zAe k) N'')->wb Q N i (.ag [.lit (.int .i64 k),.lit (.string nm),.lit (.string ot),.lit (.int .i64 n0),t0,t1,r0,r1,.sl a 9 es c]) N') ?_ ?_
 ·exact key N (oF _) hQ
 ·intro i hlt _ N' hN' hQ'
  refine ry _ _ _ _ _ ?_
  repeat' first|with_reducible intro _|simp only[hlt,Y1,Y2,Y3,Y4]|with_reducible refine X ?_ ?_|refine⟨_,_,_,rfl,?_⟩|refine⟨_,rfl,?_⟩|refine And.intro (by first|omega|trivial|(show _=_;rfl)|(with_reducible constructor)<;>first|omega|trivial|rfl) ?_|refine (xm _ _ _) _ _ ?_|fail
  all_goals (refine Qb (hQ' _ (by omega)) ?_;simp [zKv,zAe, *])
 ·intro i x xs hat _ ih2 N' hN' hQ'
  have hb:=hat.b
  refine ry _ _ _ _ _ ?_
  repeat' first|with_reducible intro _|simp only[hat.lt,hat.w,oG,Y1,Y2,Y3,Y4]|with_reducible refine X ?_ ?_|refine⟨_,_,_,rfl,?_⟩|refine⟨_,rfl,?_⟩|refine And.intro (by first|omega|trivial|(show _=_;rfl)|(with_reducible constructor)<;>first|omega|trivial|rfl) ?_|refine (ih x hat.m _ hat.r) _ _ ?_|fail
  ·refine Qb (hQ' _ (by omega)) ?_;simp [zKv, *]
  ·exact ih2 _ (by omega) fun N'' h=>Qb (hQ' N'' (by omega)) (by simp [zKv, *])
theorem zDa (l:List ByteArray) (hl:l.length<=4611686018427387904) (a:Option Addr) (c:Nat) (s:ByteArray):tz 22 [.sv a 0 (yg l) c,.str s] (zAM (fun x=>decide (x=s)) l 0):=fun N Q hQ=>by
 have hes:=zC1 l
 have hlen:(yg l).length<=4611686018427387904:=by rw [hes.len];exact hl
 refine zDf N a _ c s Q fun _=>?_
 refine up hes hlen (fun i xs=>∀ (N':Nat),N<=N'->(∀ N'',N'<=N''->Q (zAM (fun x=>decide (x=s)) xs i) N'')->xh Q N a (yg l) c s i N') ?_ ?_ N (oF _) hQ
 ·intro i hlt _ N' hN' hQ'
  refine tR _ _ _ _ _ _ _ _ ?_
  repeat' first|with_reducible intro _|simp only[hlt,Y1,Y2,Y3,Y4]|with_reducible refine X ?_ ?_|refine⟨_,_,_,rfl,?_⟩|refine⟨_,rfl,?_⟩|refine And.intro (by first|omega|trivial|(show _=_;rfl)|(with_reducible constructor)<;>first|omega|trivial|rfl) ?_|fail
  exact hQ' _ (by omega)
 ·intro i x xs hat _ ih2 N' hN' hQ'
  have hb:=hat.b
  have hr:=hat.r
  simp only [zAM] at hQ'
  refine tR _ _ _ _ _ _ _ _ ?_
  repeat' first|with_reducible intro _|simp only[hat.lt,hat.w,oG,hr,Y1,Y2,Y3,Y4]|with_reducible refine X ?_ ?_|refine⟨_,_,_,rfl,?_⟩|refine⟨_,rfl,?_⟩|refine And.intro (by first|omega|trivial|(show _=_;rfl)|(with_reducible constructor)<;>first|omega|trivial|rfl) ?_|fail
  ·rename_i h _ _;subst h;exact Qi (hQ' _ (by omega)) (by simp)
  ·rename_i h;exact ih2 _ hN' fun N'' h2=>Qi (hQ' _ h2) (by rw [if_neg (by simpa using h)];simp)
/-- the parameters are well formed, behind the names that were seen -/
def zDq:List ByteArray->List Pm->Bool
 | _,[]=>true
 | seen,p::ps=>uh p.nm&&(p.ty.base&&(!(seen.any fun x=>decide (x=p.nm))&&zDq (seen++[p.nm]) ps))
def zAf (g:List Pm):Bool:=zDq [] g&&decide (g.length<=5)
theorem zCf (l:List ByteArray) (s:ByteArray):yg l++[.lit (.string s)]=yg (l++[s]):=by simp [yg]
theorem rM (l:List ByteArray):(yg l).length=l.length:=by simp [yg]
theorem zBK {g:List Pm} {es:List D} (h:Pms g es) (hg:g.length<=1073741824) (a:Option Addr) (c:Nat):wm 139 [.sv a 4 es c] (zAf g):=fun N Q hQ=>by
 have hl:=h.all.len
 refine zBX N a es c Q fun _=>?_
 have key:=up h.all h.len (fun i xs=>∀ (seen:List ByteArray) (q:Nat) (N':Nat),N<=N'->seen.length=i->(∀ N'',N'<=N''->Q (zDq seen xs&&decide (g.length<=5)) N'')->y6 Q N a es c (yg seen).length q i (yg seen) q N') ?_ ?_
 ·exact key [] 0 N (oF _) rfl hQ
 ·intro i hlt hi seen q N' hN' hs hQ'
  refine vo _ _ _ _ _ _ _ _ _ _ _ ?_
  have e:(((yg seen).length:Nat):Int)=(g.length:Int):=by rw [rM];omega
  repeat' first|with_reducible intro _|simp only[hlt,e,Y1,Y2,Y3,Y4]|with_reducible refine X ?_ ?_|refine⟨_,_,_,rfl,?_⟩|refine⟨_,rfl,?_⟩|refine And.intro (by first|omega|trivial|(show _=_;rfl)|(with_reducible constructor)<;>first|omega|trivial|rfl) ?_|fail
  refine Qb (hQ' _ (by omega)) ?_
  rw [zDq,mV,mB,nq,nq]
  omega
 ·intro i x xs hat _ ih2 seen q N' hN' hs hQ'
  have hb:=hat.b
  have hm:=hat.m
  obtain ⟨t0,t1,hd,hnm,hty⟩:=hat.r
  simp only [zDq] at hQ'
  refine vo _ _ _ _ _ _ _ _ _ _ _ ?_
  repeat' first|with_reducible intro _|simp only[hat.lt,hat.w,oG,hd,Y1,Y2,Y3,Y4]|with_reducible refine X ?_ ?_|refine⟨_,_,_,rfl,?_⟩|refine⟨_,rfl,?_⟩|refine And.intro (by first|omega|trivial|(show _=_;rfl)|(with_reducible constructor)<;>first|omega|trivial|rfl) ?_|refine (tK x.nm hnm) _ _ ?_|refine (tE x.ty _ hty) _ _ ?_|refine (zDa seen (by omega) _ _ x.nm) _ _ ?_|fail
  ·refine Qb (hQ' _ (by omega)) ?_;simp [*]
  ·refine Qb (hQ' _ (by omega)) ?_;simp [*]
  ·rename_i hx _ _
   have:=vz (fun y=>decide (y=x.nm)) seen 0 (by omega)
   rw [nY hx] at this
   refine Qb (hQ' _ (by omega)) ?_
   rw [<-this];simp
  ·rename_i hx
   have:=vz (fun y=>decide (y=x.nm)) seen 0 (by omega)
   rw [mi hx] at this
   refine ⟨by unfold zA;rw [oK,rM];simp only [oH,oN];omega,fun c1=>?_⟩
   rw [zCf]
   refine ih2 (seen++[x.nm]) _ _ (by omega) (by simp [hs]) fun N'' h=>Qb (hQ' N'' (by omega)) ?_
   rw [<-this];clear this;simp [*]
def xI (g:List Pm):List Tg:=g.map fun p=>⟨p.nm,p.ty,0⟩
theorem vS (g:List Pm):(xI g).length=g.length:=by simp [xI]
theorem tB {g:List Pm} {es:List D} (h:Pms g es) (hg:g.length<=1073741824) (a:Option Addr) (c:Nat) (N:Nat) (Q:QT [.sl 4])
  (hQ:∀ a' es' c' N',N<=N'->Ctx (xI g) es'->Q a' es' c' N'):ACalls prog 87 [.sl 4] [.sv a 4 es c] N Q:=by
 have hl:=h.all.len
 refine zGE N a es c Q fun _=>?_
 have key:=up h.all h.len (fun i xs=>∀ (done:List D) (q:Nat) (N':Nat),N<=N'->All2 Tg.Is ((xI g).take i) done->done.length=i->wE Q N a es c done.length q i done q N') ?_ ?_
 ·exact key [] 0 N (oF _) rfl rfl
 ·intro i hlt hi done q N' hN' hd hs
  refine sg _ _ _ _ _ _ _ _ _ _ _ ?_
  rw [oY (by rw [vS];omega)] at hd
  repeat' first|with_reducible intro _|simp only[hlt,Y1,Y2,Y3,Y4]|with_reducible refine X ?_ ?_|refine⟨_,_,_,rfl,?_⟩|refine⟨_,rfl,?_⟩|refine And.intro (by first|omega|trivial|(show _=_;rfl)|(with_reducible constructor)<;>first|omega|trivial|rfl) ?_|fail
  exact hQ _ _ _ _ (by omega) ⟨by omega,hd⟩
 ·intro i x xs hat _ ih2 done q N' hN' hd hs
  have hb:=hat.b
  have hm:=hat.m
  obtain ⟨t0,t1,hd',hnm,hty⟩:=hat.r
  refine sg _ _ _ _ _ _ _ _ _ _ _ ?_
  have hat2:(xI g)[i]?=some ⟨x.nm,x.ty,0⟩:=by rw [xI,oE,hat.g];rfl
  repeat' first|with_reducible intro _|simp only[hat.lt,hat.w,oG,hd',Y1,Y2,Y3,Y4]|with_reducible refine X ?_ ?_|refine⟨_,_,_,rfl,?_⟩|refine⟨_,rfl,?_⟩|refine And.intro (by first|omega|trivial|(show _=_;rfl)|(with_reducible constructor)<;>first|omega|trivial|rfl) ?_|fail
  refine ⟨by unfold zA;rw [oK];simp only [oH,oN];omega,fun c1=>?_⟩
  exact ih2 _ _ _ hN' (by rw [zY hat2];exact hd.snoc ⟨_,_,rfl,hnm,hty⟩) (by simp [hs])
/-- a body's type, or none -/
def yd (g:List Pm) (e:Tm):Option Ty:=if zAf g=true/\e.vd=true/\e.isB=true then e.type (xI g) 0 else none
theorem zC2:∀ {g:List Pm} {seen:List ByteArray} {x:Pm},zDq seen g=true->x∈g->uh x.nm=true/\x.ty.base=true
 | p::ps,seen,x,h,hx=>by
   simp only [zDq,oI] at h
   rcases oJ.1 hx with rfl | hx
   ·exact ⟨h.1,h.2.1⟩
   ·exact zC2 h.2.2.2 hx
theorem zEP {t:Ty} (h:t.base=true):t.valid=true/\t.cnt=1:=by
 cases t with
 | mk k l=>
   simp only [Ty.base,Ty.k,Ty.as,oI,nU,np] at h
   have hl:l=[]:=oR (by omega)
   subst hl
   refine ⟨?_,rfl⟩
   simp only [Ty.valid,Ty.cnt,zO,Ty.dep,uo,Ty.form,uJ,rV]
   rcases h.1 with rfl | rfl<;>decide
mutual
theorem zIU:∀ t:Tm,t.isB=true->t.lev 0=true
 | .mk k _ _ _ _ _ l,h=>by
   simp only [Tm.isB,oI,zAe,nU,yG,np] at h
   have e:zw k 0=0:=by unfold zw;rw [if_neg (by omega),if_neg (by omega)]
   simp only [Tm.lev,e,zJr l h.1,Bool.and_true];decide
theorem zJr:∀ l:List Tm,zKv l=true->rg l 0=true
 | [],_=>rfl
 | t::ts,h=>by
   simp only [zKv,oI] at h
   simp only [rg,zIU t h.1,zJr ts h.2,Bool.and_true]
end
theorem zH0 {g:List Pm} {x:Tg} (h:x∈xI g):∃ p∈g,x=⟨p.nm,p.ty,0⟩:=by
 obtain ⟨p,hp,rfl⟩:=oS.1 h
 exact ⟨p,hp,rfl⟩
theorem zJb {g:List Pm} {e:Tm} (hp:zAf g=true) (hv:e.vd=true) (hb:e.isB=true) (hc:e.cnt<=536870000):Pre (xI g) e 0:=by
 simp only [zAf,oI,nE] at hp
 simp only [Tm.vd,oI] at hv
 refine ⟨hv.2,zIU e hb,by rw [vS];omega,fun x hx=>?_⟩
 obtain ⟨p,hpg,rfl⟩:=zH0 hx
 have:=(zEP (zC2 hp.1 hpg).2).2
 show p.ty.cnt<=64
 omega
theorem sq {g:List Pm} {es:List D} (h:Pms g es) (hg:g.length<=1073741824) {e:Tm} {d:D} (he:e.Is d) (hc:e.cnt<=536870000) (a:Option Addr) (c:Nat):zO6 68 [.sv a 4 es c,.dg 9 d] (yd g e):=fun N Q hQ=>by
 refine zC6 N a es c d Q fun _ _=>?_
 repeat' first|with_reducible intro _|simp only[Y1,Y2,Y3,Y4]|with_reducible refine X ?_ ?_|refine⟨_,_,_,rfl,?_⟩|refine⟨_,rfl,?_⟩|refine And.intro (by first|omega|trivial|(show _=_;rfl)|(with_reducible constructor)<;>first|omega|trivial|rfl) ?_|refine (zBK h hg a c) _ _ ?_|refine (p9 e d he (by omega)) _ _ ?_|refine (zHB e d he) _ _ ?_|refine (tB h hg a c) _ _ ?_|fail
 ·rw [show yd g e=none by unfold yd;rw [if_neg (by simp [*])]] at hQ
  exact hQ _ _ (by omega) (xV 0)
 ·rw [show yd g e=none by unfold yd;rw [if_neg (by simp [*])]] at hQ
  exact hQ _ _ (by omega) (xV 0)
 ·rw [show yd g e=none by unfold yd;rw [if_neg (by simp [*])]] at hQ
  exact hQ _ _ (by omega) (xV 0)
 ·have hp:zAf g=true:=by assumption
  have hv:e.vd=true:=by assumption
  have hb:e.isB=true:=by assumption
  rw [show yd g e=e.type (xI g) 0 by unfold yd;rw [if_pos ⟨hp,hv,hb⟩]] at hQ
  exact tF e d he _ _ _ _ _ (zJb hp hv hb hc) (by assumption) _ _ fun x N4 hN4 hx _ _ N5 hN5=>hQ _ _ (by omega) hx
theorem zAA:∀ (t:Tm) (d:D),t.Is d->t.cnt<=1073741824->tz 84 [.dg 9 d] t.sz:=by
 refine Tm.ind fun k nm ot n0 ty re l ih d hd hc N Q hQ=>?_
 obtain ⟨t0,t1,r0,r1,a,es,c,rfl,hh,hlen,hes⟩:=Tm.is_mk.1 hd
 simp only [Tm.cnt] at hc
 have hsl:=pA l
 refine zFk N _ Q fun _=>⟨_,_,_,rfl,?_⟩
 refine up hes hlen (fun i xs=>∀ (m:Nat) (N':Nat),N<=N'->m+xT xs=1+xT l->xw Q N m a es c es.length i N') ?_ ?_ 1 N (oF _) rfl
 ·intro i hlt _ m N' hN' hm
  refine t6 _ _ _ _ _ _ _ _ _ ?_
  simp only [xT] at hm
  repeat' first|with_reducible intro _|simp only[hlt,Y1,Y2,Y3,Y4]|with_reducible refine X ?_ ?_|refine⟨_,_,_,rfl,?_⟩|refine⟨_,rfl,?_⟩|refine And.intro (by first|omega|trivial|(show _=_;rfl)|(with_reducible constructor)<;>first|omega|trivial|rfl) ?_|fail
  exact Qi (hQ _ (by omega)) (by simp only [Tm.sz];omega)
 ·intro i x xs hat _ ih2 m N' hN' hm
  have hb:=hat.b
  have hxc:=zP hat.m
  simp only [xT] at hm
  refine t6 _ _ _ _ _ _ _ _ _ ?_
  repeat' first|with_reducible intro _|simp only[hat.lt,hat.w,oG,Y1,Y2,Y3,Y4]|with_reducible refine X ?_ ?_|refine⟨_,_,_,rfl,?_⟩|refine⟨_,rfl,?_⟩|refine And.intro (by first|omega|trivial|(show _=_;rfl)|(with_reducible constructor)<;>first|omega|trivial|rfl) ?_|refine (ih x hat.m _ hat.r (by omega)) _ _ ?_|fail
  rw [i64_in _ (by omega)]
  exact ih2 (m+x.sz) _ (by omega) (by omega)
theorem zDG:∀ (t:Tm) (d:D),t.Is d->t.cnt<=1073741824->tz 169 [.dg 9 d] t.dp:=by
 refine Tm.ind fun k nm ot n0 ty re l ih d hd hc N Q hQ=>?_
 obtain ⟨t0,t1,r0,r1,a,es,c,rfl,hh,hlen,hes⟩:=Tm.is_mk.1 hd
 simp only [Tm.cnt] at hc
 have hdl:=pR l
 refine zDZ N _ Q fun _=>⟨_,_,_,rfl,?_⟩
 refine up hes hlen (fun i xs=>∀ (m:Nat) (N':Nat),N<=N'->max m (zBP xs)=zBP l->xc Q N m a es c es.length i N') ?_ ?_ 0 N (oF _) (by omega)
 ·intro i hlt _ m N' hN' hm
  refine tU _ _ _ _ _ _ _ _ _ ?_
  simp only [zBP] at hm
  repeat' first|with_reducible intro _|simp only[hlt,Y1,Y2,Y3,Y4]|with_reducible refine X ?_ ?_|refine⟨_,_,_,rfl,?_⟩|refine⟨_,rfl,?_⟩|refine And.intro (by first|omega|trivial|(show _=_;rfl)|(with_reducible constructor)<;>first|omega|trivial|rfl) ?_|fail
  rw [i64_in _ (by omega)]
  exact Qi (hQ _ (by omega)) (by simp only [Tm.dp];omega)
 ·intro i x xs hat _ ih2 m N' hN' hm
  have hb:=hat.b
  have hxc:=zP hat.m
  simp only [zBP] at hm
  refine tU _ _ _ _ _ _ _ _ _ ?_
  repeat' first|with_reducible intro _|simp only[hat.lt,hat.w,oG,Y1,Y2,Y3,Y4]|with_reducible refine X ?_ ?_|refine⟨_,_,_,rfl,?_⟩|refine⟨_,rfl,?_⟩|refine And.intro (by first|omega|trivial|(show _=_;rfl)|(with_reducible constructor)<;>first|omega|trivial|rfl) ?_|refine (ih x hat.m _ hat.r (by omega)) _ _ ?_|fail
  have e:(if (x.dp:Int)>(m:Int) then (x.dp:Int) else (m:Int))=((max m x.dp:Nat):Int):=by split<;>omega
  rw [e]
  exact ih2 (max m x.dp) _ (by omega) (by omega)
theorem p7 (t:Tm) (d:D) (hd:t.Is d) (hc:t.cnt<=1073741824):wm 105 [.dg 9 d] t.vd:=fun N Q hQ=>by
 refine pY N _ Q fun _=>?_
 repeat' first|with_reducible intro _|simp only[Y1,Y2,Y3,Y4]|with_reducible refine X ?_ ?_|refine⟨_,_,_,rfl,?_⟩|refine⟨_,rfl,?_⟩|refine And.intro (by first|omega|trivial|(show _=_;rfl)|(with_reducible constructor)<;>first|omega|trivial|rfl) ?_|refine (p3 t d hd hc) _ _ ?_|refine (zAA t d hd hc) _ _ ?_|refine (zDG t d hd hc) _ _ ?_|fail
 ·have h8:t.sz<=80:=by omega
  refine Qb (hQ _ (by omega)) ?_
  have:decide ((t.dp:Int)<=20)=decide (t.dp<=20):=by rw [mB,nq,nq];omega
  simp [Tm.vd, *]
 ·have h8:¬t.sz<=80:=by omega
  refine Qb (hQ _ (by omega)) ?_;simp [Tm.vd, *]
 ·refine Qb (hQ _ (by omega)) ?_;simp [Tm.vd, *]
theorem zGg (t:Tm) (d:D) (hd:t.Is d):wm 134 [.dg 9 d] (match t with | .mk k _ _ _ _ _ _=>zAe k):=fun N Q hQ=>by
 cases t with
 | mk k nm ot n0 ty re l=>
 obtain ⟨t0,t1,r0,r1,a,es,c,rfl,hh,hlen,hes⟩:=Tm.is_mk.1 hd
 refine zAu N _ Q fun _=>?_
 repeat' first|with_reducible intro _|simp only[Y1,Y2,Y3,Y4]|with_reducible refine X ?_ ?_|refine⟨_,_,_,rfl,?_⟩|refine⟨_,rfl,?_⟩|refine And.intro (by first|omega|trivial|(show _=_;rfl)|(with_reducible constructor)<;>first|omega|trivial|rfl) ?_|refine (zq _ _ _) _ _ ?_|fail
 all_goals (refine Qb (hQ _ (by omega)) ?_;simp [zAe, *])
theorem zBI {p:Tm->Bool} {l:List Tm} {es:List D} (h:All2 Tm.Is l es) (hlen:es.length<=4611686018427387904) (ad:Addr) (hp:∀ x∈l,∀ d,x.Is d->wm 189 [.dg 9 d,.pd ad 0 (.fn 134 [])] (p x)) (a:Option Addr) (c:Nat) :
  wm 188 [.sv a 9 es c,.fn 189 [.pd ad 0 (.fn 134 [])]] (l.any p):=fun N Q hQ=>by
 have hi:tz 236 [.sv a 9 es c,.fn 189 [.pd ad 0 (.fn 134 [])]] (zAM p l 0):=fun N Q hQ=>by
  refine vF N a es c ad Q fun _=>?_
  refine up h hlen (fun i xs=>∀ (N':Nat),N<=N'->(∀ N'',N'<=N''->Q (zAM p xs i) N'')->zl Q N a es c ad es.length i N') ?_ ?_ N (oF _) hQ
  ·intro i hlt _ N' hN' hQ'
   refine xP _ _ _ _ _ _ _ _ _ ?_
   repeat' first|with_reducible intro _|simp only[hlt,Y1,Y2,Y3,Y4]|with_reducible refine X ?_ ?_|refine⟨_,_,_,rfl,?_⟩|refine⟨_,rfl,?_⟩|refine And.intro (by first|omega|trivial|(show _=_;rfl)|(with_reducible constructor)<;>first|omega|trivial|rfl) ?_|fail
   exact hQ' _ (by omega)
  ·intro i x xs hat _ ih2 N' hN' hQ'
   have hb:=hat.b
   simp only [zAM] at hQ'
   refine xP _ _ _ _ _ _ _ _ _ ?_
   repeat' first|with_reducible intro _|simp only[hat.lt,hat.w,oG,Y1,Y2,Y3,Y4]|with_reducible refine X ?_ ?_|refine⟨_,_,_,rfl,?_⟩|refine⟨_,rfl,?_⟩|refine And.intro (by first|omega|trivial|(show _=_;rfl)|(with_reducible constructor)<;>first|omega|trivial|rfl) ?_|refine (hp x hat.m _ hat.r) _ _ ?_|fail
   ·exact Qi (hQ' _ (by omega)) (by rw [if_pos (by assumption)])
   ·rename_i h;exact ih2 _ (by omega) fun N'' h2=>Qi (hQ' _ (by omega)) (by rw [h];simp)
 refine wg N a es c ad Q fun _=>?_
 repeat' first|with_reducible intro _|simp only[Y1,Y2,Y3,Y4]|with_reducible refine X ?_ ?_|refine⟨_,_,_,rfl,?_⟩|refine⟨_,rfl,?_⟩|refine And.intro (by first|omega|trivial|(show _=_;rfl)|(with_reducible constructor)<;>first|omega|trivial|rfl) ?_|refine hi _ _ ?_|fail
 exact Qb (hQ _ (by omega)) (vz _ l 0 (by omega)).symm
theorem zJD:∀ l:List Tm,zKv l=!(l.any fun x=>!x.isB)
 | []=>rfl
 | t::ts=>by simp only [zKv,mN,zJD ts];cases t.isB<;>simp
theorem zI3:∀ (t:Tm) (d:D),t.Is d->wm 133 [.dg 9 d,.fn 134 []] t.isB:=by
 refine Tm.ind fun k nm ot n ty re l ih d hd N Q hQ=>?_
 have hb:=zGg _ d hd
 obtain ⟨t0,t1,r0,r1,a,es,c,rfl,hh,hlen,hes⟩:=Tm.is_mk.1 hd
 simp only at hb
 refine qa N _ Q fun _=>?_
 simp only [Tm.isB,zJD] at hQ
 repeat' first|with_reducible intro _|simp only[Y1,Y2,Y3,Y4]|with_reducible refine X ?_ ?_|refine⟨_,_,_,rfl,?_⟩|refine⟨_,rfl,?_⟩|refine And.intro (by first|omega|trivial|(show _=_;rfl)|(with_reducible constructor)<;>first|omega|trivial|rfl) ?_|refine hb _ _ ?_|refine (zBI hes hlen _ (fun x hx d hd=>fun N Q hQ=>sk N d _ Q fun _ N1 hN1=>ih x hx d hd N1 _ fun N2 hN2 hle N3 hN3=>hQ N3 (by omega)) _ _) _ _ ?_|fail
 all_goals (refine Qb (hQ _ (by omega)) ?_;simp [*])
theorem zD9 (l:List ByteArray) (hl:l.length<=4611686018427387904) (a:Option Addr) (c:Nat) (s:ByteArray):tz 191 [.sv a 0 (yg l) c,.str s] (zAM (fun x=>decide (s=x)) l 0):=fun N Q hQ=>by
 refine zDx N a _ c s Q fun _=>?_
 repeat' first|with_reducible intro _|simp only[Y1,Y2,Y3,Y4]|with_reducible refine X ?_ ?_|refine⟨_,_,_,rfl,?_⟩|refine⟨_,rfl,?_⟩|refine And.intro (by first|omega|trivial|(show _=_;rfl)|(with_reducible constructor)<;>first|omega|trivial|rfl) ?_|refine (zCl l hl a c s) _ _ ?_|fail
 exact hQ _ (by omega)
def vh (g:List Pm):List ByteArray:=g.map (·.nm)
theorem zID (g:List Pm):(vh g).length=g.length:=by simp [vh]
theorem zH9 {g:List Pm} {es:List D} (h:Pms g es) (hg:g.length<=1073741824) (a:Option Addr) (c:Nat) (N:Nat) (Q:QT [.sl 0])
  (hQ:∀ a' c' N',N<=N'->Q a' (yg (vh g)) c' N'):ACalls prog 190 [.sl 0] [.sv a 4 es c] N Q:=by
 have hl:=h.all.len
 refine zAq N a es c Q fun _=>?_
 have key:=up h.all h.len (fun i xs=>∀ (q:Nat) (N':Nat),N<=N'->yr Q N (yg ((vh g).take i)).length q a es c es.length i (yg ((vh g).take i)) q N') ?_ ?_
 ·exact key 0 N (oF _)
 ·intro i hlt hi q N' hN'
  refine vI _ _ _ _ _ _ _ _ _ _ _ _ ?_
  rw [oY (by rw [zID];omega)]
  repeat' first|with_reducible intro _|simp only[hlt,Y1,Y2,Y3,Y4]|with_reducible refine X ?_ ?_|refine⟨_,_,_,rfl,?_⟩|refine⟨_,rfl,?_⟩|refine And.intro (by first|omega|trivial|(show _=_;rfl)|(with_reducible constructor)<;>first|omega|trivial|rfl) ?_|fail
  exact hQ _ _ _ (by omega)
 ·intro i x xs hat _ ih2 q N' hN'
  have hb:=hat.b
  have hm:=hat.m
  obtain ⟨t0,t1,hd',hnm,hty⟩:=hat.r
  refine vI _ _ _ _ _ _ _ _ _ _ _ _ ?_
  have hat2:(vh g)[i]?=some x.nm:=by rw [vh,oE,hat.g];rfl
  repeat' first|with_reducible intro _|simp only[hat.lt,hat.w,oG,hd',Y1,Y2,Y3,Y4]|with_reducible refine X ?_ ?_|refine⟨_,_,_,rfl,?_⟩|refine⟨_,rfl,?_⟩|refine And.intro (by first|omega|trivial|(show _=_;rfl)|(with_reducible constructor)<;>first|omega|trivial|rfl) ?_|fail
  refine ⟨by unfold zA;rw [oK,rM,o0];simp only [oH,oN];omega,fun c1=>?_⟩
  rw [zCf,<-zY hat2]
  exact ih2 _ _ hN'
theorem zEZ {α:Type} (p:α->Bool) (s:α) (hs:p s=true) (rest:List α):∀ (seen:List α) (k:Int),(zAM p (seen++s::rest) k=k+seen.length↔seen.any p=false)/\zAM p (seen++s::rest) k≥k
 | [],k=>by simp [zAM,hs]
 | x :: seen,k=>by
   have ih:=zEZ p s hs rest seen (k+1)
   simp only [nV,zAM,mN,oH]
   cases hx:p x with
   | true=>simp;omega
   | false=>
     simp only [nX,o3,Bool.false_or]
     refine ⟨?_,by omega⟩
     rw [<-ih.1];constructor<;>intro h<;>omega
theorem zMt {s:ByteArray} (l:List ByteArray):(l.any fun x=>decide (s=x))=l.any fun x=>decide (x=s):=by
 induction l with
 | nil=>rfl
 | cons x l ih=>simp only [mN,ih,eq_comm]
theorem zBe {g:List Pm} {es:List D} (h:Pms g es) (hg:g.length<=1073741824) (a:Option Addr) (c:Nat):wm 135 [.sv a 4 es c] (zAf g):=fun N Q hQ=>by
 have hl:=h.all.len
 refine zBh N a es c Q fun _=>?_
 have hnl:=zID g
 have key:=fun (h5:g.length<=5) a3 c3 (N2:Nat) (hN2:N<=N2)=>up h.all h.len (fun i xs=>∀ (N':Nat),N2<=N'->(∀ N'',N'<=N''->Q (zDq ((vh g).take i) xs) N'')->y3 Q N a3 (yg (vh g)) c3 a es c es.length i N') ?_ ?_
 ·repeat' first|with_reducible intro _|simp only[Y1,Y2,Y3,Y4]|with_reducible refine X ?_ ?_|refine⟨_,_,_,rfl,?_⟩|refine⟨_,rfl,?_⟩|refine And.intro (by first|omega|trivial|(show _=_;rfl)|(with_reducible constructor)<;>first|omega|trivial|rfl) ?_|refine (zH9 h hg a c) _ _ ?_|fail
  ·refine Qb (hQ _ (by omega)) ?_
   have:¬g.length<=5:=by omega
   simp [zAf,this]
  ·have h5:g.length<=5:=by omega
   refine key h5 _ _ _ ?_ _ (oF _) fun N'' hN''=>Qb (hQ N'' ?_) ?_
   all_goals first | omega | skip
   simp [zAf,h5]
 ·intro i hlt hi N' hN' hQ'
  refine uC _ _ _ _ _ _ _ _ _ _ _ ?_
  repeat' first|with_reducible intro _|simp only[hlt,Y1,Y2,Y3,Y4]|with_reducible refine X ?_ ?_|refine⟨_,_,_,rfl,?_⟩|refine⟨_,rfl,?_⟩|refine And.intro (by first|omega|trivial|(show _=_;rfl)|(with_reducible constructor)<;>first|omega|trivial|rfl) ?_|fail
  refine Qb (hQ' _ (by omega)) ?_
  simp [zDq]
 ·intro i x xs hat _ ih2 N' hN' hQ'
  have hb:=hat.b
  have hm:=hat.m
  obtain ⟨t0,t1,hd',hnm,hty⟩:=hat.r
  simp only [zDq] at hQ'
  have hat2:(vh g)[i]?=some x.nm:=by rw [vh,oE,hat.g];rfl
  have hsp:=(zEZ (fun y=>decide (x.nm=y)) x.nm (by simp) ((vh g).drop (i+1)) ((vh g).take i) 0).1
  have hcut:(vh g).take i++x.nm::(vh g).drop (i+1)=vh g:=by
   have hlt:i<(vh g).length:=(oB.1 hat2).1
   have:=(oB.1 hat2).2
   rw [<-this,nj,nB]
  rw [hcut,o0,zMt] at hsp
  have hmin:min i (vh g).length=i:=by omega
  rw [hmin] at hsp
  refine uC _ _ _ _ _ _ _ _ _ _ _ ?_
  repeat' first|with_reducible intro _|simp only[hat.lt,hat.w,oG,hd',Y1,Y2,Y3,Y4]|with_reducible refine X ?_ ?_|refine⟨_,_,_,rfl,?_⟩|refine⟨_,rfl,?_⟩|refine And.intro (by first|omega|trivial|(show _=_;rfl)|(with_reducible constructor)<;>first|omega|trivial|rfl) ?_|refine (w9 x.nm hnm) _ _ ?_|refine (tG x.ty _ hty) _ _ ?_|refine (zD9 (vh g) (by omega) _ _ x.nm) _ _ ?_|fail
  ·refine Qb (hQ' _ (by omega)) ?_;simp [*]
  ·refine Qb (hQ' _ (by omega)) ?_;simp [*]
  ·rename_i hx _ _
   have hx2:¬((vh g).take i).any (fun y=>decide (y=x.nm))=false:=fun hc=>by have:=hsp.2 hc;omega
   have hx3:((vh g).take i).any (fun y=>decide (y=x.nm))=true:=by simpa using hx2
   refine Qb (hQ' _ (by omega)) ?_
   rw [hx3];simp
  ·rename_i hx
   have hx2:((vh g).take i).any (fun y=>decide (y=x.nm))=false:=hsp.1 (by omega)
   refine ih2 _ (by omega) fun N'' h2=>Qb (hQ' N'' (by omega)) ?_
   rw [hx2,zY hat2];simp [*]
theorem zFI {N N' M:Nat} {a:Option Addr} {d:D} (hb:uR M [a]) (h:Own N N' d) (hM:M<=N):Off [a] d:=fun b hbm ad had hc=>by
 have:=h.lo _ hc
 have:=hb b hbm ad had
 omega
theorem zNC {g:List Pm} (hp:zAf g=true):zGN (xI g)=true:=by
 simp only [zAf,oI,nE] at hp
 simp only [zGN,oI,nE,vS]
 refine ⟨?_,by omega⟩
 have:∀ l:List Pm,(∀ x∈l,uh x.nm=true/\x.ty.base=true)->zGs (xI l)=true:=by
  intro l
  induction l with
  | nil=>intro _;rfl
  | cons p l ih=>
    intro h
    have h1:=h p (by simp)
    have h2:=ih fun x hx=>h x (by simp [hx])
    simp only [xI] at h2
    simp only [xI,oU,zGs,Tg.ok,oI,h2,and_true]
    exact ⟨h1.1,(zEP h1.2).1,by decide⟩
 exact this g fun x hx=>zC2 hp.1 hx
theorem zLU {g:List Pm} {e:Tm} (hp:zAf g=true) (hv:e.vd=true) (hb:e.isB=true):yd g e=zEK (xI g) e 0:=by
 have hv2:=hv
 simp only [Tm.vd,oI] at hv2
 rw [yd,if_pos ⟨hp,hv,hb⟩,zEK,if_pos ⟨zNC hp,by simp [zIj,hv2.2,zIU e hb]⟩]
theorem tx {g:List Pm} {es:List D} (h:Pms g es) (hg:g.length<=1073741824) (hc2:∀ x∈g,x.ty.cnt<=1073741824) {e:Tm} {d:D} (he:e.Is d) (hc:e.cnt<=1048576000 / 2) (a:Option Addr) (c:Nat):zQa 64 [.sv a 4 es c,.dg 9 d] (yd g e):=fun N Q hQ=>by
 have hl:=h.all.len
 refine zC4 N a es c d Q fun _ _=>?_
 have key:=fun (hp:zAf g=true) (hv:e.vd=true) (hb:e.isB=true)=>up h.all h.len (fun i xs=>∀ (done:List D) (q:Nat) (N':Nat),N<=N'->All2 Tg.Is ((xI g).take i) done->done.length=i->xC Q N done.length q a es c es.length i d 0 none [] 0 done q N') ?_ ?_
 ·repeat' first|with_reducible intro _|simp only[Y1,Y2,Y3,Y4]|with_reducible refine X ?_ ?_|refine⟨_,_,_,rfl,?_⟩|refine⟨_,rfl,?_⟩|refine And.intro (by first|omega|trivial|(show _=_;rfl)|(with_reducible constructor)<;>first|omega|trivial|rfl) ?_|refine (zI3 e d he) _ _ ?_|refine (zBe h hg a c) _ _ ?_|refine (p7 e d he (by omega)) _ _ ?_|fail
  ·rw [show yd g e=none by unfold yd;rw [if_neg (by simp [*])]] at hQ
   exact hQ _ _ (by omega) (xV 0) yB
  ·rw [show yd g e=none by unfold yd;rw [if_neg (by simp [*])]] at hQ
   exact hQ _ _ (by omega) (xV 0) yB
  ·rw [show yd g e=none by unfold yd;rw [if_neg (by simp [*])]] at hQ
   exact hQ _ _ (by omega) (xV 0) yB
  ·exact key (by assumption) (by assumption) (by assumption) [] 0 _ (by omega) rfl rfl
 ·intro i hlt hi done q N' hN' hd hs
  refine uZ _ _ _ _ _ _ _ _ _ _ _ _ _ _ _ _ _ ?_
  rw [oY (by rw [vS];omega)] at hd
  rw [zLU hp hv hb] at hQ
  have hcg:∀ x∈xI g,x.ty.cnt<=1073741824:=fun x hx=>by obtain ⟨p,hpg,rfl⟩:=zH0 hx;exact hc2 p hpg
  repeat' first|with_reducible intro _|simp only[hlt,Y1,Y2,Y3,Y4]|with_reducible refine X ?_ ?_|refine⟨_,_,_,rfl,?_⟩|refine⟨_,rfl,?_⟩|refine And.intro (by first|omega|trivial|(show _=_;rfl)|(with_reducible constructor)<;>first|omega|trivial|rfl) ?_|fail
  rename_i ad hapa hoff N1 hN1 hbel
  refine zGG ⟨by omega,hd⟩ hcg he hc ad q 0 N1 _ fun x N2 hN2 hx hox _=>?_
  exact ⟨zFI hbel hox (oF _),fun _ N3 hN3=>hQ _ _ (by omega) hx (hox.mono (by omega) hN3)⟩
 ·intro i x xs hat _ ih2 done q N' hN' hd hs
  have hb:=hat.b
  have hm:=hat.m
  obtain ⟨t0,t1,hd',hnm,hty⟩:=hat.r
  refine uZ _ _ _ _ _ _ _ _ _ _ _ _ _ _ _ _ _ ?_
  have hat2:(xI g)[i]?=some ⟨x.nm,x.ty,0⟩:=by rw [xI,oE,hat.g];rfl
  repeat' first|with_reducible intro _|simp only[hat.lt,hat.w,oG,hd',Y1,Y2,Y3,Y4]|with_reducible refine X ?_ ?_|refine⟨_,_,_,rfl,?_⟩|refine⟨_,rfl,?_⟩|refine And.intro (by first|omega|trivial|(show _=_;rfl)|(with_reducible constructor)<;>first|omega|trivial|rfl) ?_|fail
  refine ⟨by unfold zA;rw [oK];simp only [oH,oN];omega,fun c1=>?_⟩
  exact ih2 _ _ _ hN' (by rw [zY hat2];exact hd.snoc ⟨_,_,rfl,hnm,hty⟩) (by simp [hs])
end Go.Proofs.YtkdjhkfiolhkiaaGreat
