/- Parameters: what they are; the laws' sizes, copies, equality and marks on them. -/
import Derived.Test.YtkdjhkfiolhkiaaGreatVv
import Derived.Test.YtkdjhkfiolhkiaaGreatWm
import Derived.Test.YtkdjhkfiolhkiaaGreatVn
import Derived.Test.YtkdjhkfiolhkiaaGreatWh
set_option linter.unusedVariables false
set_option linter.unusedSimpArgs false
namespace Go.Proofs.YtkdjhkfiolhkiaaGreat
open Go Go.Proofs Go.Proofs.Tryz Go.IntWalk
structure Pm where
 nm:ByteArray
 ty:Ty
 dy:Bool
def Pm.Is (g:Pm) (d:D):Prop:=∃ t0 t1,d=.ag [.lit (.string g.nm),t0,t1,.lit (.bool g.dy)]/\g.nm.size<=4611686018427387904/\g.ty.Is (.ag [t0,t1])
structure Pms (g:List Pm) (es:List D):Prop where
 len:es.length<=4611686018427387904
 all:All2 Pm.Is g es
mutual
def Tm.sz:Tm->Nat
 | .mk _ _ _ _ _ _ l=>1+tG l
def tG:List Tm->Nat
 | []=>0
 | t::ts=>t.sz+tG ts
end
mutual
def Tm.dp:Tm->Nat
 | .mk _ _ _ _ _ _ l=>zBg l+1
def zBg:List Tm->Nat
 | []=>0
 | t::ts=>max t.dp (zBg ts)
end
mutual
theorem Tm.sz_cnt:∀ t:Tm,t.sz<=t.cnt
 | .mk _ _ _ _ ty re l=>by simp only [Tm.sz,Tm.cnt];have:=pL l;omega
theorem pL:∀ l:List Tm,tG l<=yG l
 | []=>oE _
 | t::ts=>by simp only [tG,yG];have:=t.sz_cnt;have:=pL ts;omega
end
mutual
theorem Tm.dp_cnt:∀ t:Tm,t.dp<=t.cnt
 | .mk _ _ _ _ ty re l=>by simp only [Tm.dp,Tm.cnt];have:=pF l;omega
theorem pF:∀ l:List Tm,zBg l<=yG l
 | []=>oE _
 | t::ts=>by simp only [zBg,yG];have:=t.dp_cnt;have:=pF ts;omega
end
/-- one form of a body's nodes -/
def zCc (k:Int):Bool:=inB k 1 5||k==8
mutual
def Tm.isB:Tm->Bool
 | .mk k _ _ _ _ _ l=>zLd l&&zCc k
def zLd:List Tm->Bool
 | []=>true
 | t::ts=>t.isB&&zLd ts
end
def Tm.vd (t:Tm):Bool:=decide (t.sz<=80)&&decide (t.dp<=20)&&t.ok
theorem zAH:∀ (t:Tm) (d:D),t.Is d->∀ n:Int,0<=n->n<=1000->ru 170 [.dg 9 d,.int .i64 n] (if (t.sz:Int)<=n then n - t.sz else -1):=by
 refine Tm.ind fun k nm ot n0 ty re l ih d hd n hn0 hn1 N Q hQ=>?_
 obtain ⟨t0,t1,r0,r1,a,es,c,rfl,hh,hlen,hes⟩:=Tm.is_mk.1 hd
 refine zFh N _ n Q fun _=>?_
 have key:=up hes hlen (fun i xs=>∀ (m:Int) (N':Nat),N<=N' -> -1<=m->m<=1000->(∀ N'',N'<=N''->Q (if m<0 then -1 else if (tG xs:Int)<=m then m - tG xs else -1) N'') ->
  wQ Q N m i (.ag [.lit (.int .i64 k),.lit (.string nm),.lit (.string ot),.lit (.int .i64 n0),t0,t1,r0,r1,.sl a 9 es c]) N') ?_ ?_
 ·rw [i64_in _ (by omega)]
  refine key (n - 1) N (oE _) (by omega) (by omega) fun N' hN'=>Qi (hQ N' hN') ?_
  simp only [Tm.sz]
  (repeat' split)<;>omega
 ·intro i hlt _ m N' hN' h1 h2 hQ'
  refine sk _ _ _ _ _ _ ?_
  repeat' first|with_reducible intro _|simp only[hlt,Y1,Y2,Y3,Y4]|with_reducible refine X ?_ ?_|refine⟨_,_,_,rfl,?_⟩|refine⟨_,rfl,?_⟩|refine And.intro (by first|omega|trivial|(show _=_;rfl)|(with_reducible constructor)<;>first|omega|trivial|rfl) ?_|fail
  refine Qi (hQ' _ (by assumption)) ?_
  simp only [tG]
  (repeat' split)<;>omega
 ·intro i x xs hat _ ih2 m N' hN' h1 h2 hQ'
  have hb:=hat.b
  refine sk _ _ _ _ _ _ ?_
  repeat' first|with_reducible intro _|simp only[hat.lt,hat.w,oH,Y1,Y2,Y3,Y4]|with_reducible refine X ?_ ?_|refine⟨_,_,_,rfl,?_⟩|refine⟨_,rfl,?_⟩|refine And.intro (by first|omega|trivial|(show _=_;rfl)|(with_reducible constructor)<;>first|omega|trivial|rfl) ?_|refine (ih x hat.m _ hat.r m (by omega) (by omega)) _ _ ?_|fail
  ·refine ih2 _ _ (by omega) (by split<;>omega) (by split<;>omega) fun N'' hN''=>Qi (hQ' N'' (by omega)) ?_
   simp only [tG]
   (repeat' split)<;>omega
  ·refine Qi (hQ' _ (by assumption)) ?_
   rw [if_pos (by omega)]
   omega
theorem zDo:∀ (t:Tm) (d:D),t.Is d->t.cnt<=1073741824->ru 171 [.dg 9 d] t.dp:=by
 refine Tm.ind fun k nm ot n0 ty re l ih d hd hc N Q hQ=>?_
 obtain ⟨t0,t1,r0,r1,a,es,c,rfl,hh,hlen,hes⟩:=Tm.is_mk.1 hd
 refine zDu N _ Q fun _=>?_
 simp only [Tm.cnt] at hc
 have hdl:=pF l
 have key:=up hes hlen (fun i xs=>∀ (m:Nat) (N':Nat),N<=N'->max m (zBg xs)=zBg l->xb Q N (m:Int) i (.ag [.lit (.int .i64 k),.lit (.string nm),.lit (.string ot),.lit (.int .i64 n0),t0,t1,r0,r1,.sl a 9 es c]) N') ?_ ?_
 ·exact key 0 N (oE _) (by omega)
 ·intro i hlt _ m N' hN' hm
  simp only [zBg] at hm
  refine t3 _ _ _ _ _ _ ?_
  repeat' first|with_reducible intro _|simp only[hlt,Y1,Y2,Y3,Y4]|with_reducible refine X ?_ ?_|refine⟨_,_,_,rfl,?_⟩|refine⟨_,rfl,?_⟩|refine And.intro (by first|omega|trivial|(show _=_;rfl)|(with_reducible constructor)<;>first|omega|trivial|rfl) ?_|fail
  rw [i64_in _ (by omega)]
  refine Qi (hQ _ (oW hN' (by assumption))) ?_
  simp only [Tm.dp]
  omega
 ·intro i x xs hat _ ih2 m N' hN' hm
  have hb:=hat.b
  have hxc:=zO hat.m
  simp only [zBg] at hm
  refine t3 _ _ _ _ _ _ ?_
  repeat' first|with_reducible intro _|simp only[hat.lt,hat.w,oH,Y1,Y2,Y3,Y4]|with_reducible refine X ?_ ?_|refine⟨_,_,_,rfl,?_⟩|refine⟨_,rfl,?_⟩|refine And.intro (by first|omega|trivial|(show _=_;rfl)|(with_reducible constructor)<;>first|omega|trivial|rfl) ?_|refine (ih x hat.m _ hat.r (by omega)) _ _ ?_|refine (zBR _ _) _ _ ?_|fail
  have e:max (m:Int) (x.dp:Int)=((max m x.dp:Nat):Int):=by omega
  rw [e]
  exact ih2 _ _ (by omega) (by omega)
theorem pj (t:Tm) (d:D) (hd:t.Is d) (hc:t.cnt<=1073741824):w9 106 [.dg 9 d] t.vd:=fun N Q hQ=>by
 refine pO N _ Q fun _=>?_
 by_cases h80:t.sz<=80
 ·have h1:((t.sz:Int)<=80):=by omega
  repeat' first|with_reducible intro _|simp only[if_pos h1,Y1,Y2,Y3,Y4]|with_reducible refine X ?_ ?_|refine⟨_,_,_,rfl,?_⟩|refine⟨_,rfl,?_⟩|refine And.intro (by first|omega|trivial|(show _=_;rfl)|(with_reducible constructor)<;>first|omega|trivial|rfl) ?_|refine (zAH t d hd _ (by omega) (by omega)) _ _ ?_|refine (zDo t d hd hc) _ _ ?_|refine (zFq t d hd hc) _ _ ?_|fail
  all_goals first | omega | skip
  ·have h8:t.dp<=20:=by omega
   refine Qb (hQ _ (by omega)) ?_;simp [Tm.vd, *]
  ·have h8:¬t.dp<=20:=by omega
   refine Qb (hQ _ (by omega)) ?_;simp [Tm.vd, *]
 ·have h1:¬((t.sz:Int)<=80):=by omega
  repeat' first|with_reducible intro _|simp only[if_neg h1,Y1,Y2,Y3,Y4]|with_reducible refine X ?_ ?_|refine⟨_,_,_,rfl,?_⟩|refine⟨_,rfl,?_⟩|refine And.intro (by first|omega|trivial|(show _=_;rfl)|(with_reducible constructor)<;>first|omega|trivial|rfl) ?_|refine (zAH t d hd _ (by omega) (by omega)) _ _ ?_|fail
  all_goals first | omega | skip
  refine Qb (hQ _ (by omega)) ?_;simp [Tm.vd, *]
theorem zHb:∀ (t:Tm) (d:D),t.Is d->w9 140 [.dg 9 d] t.isB:=by
 refine Tm.ind fun k nm ot n0 ty re l ih d hd N Q hQ=>?_
 obtain ⟨t0,t1,r0,r1,a,es,c,rfl,hh,hlen,hes⟩:=Tm.is_mk.1 hd
 refine zH8 N _ Q fun _=>?_
 have key:=up hes hlen (fun i xs=>∀ (N':Nat),N<=N'->(∀ N'',N'<=N''->Q (zLd xs&&zCc k) N'')->ww Q N i (.ag [.lit (.int .i64 k),.lit (.string nm),.lit (.string ot),.lit (.int .i64 n0),t0,t1,r0,r1,.sl a 9 es c]) N') ?_ ?_
 ·exact key N (oE _) hQ
 ·intro i hlt _ N' hN' hQ'
  refine r5 _ _ _ _ _ ?_
  repeat' first|with_reducible intro _|simp only[hlt,Y1,Y2,Y3,Y4]|with_reducible refine X ?_ ?_|refine⟨_,_,_,rfl,?_⟩|refine⟨_,rfl,?_⟩|refine And.intro (by first|omega|trivial|(show _=_;rfl)|(with_reducible constructor)<;>first|omega|trivial|rfl) ?_|refine (xq _ _ _) _ _ ?_|fail
  all_goals (refine Qb (hQ' _ (by omega)) ?_;simp [zLd,zCc, *])
 ·intro i x xs hat _ ih2 N' hN' hQ'
  have hb:=hat.b
  refine r5 _ _ _ _ _ ?_
  repeat' first|with_reducible intro _|simp only[hat.lt,hat.w,oH,Y1,Y2,Y3,Y4]|with_reducible refine X ?_ ?_|refine⟨_,_,_,rfl,?_⟩|refine⟨_,rfl,?_⟩|refine And.intro (by first|omega|trivial|(show _=_;rfl)|(with_reducible constructor)<;>first|omega|trivial|rfl) ?_|refine (ih x hat.m _ hat.r) _ _ ?_|fail
  ·refine Qb (hQ' _ (by omega)) ?_;simp [zLd, *]
  ·exact ih2 _ (by omega) fun N'' h=>Qb (hQ' N'' (by omega)) (by simp [zLd, *])
theorem xZ (l:List ByteArray) (hl:l.length<=4611686018427387904) (a:Option Addr) (c:Nat) (s:ByteArray):ru 22 [.sv a 0 (zB l) c,.str s] (qr (fun x=>decide (x=s)) l 0):=fun N Q hQ=>by
 have hes:=vg l
 have hlen:(zB l).length<=4611686018427387904:=by rw [hes.len];exact hl
 refine zD8 N a _ c s Q fun _=>?_
 refine up hes hlen (fun i xs=>∀ (N':Nat),N<=N'->(∀ N'',N'<=N''->Q (qr (fun x=>decide (x=s)) xs i) N'')->xi Q N a (zB l) c s i N') ?_ ?_ N (oE _) hQ
 ·intro i hlt _ N' hN' hQ'
  refine sA _ _ _ _ _ _ _ _ ?_
  repeat' first|with_reducible intro _|simp only[hlt,Y1,Y2,Y3,Y4]|with_reducible refine X ?_ ?_|refine⟨_,_,_,rfl,?_⟩|refine⟨_,rfl,?_⟩|refine And.intro (by first|omega|trivial|(show _=_;rfl)|(with_reducible constructor)<;>first|omega|trivial|rfl) ?_|fail
  exact hQ' _ (by omega)
 ·intro i x xs hat _ ih2 N' hN' hQ'
  have hb:=hat.b
  have hr:=hat.r
  simp only [qr] at hQ'
  refine sA _ _ _ _ _ _ _ _ ?_
  repeat' first|with_reducible intro _|simp only[hat.lt,hat.w,oH,hr,Y1,Y2,Y3,Y4]|with_reducible refine X ?_ ?_|refine⟨_,_,_,rfl,?_⟩|refine⟨_,rfl,?_⟩|refine And.intro (by first|omega|trivial|(show _=_;rfl)|(with_reducible constructor)<;>first|omega|trivial|rfl) ?_|fail
  ·rename_i h _ _;subst h;exact Qi (hQ' _ (by omega)) (by simp)
  ·rename_i h;exact ih2 _ hN' fun N'' h2=>Qi (hQ' _ h2) (by rw [if_neg (by simpa using h)];simp)
/-- the parameters are well formed, behind the names that were seen -/
def rk:List ByteArray->List Pm->Bool
 | _,[]=>true
 | seen,p::ps=>ub p.nm&&(p.ty.base&&(!(seen.any fun x=>decide (x=p.nm))&&rk (seen++[p.nm]) ps))
def uq (g:List Pm):Bool:=rk [] g&&decide (g.length<=5)
theorem xo (l:List ByteArray) (s:ByteArray):zB l++[.lit (.string s)]=zB (l++[s]):=by simp [zB]
theorem zi (l:List ByteArray):(zB l).length=l.length:=by simp [zB]
theorem zBy {g:List Pm} {es:List D} (h:Pms g es) (hg:g.length<=1073741824) (a:Option Addr) (c:Nat):w9 139 [.sv a 4 es c] (uq g):=fun N Q hQ=>by
 have hl:=h.all.len
 refine zCC N a es c Q fun _=>?_
 have key:=up h.all h.len (fun i xs=>∀ (seen:List ByteArray) (q:Nat) (N':Nat),N<=N'->seen.length=i->(∀ N'',N'<=N''->Q (rk seen xs&&decide (g.length<=5)) N'')->y7 Q N a es c (zB seen).length q i (zB seen) q N') ?_ ?_
 ·exact key [] 0 N (oE _) rfl hQ
 ·intro i hlt hi seen q N' hN' hs hQ'
  refine uS _ _ _ _ _ _ _ _ _ _ _ ?_
  have e:(((zB seen).length:Nat):Int)=(g.length:Int):=by rw [zi];omega
  repeat' first|with_reducible intro _|simp only[hlt,e,Y1,Y2,Y3,Y4]|with_reducible refine X ?_ ?_|refine⟨_,_,_,rfl,?_⟩|refine⟨_,rfl,?_⟩|refine And.intro (by first|omega|trivial|(show _=_;rfl)|(with_reducible constructor)<;>first|omega|trivial|rfl) ?_|fail
  refine Qb (hQ' _ (by omega)) ?_
  rw [rk,Bool.true_and,nc,nI,nI]
  omega
 ·intro i x xs hat _ ih2 seen q N' hN' hs hQ'
  have hb:=hat.b
  have hm:=hat.m
  obtain ⟨t0,t1,hd,hnm,hty⟩:=hat.r
  simp only [rk] at hQ'
  refine uS _ _ _ _ _ _ _ _ _ _ _ ?_
  repeat' first|with_reducible intro _|simp only[hat.lt,hat.w,oH,hd,Y1,Y2,Y3,Y4]|with_reducible refine X ?_ ?_|refine⟨_,_,_,rfl,?_⟩|refine⟨_,rfl,?_⟩|refine And.intro (by first|omega|trivial|(show _=_;rfl)|(with_reducible constructor)<;>first|omega|trivial|rfl) ?_|refine (ti x.nm hnm) _ _ ?_|refine (tf x.ty _ hty) _ _ ?_|refine (xZ seen (by omega) _ _ x.nm) _ _ ?_|fail
  ·refine Qb (hQ' _ (by omega)) ?_;simp [*]
  ·refine Qb (hQ' _ (by omega)) ?_;simp [*]
  ·rename_i hx _ _
   have:=vN (fun y=>decide (y=x.nm)) seen 0 (by omega)
   rw [ny hx] at this
   refine Qb (hQ' _ (by omega)) ?_
   rw [<-this];simp
  ·rename_i hx
   have:=vN (fun y=>decide (y=x.nm)) seen 0 (by omega)
   rw [decide_eq_false hx] at this
   refine ⟨by unfold zA;rw [oI,zi];simp only [oJ,oN];omega,fun c1=>?_⟩
   rw [xo]
   refine ih2 (seen++[x.nm]) _ _ (by omega) (by simp [hs]) fun N'' h=>Qb (hQ' N'' (by omega)) ?_
   rw [<-this];clear this;simp [*]
def yc (g:List Pm):List Tg:=g.map fun p=>⟨p.nm,p.ty,0⟩
theorem vm (g:List Pm):(yc g).length=g.length:=by simp [yc]
theorem zFi {g:List Pm} {es:List D} (h:Pms g es) (hg:g.length<=1073741824) (a:Option Addr) (c:Nat) (N:Nat) (Q:QT [.sl 4])
  (hQ:∀ a' es' c' N',N<=N'->Ctx (yc g) es'->Q a' es' c' N'):ACalls prog 87 [.sl 4] [.sv a 4 es c] N Q:=by
 have hl:=h.all.len
 refine pT N a es c Q fun _=>?_
 have key:=up h.all h.len (fun i xs=>∀ (done:List D) (q:Nat) (N':Nat),N<=N'->All2 Tg.Is ((yc g).take i) done->done.length=i->xG Q N a es c done.length q i done q N') ?_ ?_
 ·exact key [] 0 N (oE _) rfl rfl
 ·intro i hlt hi done q N' hN' hd hs
  refine wP _ _ _ _ _ _ _ _ _ _ _ ?_
  rw [oe (by rw [vm];omega)] at hd
  repeat' first|with_reducible intro _|simp only[hlt,Y1,Y2,Y3,Y4]|with_reducible refine X ?_ ?_|refine⟨_,_,_,rfl,?_⟩|refine⟨_,rfl,?_⟩|refine And.intro (by first|omega|trivial|(show _=_;rfl)|(with_reducible constructor)<;>first|omega|trivial|rfl) ?_|fail
  exact hQ _ _ _ _ (by omega) ⟨by omega,hd⟩
 ·intro i x xs hat _ ih2 done q N' hN' hd hs
  have hb:=hat.b
  have hm:=hat.m
  obtain ⟨t0,t1,hd',hnm,hty⟩:=hat.r
  refine wP _ _ _ _ _ _ _ _ _ _ _ ?_
  have hat2:(yc g)[i]?=some ⟨x.nm,x.ty,0⟩:=by rw [yc,oF,hat.g];rfl
  repeat' first|with_reducible intro _|simp only[hat.lt,hat.w,oH,hd',Y1,Y2,Y3,Y4]|with_reducible refine X ?_ ?_|refine⟨_,_,_,rfl,?_⟩|refine⟨_,rfl,?_⟩|refine And.intro (by first|omega|trivial|(show _=_;rfl)|(with_reducible constructor)<;>first|omega|trivial|rfl) ?_|fail
  refine ⟨by unfold zA;rw [oI];simp only [oJ,oN];omega,fun c1=>?_⟩
  exact ih2 _ _ _ hN' (by rw [ya hat2];exact hd.snoc ⟨_,_,rfl,hnm,hty⟩) (by simp [hs])
/-- a body's type, or none -/
def zR (g:List Pm) (e:Tm):Option Ty:=if uq g=true/\e.vd=true/\e.isB=true then e.type (yc g) 0 else none
theorem zCS:∀ {g:List Pm} {seen:List ByteArray} {x:Pm},rk seen g=true->x∈g->ub x.nm=true/\x.ty.base=true
 | p::ps,seen,x,h,hx=>by
   simp only [rk,oK] at h
   rcases oG.1 hx with rfl | hx
   ·exact ⟨h.1,h.2.1⟩
   ·exact zCS h.2.2.2 hx
theorem zFN {t:Ty} (h:t.base=true):t.valid=true/\t.cnt=1:=by
 cases t with
 | mk k l=>
   simp only [Ty.base,Ty.k,Ty.as,oK,na,mB] at h
   have hl:l=[]:=oX (by omega)
   subst hl
   refine ⟨?_,rfl⟩
   simp only [Ty.valid,Ty.cnt,zG,Ty.dep,u5,Ty.form,uh,rn]
   rcases h.1 with rfl | rfl<;>decide
mutual
theorem zJV:∀ t:Tm,t.isB=true->t.lev 0=true
 | .mk k _ _ _ _ _ l,h=>by
   simp only [Tm.isB,oK,zCc,na,yI,mB] at h
   have e:zx k 0=0:=by unfold zx;rw [if_neg (by omega),if_neg (by omega)]
   simp only [Tm.lev,e,zKW l h.1,Bool.and_true];decide
theorem zKW:∀ l:List Tm,zLd l=true->qR l 0=true
 | [],_=>rfl
 | t::ts,h=>by
   simp only [zLd,oK] at h
   simp only [qR,zJV t h.1,zKW ts h.2,Bool.and_true]
end
theorem zHw {g:List Pm} {x:Tg} (h:x∈yc g):∃ p∈g,x=⟨p.nm,p.ty,0⟩:=by
 obtain ⟨p,hp,rfl⟩:=oR.1 h
 exact ⟨p,hp,rfl⟩
theorem zNY {g:List Pm} {e:Tm} (hp:uq g=true) (hv:e.vd=true) (hb:e.isB=true) (hc:e.cnt<=536870000):Pre (yc g) e 0:=by
 simp only [uq,oK,nD] at hp
 simp only [Tm.vd,oK] at hv
 refine ⟨hv.2,zJV e hb,by rw [vm];omega,fun x hx=>?_⟩
 obtain ⟨p,hpg,rfl⟩:=zHw hx
 have:=(zFN (zCS hp.1 hpg).2).2
 show p.ty.cnt<=64
 omega
theorem xD {g:List Pm} {es:List D} (h:Pms g es) (hg:g.length<=1073741824) {e:Tm} {d:D} (he:e.Is d) (hc:e.cnt<=536870000) (a:Option Addr) (c:Nat):zQR 68 [.sv a 4 es c,.dg 9 d] (zR g e):=fun N Q hQ=>by
 refine zDb N a es c d Q fun _ _=>?_
 repeat' first|with_reducible intro _|simp only[Y1,Y2,Y3,Y4]|with_reducible refine X ?_ ?_|refine⟨_,_,_,rfl,?_⟩|refine⟨_,rfl,?_⟩|refine And.intro (by first|omega|trivial|(show _=_;rfl)|(with_reducible constructor)<;>first|omega|trivial|rfl) ?_|refine (zBy h hg a c) _ _ ?_|refine (pj e d he (by omega)) _ _ ?_|refine (zHb e d he) _ _ ?_|refine (zFi h hg a c) _ _ ?_|fail
 ·rw [show zR g e=none by unfold zR;rw [if_neg (by simp [*])]] at hQ
  exact hQ _ _ (by omega) (xw 0)
 ·rw [show zR g e=none by unfold zR;rw [if_neg (by simp [*])]] at hQ
  exact hQ _ _ (by omega) (xw 0)
 ·rw [show zR g e=none by unfold zR;rw [if_neg (by simp [*])]] at hQ
  exact hQ _ _ (by omega) (xw 0)
 ·have hp:uq g=true:=by assumption
  have hv:e.vd=true:=by assumption
  have hb:e.isB=true:=by assumption
  rw [show zR g e=e.type (yc g) 0 by unfold zR;rw [if_pos ⟨hp,hv,hb⟩]] at hQ
  exact zGq e d he _ _ _ _ _ (zNY hp hv hb hc) (by assumption) _ _ fun x N4 hN4 hx _ _ N5 hN5=>hQ _ _ (by omega) hx
theorem zGV:∀ (t:Tm) (d:D),t.Is d->t.cnt<=1073741824->ru 84 [.dg 9 d] t.sz:=by
 refine Tm.ind fun k nm ot n0 ty re l ih d hd hc N Q hQ=>?_
 obtain ⟨t0,t1,r0,r1,a,es,c,rfl,hh,hlen,hes⟩:=Tm.is_mk.1 hd
 simp only [Tm.cnt] at hc
 have hsl:=pL l
 refine zFX N _ Q fun _=>⟨_,_,_,rfl,?_⟩
 refine up hes hlen (fun i xs=>∀ (m:Nat) (N':Nat),N<=N'->m+tG xs=1+tG l->wB Q N m a es c es.length i N') ?_ ?_ 1 N (oE _) rfl
 ·intro i hlt _ m N' hN' hm
  refine sa _ _ _ _ _ _ _ _ _ ?_
  simp only [tG] at hm
  repeat' first|with_reducible intro _|simp only[hlt,Y1,Y2,Y3,Y4]|with_reducible refine X ?_ ?_|refine⟨_,_,_,rfl,?_⟩|refine⟨_,rfl,?_⟩|refine And.intro (by first|omega|trivial|(show _=_;rfl)|(with_reducible constructor)<;>first|omega|trivial|rfl) ?_|fail
  exact Qi (hQ _ (by omega)) (by simp only [Tm.sz];omega)
 ·intro i x xs hat _ ih2 m N' hN' hm
  have hb:=hat.b
  have hxc:=zO hat.m
  simp only [tG] at hm
  refine sa _ _ _ _ _ _ _ _ _ ?_
  repeat' first|with_reducible intro _|simp only[hat.lt,hat.w,oH,Y1,Y2,Y3,Y4]|with_reducible refine X ?_ ?_|refine⟨_,_,_,rfl,?_⟩|refine⟨_,rfl,?_⟩|refine And.intro (by first|omega|trivial|(show _=_;rfl)|(with_reducible constructor)<;>first|omega|trivial|rfl) ?_|refine (ih x hat.m _ hat.r (by omega)) _ _ ?_|fail
  rw [i64_in _ (by omega)]
  exact ih2 (m+x.sz) _ (by omega) (by omega)
theorem zEc:∀ (t:Tm) (d:D),t.Is d->t.cnt<=1073741824->ru 169 [.dg 9 d] t.dp:=by
 refine Tm.ind fun k nm ot n0 ty re l ih d hd hc N Q hQ=>?_
 obtain ⟨t0,t1,r0,r1,a,es,c,rfl,hh,hlen,hes⟩:=Tm.is_mk.1 hd
 simp only [Tm.cnt] at hc
 have hdl:=pF l
 refine zEC N _ Q fun _=>⟨_,_,_,rfl,?_⟩
 refine up hes hlen (fun i xs=>∀ (m:Nat) (N':Nat),N<=N'->max m (zBg xs)=zBg l->xa Q N m a es c es.length i N') ?_ ?_ 0 N (oE _) (by omega)
 ·intro i hlt _ m N' hN' hm
  refine t7 _ _ _ _ _ _ _ _ _ ?_
  simp only [zBg] at hm
  repeat' first|with_reducible intro _|simp only[hlt,Y1,Y2,Y3,Y4]|with_reducible refine X ?_ ?_|refine⟨_,_,_,rfl,?_⟩|refine⟨_,rfl,?_⟩|refine And.intro (by first|omega|trivial|(show _=_;rfl)|(with_reducible constructor)<;>first|omega|trivial|rfl) ?_|fail
  rw [i64_in _ (by omega)]
  exact Qi (hQ _ (by omega)) (by simp only [Tm.dp];omega)
 ·intro i x xs hat _ ih2 m N' hN' hm
  have hb:=hat.b
  have hxc:=zO hat.m
  simp only [zBg] at hm
  refine t7 _ _ _ _ _ _ _ _ _ ?_
  repeat' first|with_reducible intro _|simp only[hat.lt,hat.w,oH,Y1,Y2,Y3,Y4]|with_reducible refine X ?_ ?_|refine⟨_,_,_,rfl,?_⟩|refine⟨_,rfl,?_⟩|refine And.intro (by first|omega|trivial|(show _=_;rfl)|(with_reducible constructor)<;>first|omega|trivial|rfl) ?_|refine (ih x hat.m _ hat.r (by omega)) _ _ ?_|fail
  have e:(if (x.dp:Int)>(m:Int) then (x.dp:Int) else (m:Int))=((max m x.dp:Nat):Int):=by split<;>omega
  rw [e]
  exact ih2 (max m x.dp) _ (by omega) (by omega)
theorem pK (t:Tm) (d:D) (hd:t.Is d) (hc:t.cnt<=1073741824):w9 105 [.dg 9 d] t.vd:=fun N Q hQ=>by
 refine zAO N _ Q fun _=>?_
 repeat' first|with_reducible intro _|simp only[Y1,Y2,Y3,Y4]|with_reducible refine X ?_ ?_|refine⟨_,_,_,rfl,?_⟩|refine⟨_,rfl,?_⟩|refine And.intro (by first|omega|trivial|(show _=_;rfl)|(with_reducible constructor)<;>first|omega|trivial|rfl) ?_|refine (pN t d hd hc) _ _ ?_|refine (zGV t d hd hc) _ _ ?_|refine (zEc t d hd hc) _ _ ?_|fail
 ·have h8:t.sz<=80:=by omega
  refine Qb (hQ _ (by omega)) ?_
  have:decide ((t.dp:Int)<=20)=decide (t.dp<=20):=by rw [nc,nI,nI];omega
  simp [Tm.vd, *]
 ·have h8:¬t.sz<=80:=by omega
  refine Qb (hQ _ (by omega)) ?_;simp [Tm.vd, *]
 ·refine Qb (hQ _ (by omega)) ?_;simp [Tm.vd, *]
theorem zIj (t:Tm) (d:D) (hd:t.Is d):w9 134 [.dg 9 d] (match t with | .mk k _ _ _ _ _ _=>zCc k):=fun N Q hQ=>by
 cases t with
 | mk k nm ot n0 ty re l=>
 obtain ⟨t0,t1,r0,r1,a,es,c,rfl,hh,hlen,hes⟩:=Tm.is_mk.1 hd
 refine zA9 N _ Q fun _=>?_
 repeat' first|with_reducible intro _|simp only[Y1,Y2,Y3,Y4]|with_reducible refine X ?_ ?_|refine⟨_,_,_,rfl,?_⟩|refine⟨_,rfl,?_⟩|refine And.intro (by first|omega|trivial|(show _=_;rfl)|(with_reducible constructor)<;>first|omega|trivial|rfl) ?_|refine (yA _ _ _) _ _ ?_|fail
 all_goals (refine Qb (hQ _ (by omega)) ?_;simp [zCc, *])
theorem zBo {p:Tm->Bool} {l:List Tm} {es:List D} (h:All2 Tm.Is l es) (hlen:es.length<=4611686018427387904) (ad:Addr) (hp:∀ x∈l,∀ d,x.Is d->w9 189 [.dg 9 d,.pd ad 0 (.fn 134 [])] (p x)) (a:Option Addr) (c:Nat) :
  w9 188 [.sv a 9 es c,.fn 189 [.pd ad 0 (.fn 134 [])]] (l.any p):=fun N Q hQ=>by
 have hi:ru 236 [.sv a 9 es c,.fn 189 [.pd ad 0 (.fn 134 [])]] (qr p l 0):=fun N Q hQ=>by
  refine vu N a es c ad Q fun _=>?_
  refine up h hlen (fun i xs=>∀ (N':Nat),N<=N'->(∀ N'',N'<=N''->Q (qr p xs i) N'')->zh Q N a es c ad es.length i N') ?_ ?_ N (oE _) hQ
  ·intro i hlt _ N' hN' hQ'
   refine xO _ _ _ _ _ _ _ _ _ ?_
   repeat' first|with_reducible intro _|simp only[hlt,Y1,Y2,Y3,Y4]|with_reducible refine X ?_ ?_|refine⟨_,_,_,rfl,?_⟩|refine⟨_,rfl,?_⟩|refine And.intro (by first|omega|trivial|(show _=_;rfl)|(with_reducible constructor)<;>first|omega|trivial|rfl) ?_|fail
   exact hQ' _ (by omega)
  ·intro i x xs hat _ ih2 N' hN' hQ'
   have hb:=hat.b
   simp only [qr] at hQ'
   refine xO _ _ _ _ _ _ _ _ _ ?_
   repeat' first|with_reducible intro _|simp only[hat.lt,hat.w,oH,Y1,Y2,Y3,Y4]|with_reducible refine X ?_ ?_|refine⟨_,_,_,rfl,?_⟩|refine⟨_,rfl,?_⟩|refine And.intro (by first|omega|trivial|(show _=_;rfl)|(with_reducible constructor)<;>first|omega|trivial|rfl) ?_|refine (hp x hat.m _ hat.r) _ _ ?_|fail
   ·exact Qi (hQ' _ (by omega)) (by rw [if_pos (by assumption)])
   ·rename_i h;exact ih2 _ (by omega) fun N'' h2=>Qi (hQ' _ (by omega)) (by rw [h];simp)
 refine wy N a es c ad Q fun _=>?_
 repeat' first|with_reducible intro _|simp only[Y1,Y2,Y3,Y4]|with_reducible refine X ?_ ?_|refine⟨_,_,_,rfl,?_⟩|refine⟨_,rfl,?_⟩|refine And.intro (by first|omega|trivial|(show _=_;rfl)|(with_reducible constructor)<;>first|omega|trivial|rfl) ?_|refine hi _ _ ?_|fail
 exact Qb (hQ _ (by omega)) (vN _ l 0 (by omega)).symm
theorem zKO:∀ l:List Tm,zLd l=!(l.any fun x=>!x.isB)
 | []=>rfl
 | t::ts=>by simp only [zLd,mN,zKO ts];cases t.isB<;>simp
theorem zJb:∀ (t:Tm) (d:D),t.Is d->w9 133 [.dg 9 d,.fn 134 []] t.isB:=by
 refine Tm.ind fun k nm ot n ty re l ih d hd N Q hQ=>?_
 have hb:=zIj _ d hd
 obtain ⟨t0,t1,r0,r1,a,es,c,rfl,hh,hlen,hes⟩:=Tm.is_mk.1 hd
 simp only at hb
 refine qZ N _ Q fun _=>?_
 simp only [Tm.isB,zKO] at hQ
 repeat' first|with_reducible intro _|simp only[Y1,Y2,Y3,Y4]|with_reducible refine X ?_ ?_|refine⟨_,_,_,rfl,?_⟩|refine⟨_,rfl,?_⟩|refine And.intro (by first|omega|trivial|(show _=_;rfl)|(with_reducible constructor)<;>first|omega|trivial|rfl) ?_|refine hb _ _ ?_|refine (zBo hes hlen _ (fun x hx d hd=>fun N Q hQ=>rC N d _ Q fun _ N1 hN1=>ih x hx d hd N1 _ fun N2 hN2 hle N3 hN3=>hQ N3 (by omega)) _ _) _ _ ?_|fail
 all_goals (refine Qb (hQ _ (by omega)) ?_;simp [*])
theorem zED (l:List ByteArray) (hl:l.length<=4611686018427387904) (a:Option Addr) (c:Nat) (s:ByteArray):ru 191 [.sv a 0 (zB l) c,.str s] (qr (fun x=>decide (s=x)) l 0):=fun N Q hQ=>by
 refine zDn N a _ c s Q fun _=>?_
 repeat' first|with_reducible intro _|simp only[Y1,Y2,Y3,Y4]|with_reducible refine X ?_ ?_|refine⟨_,_,_,rfl,?_⟩|refine⟨_,rfl,?_⟩|refine And.intro (by first|omega|trivial|(show _=_;rfl)|(with_reducible constructor)<;>first|omega|trivial|rfl) ?_|refine (zCv l hl a c s) _ _ ?_|fail
 exact hQ _ (by omega)
def uG (g:List Pm):List ByteArray:=g.map (·.nm)
theorem zHO (g:List Pm):(uG g).length=g.length:=by simp [uG]
theorem zIq {g:List Pm} {es:List D} (h:Pms g es) (hg:g.length<=1073741824) (a:Option Addr) (c:Nat) (N:Nat) (Q:QT [.sl 0])
  (hQ:∀ a' c' N',N<=N'->Q a' (zB (uG g)) c' N'):ACalls prog 190 [.sl 0] [.sv a 4 es c] N Q:=by
 have hl:=h.all.len
 refine zAc N a es c Q fun _=>?_
 have key:=up h.all h.len (fun i xs=>∀ (q:Nat) (N':Nat),N<=N'->ye Q N (zB ((uG g).take i)).length q a es c es.length i (zB ((uG g).take i)) q N') ?_ ?_
 ·exact key 0 N (oE _)
 ·intro i hlt hi q N' hN'
  refine v8 _ _ _ _ _ _ _ _ _ _ _ _ ?_
  rw [oe (by rw [zHO];omega)]
  repeat' first|with_reducible intro _|simp only[hlt,Y1,Y2,Y3,Y4]|with_reducible refine X ?_ ?_|refine⟨_,_,_,rfl,?_⟩|refine⟨_,rfl,?_⟩|refine And.intro (by first|omega|trivial|(show _=_;rfl)|(with_reducible constructor)<;>first|omega|trivial|rfl) ?_|fail
  exact hQ _ _ _ (by omega)
 ·intro i x xs hat _ ih2 q N' hN'
  have hb:=hat.b
  have hm:=hat.m
  obtain ⟨t0,t1,hd',hnm,hty⟩:=hat.r
  refine v8 _ _ _ _ _ _ _ _ _ _ _ _ ?_
  have hat2:(uG g)[i]?=some x.nm:=by rw [uG,oF,hat.g];rfl
  repeat' first|with_reducible intro _|simp only[hat.lt,hat.w,oH,hd',Y1,Y2,Y3,Y4]|with_reducible refine X ?_ ?_|refine⟨_,_,_,rfl,?_⟩|refine⟨_,rfl,?_⟩|refine And.intro (by first|omega|trivial|(show _=_;rfl)|(with_reducible constructor)<;>first|omega|trivial|rfl) ?_|fail
  refine ⟨by unfold zA;rw [oI,zi,o0];simp only [oJ,oN];omega,fun c1=>?_⟩
  rw [xo,<-ya hat2]
  exact ih2 _ _ hN'
theorem zEp {α:Type} (p:α->Bool) (s:α) (hs:p s=true) (rest:List α):∀ (seen:List α) (k:Int),(qr p (seen++s::rest) k=k+seen.length↔seen.any p=false)/\qr p (seen++s::rest) k≥k
 | [],k=>by simp [qr,hs]
 | x :: seen,k=>by
   have ih:=zEp p s hs rest seen (k+1)
   simp only [nF,qr,mN,oJ]
   cases hx:p x with
   | true=>simp;omega
   | false=>
     simp only [nw,nR,Bool.false_or]
     refine ⟨?_,by omega⟩
     rw [<-ih.1];constructor<;>intro h<;>omega
theorem zOL {s:ByteArray} (l:List ByteArray):(l.any fun x=>decide (s=x))=l.any fun x=>decide (x=s):=by
 induction l with
 | nil=>rfl
 | cons x l ih=>simp only [mN,ih,eq_comm]
theorem zCD {g:List Pm} {es:List D} (h:Pms g es) (hg:g.length<=1073741824) (a:Option Addr) (c:Nat):w9 135 [.sv a 4 es c] (uq g):=fun N Q hQ=>by
 have hl:=h.all.len
 refine zBq N a es c Q fun _=>?_
 have hnl:=zHO g
 have key:=fun (h5:g.length<=5) a3 c3 (N2:Nat) (hN2:N<=N2)=>up h.all h.len (fun i xs=>∀ (N':Nat),N2<=N'->(∀ N'',N'<=N''->Q (rk ((uG g).take i) xs) N'')->yw Q N a3 (zB (uG g)) c3 a es c es.length i N') ?_ ?_
 ·repeat' first|with_reducible intro _|simp only[Y1,Y2,Y3,Y4]|with_reducible refine X ?_ ?_|refine⟨_,_,_,rfl,?_⟩|refine⟨_,rfl,?_⟩|refine And.intro (by first|omega|trivial|(show _=_;rfl)|(with_reducible constructor)<;>first|omega|trivial|rfl) ?_|refine (zIq h hg a c) _ _ ?_|fail
  ·refine Qb (hQ _ (by omega)) ?_
   have:¬g.length<=5:=by omega
   simp [uq,this]
  ·have h5:g.length<=5:=by omega
   refine key h5 _ _ _ ?_ _ (oE _) fun N'' hN''=>Qb (hQ N'' ?_) ?_
   all_goals first | omega | skip
   simp [uq,h5]
 ·intro i hlt hi N' hN' hQ'
  refine ud _ _ _ _ _ _ _ _ _ _ _ ?_
  repeat' first|with_reducible intro _|simp only[hlt,Y1,Y2,Y3,Y4]|with_reducible refine X ?_ ?_|refine⟨_,_,_,rfl,?_⟩|refine⟨_,rfl,?_⟩|refine And.intro (by first|omega|trivial|(show _=_;rfl)|(with_reducible constructor)<;>first|omega|trivial|rfl) ?_|fail
  refine Qb (hQ' _ (by omega)) ?_
  simp [rk]
 ·intro i x xs hat _ ih2 N' hN' hQ'
  have hb:=hat.b
  have hm:=hat.m
  obtain ⟨t0,t1,hd',hnm,hty⟩:=hat.r
  simp only [rk] at hQ'
  have hat2:(uG g)[i]?=some x.nm:=by rw [uG,oF,hat.g];rfl
  have hsp:=(zEp (fun y=>decide (x.nm=y)) x.nm (by simp) ((uG g).drop (i+1)) ((uG g).take i) 0).1
  have hcut:(uG g).take i++x.nm::(uG g).drop (i+1)=uG g:=by
   have hlt:i<(uG g).length:=(oB.1 hat2).1
   have:=(oB.1 hat2).2
   rw [<-this,mS,o9]
  rw [hcut,o0,zOL] at hsp
  have hmin:min i (uG g).length=i:=by omega
  rw [hmin] at hsp
  refine ud _ _ _ _ _ _ _ _ _ _ _ ?_
  repeat' first|with_reducible intro _|simp only[hat.lt,hat.w,oH,hd',Y1,Y2,Y3,Y4]|with_reducible refine X ?_ ?_|refine⟨_,_,_,rfl,?_⟩|refine⟨_,rfl,?_⟩|refine And.intro (by first|omega|trivial|(show _=_;rfl)|(with_reducible constructor)<;>first|omega|trivial|rfl) ?_|refine (vK x.nm hnm) _ _ ?_|refine (tR x.ty _ hty) _ _ ?_|refine (zED (uG g) (by omega) _ _ x.nm) _ _ ?_|fail
  ·refine Qb (hQ' _ (by omega)) ?_;simp [*]
  ·refine Qb (hQ' _ (by omega)) ?_;simp [*]
  ·rename_i hx _ _
   have hx2:¬((uG g).take i).any (fun y=>decide (y=x.nm))=false:=fun hc=>by have:=hsp.2 hc;omega
   have hx3:((uG g).take i).any (fun y=>decide (y=x.nm))=true:=by simpa using hx2
   refine Qb (hQ' _ (by omega)) ?_
   rw [hx3];simp
  ·rename_i hx
   have hx2:((uG g).take i).any (fun y=>decide (y=x.nm))=false:=hsp.1 (by omega)
   refine ih2 _ (by omega) fun N'' h2=>Qb (hQ' N'' (by omega)) ?_
   rw [hx2,ya hat2];simp [*]
theorem zJ1 {N N' M:Nat} {a:Option Addr} {d:D} (hb:vw M [a]) (h:Own N N' d) (hM:M<=N):Off [a] d:=fun b hbm ad had hc=>by
 have:=h.lo _ hc
 have:=hb b hbm ad had
 omega
theorem zNV {g:List Pm} (hp:uq g=true):zFc (yc g)=true:=by
 simp only [uq,oK,nD] at hp
 simp only [zFc,oK,nD,vm]
 refine ⟨?_,by omega⟩
 have:∀ l:List Pm,(∀ x∈l,ub x.nm=true/\x.ty.base=true)->zII (yc l)=true:=by
  intro l
  induction l with
  | nil=>intro _;rfl
  | cons p l ih=>
    intro h
    have h1:=h p (by simp)
    have h2:=ih fun x hx=>h x (by simp [hx])
    simp only [yc] at h2
    simp only [yc,o4,zII,Tg.ok,oK,h2,and_true]
    exact ⟨h1.1,(zFN h1.2).1,by decide⟩
 exact this g fun x hx=>zCS hp.1 hx
theorem zNI {g:List Pm} {e:Tm} (hp:uq g=true) (hv:e.vd=true) (hb:e.isB=true):zR g e=zE7 (yc g) e 0:=by
 have hv2:=hv
 simp only [Tm.vd,oK] at hv2
 rw [zR,if_pos ⟨hp,hv,hb⟩,zE7,if_pos ⟨zNV hp,by simp [zJB,hv2.2,zJV e hb]⟩]
theorem wD {g:List Pm} {es:List D} (h:Pms g es) (hg:g.length<=1073741824) (hc2:∀ x∈g,x.ty.cnt<=1073741824) {e:Tm} {d:D} (he:e.Is d) (hc:e.cnt<=1048576000 / 2) (a:Option Addr) (c:Nat):zSE 64 [.sv a 4 es c,.dg 9 d] (zR g e):=fun N Q hQ=>by
 have hl:=h.all.len
 refine zDN N a es c d Q fun _ _=>?_
 have key:=fun (hp:uq g=true) (hv:e.vd=true) (hb:e.isB=true)=>up h.all h.len (fun i xs=>∀ (done:List D) (q:Nat) (N':Nat),N<=N'->All2 Tg.Is ((yc g).take i) done->done.length=i->xJ Q N done.length q a es c es.length i d 0 none [] 0 done q N') ?_ ?_
 ·repeat' first|with_reducible intro _|simp only[Y1,Y2,Y3,Y4]|with_reducible refine X ?_ ?_|refine⟨_,_,_,rfl,?_⟩|refine⟨_,rfl,?_⟩|refine And.intro (by first|omega|trivial|(show _=_;rfl)|(with_reducible constructor)<;>first|omega|trivial|rfl) ?_|refine (zJb e d he) _ _ ?_|refine (zCD h hg a c) _ _ ?_|refine (pK e d he (by omega)) _ _ ?_|fail
  ·rw [show zR g e=none by unfold zR;rw [if_neg (by simp [*])]] at hQ
   exact hQ _ _ (by omega) (xw 0) yB
  ·rw [show zR g e=none by unfold zR;rw [if_neg (by simp [*])]] at hQ
   exact hQ _ _ (by omega) (xw 0) yB
  ·rw [show zR g e=none by unfold zR;rw [if_neg (by simp [*])]] at hQ
   exact hQ _ _ (by omega) (xw 0) yB
  ·exact key (by assumption) (by assumption) (by assumption) [] 0 _ (by omega) rfl rfl
 ·intro i hlt hi done q N' hN' hd hs
  refine tH _ _ _ _ _ _ _ _ _ _ _ _ _ _ _ _ _ ?_
  rw [oe (by rw [vm];omega)] at hd
  rw [zNI hp hv hb] at hQ
  have hcg:∀ x∈yc g,x.ty.cnt<=1073741824:=fun x hx=>by obtain ⟨p,hpg,rfl⟩:=zHw hx;exact hc2 p hpg
  repeat' first|with_reducible intro _|simp only[hlt,Y1,Y2,Y3,Y4]|with_reducible refine X ?_ ?_|refine⟨_,_,_,rfl,?_⟩|refine⟨_,rfl,?_⟩|refine And.intro (by first|omega|trivial|(show _=_;rfl)|(with_reducible constructor)<;>first|omega|trivial|rfl) ?_|fail
  rename_i ad hapa hoff N1 hN1 hbel
  refine zHF ⟨by omega,hd⟩ hcg he hc ad q 0 N1 _ fun x N2 hN2 hx hox _=>?_
  exact ⟨zJ1 hbel hox (oE _),fun _ N3 hN3=>hQ _ _ (by omega) hx (hox.mono (by omega) hN3)⟩
 ·intro i x xs hat _ ih2 done q N' hN' hd hs
  have hb:=hat.b
  have hm:=hat.m
  obtain ⟨t0,t1,hd',hnm,hty⟩:=hat.r
  refine tH _ _ _ _ _ _ _ _ _ _ _ _ _ _ _ _ _ ?_
  have hat2:(yc g)[i]?=some ⟨x.nm,x.ty,0⟩:=by rw [yc,oF,hat.g];rfl
  repeat' first|with_reducible intro _|simp only[hat.lt,hat.w,oH,hd',Y1,Y2,Y3,Y4]|with_reducible refine X ?_ ?_|refine⟨_,_,_,rfl,?_⟩|refine⟨_,rfl,?_⟩|refine And.intro (by first|omega|trivial|(show _=_;rfl)|(with_reducible constructor)<;>first|omega|trivial|rfl) ?_|fail
  refine ⟨by unfold zA;rw [oI];simp only [oJ,oN];omega,fun c1=>?_⟩
  exact ih2 _ _ _ hN' (by rw [ya hat2];exact hd.snoc ⟨_,_,rfl,hnm,hty⟩) (by simp [hs])
theorem tQ:∀ l:List ByteArray,zD (zB l)=[]
 | []=>rfl
 | s::l=>by simp only [zB,o4,zD,D.foot,oT];exact tQ l
theorem zCy:∀ l:List ByteArray,xQ (zB l)
 | []=>trivial
 | s::l=>⟨trivial,zCy l⟩
theorem zFL {N N':Nat} (l:List ByteArray):OwnL N N' (zB l):=⟨by rw [tQ];simp,zCy l,by rw [tQ];simp,by rw [tQ];simp⟩
theorem zFA:∀ l:List ByteArray,All2 (fun s d=>d=.lit (.string s)) l (zB l)
 | []=>rfl
 | s::l=>⟨_,_,rfl,rfl,zFA l⟩
def ry {α:Type} (g:List α) (i:Nat):List α:=g.take i++g.drop (i+1)
def uB (g:List Pm) (e:Tm):Nat->List Pm->List ByteArray
 | _,[]=>[]
 | i,x::xs=>if (zR (ry g i) e).isSome then uB g e (i+1) xs else x.nm::uB g e (i+1) xs
def uo (g:List Pm) (e:Tm):List ByteArray:=if (zR g e).isSome then uB g e 0 g else []
theorem zEn (g:List Pm) (e:Tm):∀ (xs:List Pm) (i:Nat),(uB g e i xs).length<=xs.length
 | [],_=>oE _
 | x::xs,i=>by
   have:=zEn g e xs (i+1)
   simp only [uB]
   split<;>simp<;>omega
theorem zL2 (g:List Pm) (e:Tm):(uo g e).length<=g.length:=by
 unfold uo
 split
 ·exact zEn g e g 0
 ·simp
theorem All2.take {α:Type} {R:α->D->Prop}:∀ {l:List α} {es:List D} (i:Nat),All2 R l es->All2 R (l.take i) (es.take i)
 | _,_,0,_=>rfl
 | [],es,i+1,h=>by cases h;rfl
 | x::l,es,i+1,h=>by
   obtain ⟨d,ds,rfl,h1,h2⟩:=h
   exact ⟨d,ds.take i,rfl,h1,All2.take i h2⟩
theorem All2.drop {α:Type} {R:α->D->Prop}:∀ {l:List α} {es:List D} (i:Nat),All2 R l es->All2 R (l.drop i) (es.drop i)
 | _,_,0,h=>h
 | [],es,i+1,h=>by cases h;rfl
 | x::l,es,i+1,h=>by
   obtain ⟨d,ds,rfl,h1,h2⟩:=h
   exact All2.drop i h2
theorem zM3 {g:List Pm} {es:List D} (h:Pms g es) (i:Nat):Pms (ry g i) (ry es i):=by
 refine ⟨?_,All2.app (h.all.take i) (h.all.drop (i+1))⟩
 have:=h.len
 simp only [ry,oI,o0,nx]
 omega
theorem zP7 {α:Type} {g:List α} {i:Nat} {x:α} (h:x∈ry g i):x∈g:=by
 rcases oM.1 h with h | h
 ·exact oS h
 ·exact oU h
theorem zGL {α:Type} (g:List α) (i:Nat):(ry g i).length<=g.length:=by
 simp only [ry,oI,o0,nx];omega
theorem zCG {es:List D} (i:Nat):([]++(es.take i).drop 0)++(es.take es.length).drop (i+1)=ry es i:=by simp [ry]
/-- names, handed back as rows of their own -/
def zQ9 (f:FuncId) (args:List PV) (l:List ByteArray):Prop:=∀ (N:Nat) (Q:QT [.sl 0]),(∀ a c N',N<=N'->Own N N' (.sl a 0 (zB l) c)->Q a (zB l) c N')->ACalls prog f [.sl 0] args N Q
theorem zOY {N N' z c:Nat}:Own N N' (.sl none z [] c):=⟨by simp [D.foot,zD],⟨by simp,trivial⟩,by simp [D.foot,zD],by simp [D.foot,zD]⟩
theorem qU {g:List Pm} {es:List D} (h:Pms g es) (hg:g.length<=1073741824) {e:Tm} {d:D} (he:e.Is d) (hc:e.cnt<=536870000) (a:Option Addr) (c:Nat):zQ9 18 [.sv a 4 es c,.dg 9 d] (uo g e):=fun N Q hQ=>by
 have hl:=h.all.len
 refine ql N a es c d Q fun _ _ N1 hN1=>?_
 refine xD h hg he hc a c N1 _ fun x0 N2 hN2 _ hle _=>?_
 unfold uo at hQ
 have fin:∀ (l:List ByteArray) (m cc:Nat) (N':Nat),N<=N'->l=uo g e->m=(zB l).length->(m=(zB l).length/\cc=cc)/\(m=(zB l).length/\cc=cc)/\(m=(zB l).length/\cc=cc)/\∀ a_1 N4,N'<=N4->Fresh N N4 a_1 [D.ag (zB l)]->∀ N5,N4<=N5->Q a_1 (zB l) cc N5:=by
  intro l m cc N' hN' hl hm
  refine ⟨⟨hm,rfl⟩,⟨hm,rfl⟩,⟨hm,rfl⟩,fun a1 N4 h4 hf N5 h5=>?_⟩
  subst hl
  exact hQ _ _ _ (by omega) ((uL (zFL _) hf (by omega)).mono (oE _) h5)
 cases hb:(zR g e).isSome with
 | false=>
   refine xH _ _ _ _ _ _ _ _ _ _ _ _ _ ?_
   have hf:=fin [] 0 0 N2 (by omega) (by unfold uo;rw [hb];rfl) rfl
   exact Br.dec (fun _=>hf) fun _=>hf
 | true=>
   have key:=up h.all h.len (fun i xs=>∀ (l:List ByteArray) (cc:Nat) (N':Nat),N<=N'->l.length<=i->uo g e=l++uB g e i xs->zw Q N a es c (zB l).length cc true i d (zB l) cc N') ?_ ?_
   ·exact key [] 0 N2 (by omega) (oE _) (by unfold uo;rw [hb];rfl)
   ·intro i hlt hi l cc N' hN' hll hn
    refine xH _ _ _ _ _ _ _ _ _ _ _ _ _ ?_
    have hf:=fin l _ cc N' hN' (by rw [hn];simp [uB]) rfl
    exact Br.dec (fun hc=>absurd hc (by omega)) fun _=>hf
   ·intro i x xs hat _ ih2 l cc N' hN' hll hn
    have hb2:=hat.b
    have hlen:=h.len
    obtain ⟨t0,t1,hd',hnm,hty⟩:=hat.r
    refine xH _ _ _ _ _ _ _ _ _ _ _ _ _ ?_
    have hti:((es.length:Int)).toNat=es.length:=oH _
    have hi1:((i:Int)+1).toNat=i+1:=by omega
    simp only [hat.lt,qf,i64_in ((i:Int)+1) (by omega),oH,hti,hi1,zCG]
    have hcl:=zGL es i
    refine ⟨⟨by omega,by omega,by omega⟩,by simp,by unfold zA;simp;omega,fun c0=>⟨⟨by omega,by omega,by omega⟩,by simp,?_,fun c1=>⟨by simp,by simp,by simp,fun a1 N3 hN3 _ N4 hN4=>?_⟩⟩⟩
    ·unfold zA;rw [zCG];omega
    refine xD (zM3 h i) (by have:=zGL g i;omega) he hc a1 c1 N4 _ fun x1 N5 hN5 _ hle5 _=>?_
    simp only [uB] at hn
    cases hbi:(zR (ry g i) e).isSome with
    | true=>
      rw [hbi,if_pos rfl] at hn
      simp only [mg,pC]
      exact ih2 l cc N5 (by omega) (by omega) hn
    | false=>
      rw [hbi] at hn
      simp only [nw,nR] at hn
      simp only [mr,qf,mL]
      refine ⟨⟨by omega,by omega⟩,x.nm,by rw [hd'];rfl,by simp,by unfold zA;rw [oI,zi];simp only [oJ,oN];omega,fun c2=>?_⟩
      rw [xo]
      exact ih2 _ _ _ (by omega) (by simp;omega) (by rw [hn];simp)
theorem v7 {g:List Pm} {es:List D} (h:Pms g es) (hg:g.length<=1073741824) (hc2:∀ x∈g,x.ty.cnt<=1073741824) {e:Tm} {d:D} (he:e.Is d) (hc:e.cnt<=1048576000 / 2) (a:Option Addr) (c:Nat):zQ9 17 [.sv a 4 es c,.dg 9 d] (uo g e):=fun N Q hQ=>by
 have hl:=h.all.len
 refine qc N a es c d Q fun _ _ N1 hN1=>?_
 refine wD h hg hc2 he hc a c N1 _ fun x0 N2 hN2 _ _ hle _=>?_
 cases hb:(zR g e).isSome with
 | false=>
   simp only [mr,qf]
   intro N3 hN3
   have e0:uo g e=[]:=by unfold uo;rw [hb];rfl
   rw [e0] at hQ
   exact hQ none 0 N3 (by omega) zOY
 | true=>
   simp only [mg,pC]
   have key:=up h.all h.len (fun i xs=>∀ (l:List ByteArray) (cc:Nat) (N':Nat),N<=N'->l.length<=i->uo g e=l++uB g e i xs->zu Q N a es c (zB l).length cc a es c es.length i d (zB l) cc N') ?_ ?_
   ·exact key [] 0 N2 (by omega) (oE _) (by unfold uo;rw [hb];rfl)
   ·intro i hlt hi l cc N' hN' hll hn
    refine w7 _ _ _ _ _ _ _ _ _ _ _ _ _ _ _ _ ?_
    have e0:l=uo g e:=by rw [hn];simp [uB]
    subst e0
    refine Br.dec (fun hc=>absurd hc (by omega)) fun _=>⟨⟨rfl,rfl⟩,⟨rfl,rfl⟩,⟨rfl,rfl⟩,fun a1 N4 h4 hf N5 h5=>?_⟩
    exact hQ _ _ _ (by omega) ((uL (zFL _) hf (by omega)).mono (oE _) h5)
   ·intro i x xs hat _ ih2 l cc N' hN' hll hn
    have hb2:=hat.b
    have hlen:=h.len
    obtain ⟨t0,t1,hd',hnm,hty⟩:=hat.r
    refine w7 _ _ _ _ _ _ _ _ _ _ _ _ _ _ _ _ ?_
    have hti:((es.length:Int)).toNat=es.length:=oH _
    have hi1:((i:Int)+1).toNat=i+1:=by omega
    simp only [hat.lt,qf,i64_in ((i:Int)+1) (by omega),oH,hti,hi1,zCG]
    have hcl:=zGL es i
    refine ⟨⟨by omega,by omega⟩,⟨by omega,by omega,by omega⟩,⟨by omega,by omega,by omega⟩,by simp,by unfold zA;simp;omega,fun c0=>⟨by simp,?_,fun c1=>⟨by simp,by simp,by simp,fun a1 N3 hN3 _ N4 hN4=>?_⟩⟩⟩
    ·unfold zA;rw [zCG];omega
    refine wD (zM3 h i) (by have:=zGL g i;omega) (fun y hy=>hc2 y (zP7 hy)) he hc a1 c1 N4 _ fun x1 N5 hN5 _ _ hle5 _=>?_
    simp only [uB] at hn
    cases hbi:(zR (ry g i) e).isSome with
    | true=>
      rw [hbi,if_pos rfl] at hn
      simp only [mg,pC]
      exact ih2 l cc N5 (by omega) (by omega) hn
    | false=>
      rw [hbi] at hn
      simp only [nw,nR] at hn
      simp only [mr,qf]
      refine ⟨x.nm,by rw [hd'];rfl,by simp,by unfold zA;rw [oI,zi];simp only [oJ,oN];omega,fun c2=>?_⟩
      rw [xo]
      exact ih2 _ _ _ (by omega) (by simp;omega) (by rw [hn];simp)
end Go.Proofs.YtkdjhkfiolhkiaaGreat
