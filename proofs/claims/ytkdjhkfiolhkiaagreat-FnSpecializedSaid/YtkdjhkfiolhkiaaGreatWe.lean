/- Which parts of a body come late, one by one: lists of truth values; the reference and the program. -/
import Derived.Test.YtkdjhkfiolhkiaaGreatWp
import Derived.Test.YtkdjhkfiolhkiaaGreatWm
set_option linter.unusedVariables false
set_option linter.unusedSimpArgs false
namespace Go.Proofs.YtkdjhkfiolhkiaaGreat
open Go Go.Proofs Go.Proofs.Tryz Go.IntWalk
theorem zOl (b:Bool):tz 73 [.bool b] ((if b then 1 else 0:Nat):Int):=fun N Q hQ=>zIA N b Q (Br.of (fun h N1 hN1=>Qi (hQ _ hN1) (by rw [h];rfl)) fun h N1 hN1=>Qi (hQ _ hN1) (by rw [h];rfl))
theorem zQA (b:Bool):tz 72 [.bool b] ((if b then 1 else 0:Nat):Int):=fun N Q hQ=>zKG N b Q (Br.of (fun h N1 hN1=>Qi (hQ _ hN1) (by rw [h];rfl)) fun h N1 hN1=>Qi (hQ _ hN1) (by rw [h];rfl))
/-- a name and its number -/
abbrev Nb:=ByteArray × Int
def wn (nm:ByteArray) (v:List Nb):Option Int:=(v.reverse.find? fun p=>decide (p.1=nm)).map (·.2)
theorem xD {nm:ByteArray} {v:List Nb} {b:Nb}:wn nm (v++[b])=if b.1=nm then some b.2 else wn nm v:=by
 unfold wn
 rw [md]
 by_cases h:b.1=nm<;>simp [h]
def red (n:Int):Int:=n % 10007
def bI (b:Bool):Int:=if b then 1 else 0
def yV (s:ByteArray) (a b:Int):Int × Bool:=
 if inB a 0 10006=true then (if inB b 0 10006=true then
  (if s=bytes [43] then (red (a+b),true) else if s=bytes [45] then (red (a - b),true) else if s=bytes [42] then (red (a*b),true)
  else if s=bytes [61] then (bI (a==b),true) else if s=bytes [60] then (bI (decide (a<b)),true)
  else if s=bytes [38] then (bI (a==1&&b==1),true) else if s=bytes [124] then (bI (a==1||b==1),true)
  else if s=bytes [33] then (bI (a==0),true) else (0,false)) else (0,false)) else (0,false)
mutual
def Tm.ev:Tm->List Nb->Int
 | .mk k nm _ n _ _ l,v=>if k=1 then (wn nm v).getD n else if k=4 then (yV nm (qb l 0 v) (qb l 1 v)).1 else if k=5 then qb l (2 - qb l 0 v).toNat v
   else if k=8 then qb l 1 (v++[(nm,qb l 0 v)]) else n
def qb:List Tm->Nat->List Nb->Int
 | [],_,_=>0
 | t::_,0,v=>t.ev v
 | _::ts,i+1,v=>qb ts i v
end
def zBm (t:Ty) (n:Int):Bool:=if t.k=2 then inB n 0 1 else inB n 0 10006
theorem zDv (b:Bool):0<=bI b/\bI b<=1:=by cases b<;>decide
theorem zMA (n:Int):0<=red n/\red n<=10006:=by unfold red;omega
theorem zKb (s:ByteArray) (a b:Int):0<=(yV s a b).1/\(yV s a b).1<=10006:=by
 have h1:=zMA (a+b);have h2:=zMA (a - b);have h3:=zMA (a*b)
 have h4:=zDv (a==b);have h5:=zDv (decide (a<b));have h6:=zDv (a==1&&b==1);have h7:=zDv (a==1||b==1);have h8:=zDv (a==0)
 unfold yV
 (repeat' split)<;>constructor<;>first | omega | (simp only;omega)
theorem zGd {s:ByteArray} (n1:¬s=bytes [43]) (n2:¬s=bytes [45]) (n3:¬s=bytes [42]) (a b:Int):0<=(yV s a b).1/\(yV s a b).1<=1:=by
 have h4:=zDv (a==b);have h5:=zDv (decide (a<b));have h6:=zDv (a==1&&b==1);have h7:=zDv (a==1||b==1);have h8:=zDv (a==0)
 unfold yV
 rw [if_neg n1,if_neg n2,if_neg n3]
 (repeat' split)<;>constructor<;>first | omega | (simp only;omega)
/-- numbers for the names of a typing -/
structure Fit (v:List Nb) (g:List Tg):Prop where
 len:v.length=g.length
 at_:∀ (i:Nat) (x:Tg) (y:Nb),g[i]?=some x->v[i]?=some y->x.nm=y.1/\zBm x.ty y.2=true
theorem Fit.snoc {v:List Nb} {g:List Tg} (h:Fit v g) {x:Tg} {y:Nb} (h1:x.nm=y.1) (h2:zBm x.ty y.2=true):Fit (v++[y]) (g++[x]):=by
 refine ⟨by simp [h.len],fun i a b ha hb=>?_⟩
 by_cases hi:i<g.length
 ·rw [oM hi] at ha
  rw [oM (by have:=h.len;omega)] at hb
  exact h.at_ i a b ha hb
 ·rw [oO (by omega)] at ha
  rw [oO (by have:=h.len;omega),h.len] at hb
  cases hj:i - g.length with
  | zero=>rw [hj] at ha hb;simp at ha hb;subst ha;subst hb;exact ⟨h1,h2⟩
  | succ j=>rw [hj] at ha;simp at ha
theorem zJy {v:List Nb} {g:List Tg} (h:Fit v g) (s:ByteArray):∀ n:Nat,n<=g.length->0<=vT g s n->∃ m,wn s (v.take n)=some m/\zBm (g.getD (vT g s n).toNat tg0).ty m=true
 | 0,_,h0=>by simp [vT] at h0
 | n+1,hn,h0=>by
   have hlt:n<v.length:=by have:=h.len;omega
   have hlg:n<g.length:=by omega
   have hv:v[n]?=some v[n]:=oD hlt
   have hg:g[n]?=some g[n]:=oD hlg
   have hgd:g.getD n tg0=g[n]:=by simp [oA,hg]
   obtain ⟨e1,e2⟩:=h.at_ n _ _ hg hv
   rw [zY hv,xD]
   simp only [vT,hgd] at h0 ⊢
   by_cases hs:g[n].nm=s
   ·rw [if_pos (by rw [<-e1];exact hs),if_pos hs]
    exact ⟨_,rfl,by rw [oG,hgd];exact e2⟩
   ·rw [if_neg (by rw [<-e1];exact hs)]
    rw [if_neg hs] at h0 ⊢
    exact zJy h s n (by omega) h0
theorem zLS {v:List Nb} {g:List Tg} (h:Fit v g) {s:ByteArray} {t:Ty} (ht:rZ g s 0=some t):∃ m,wn s v=some m/\zBm t m=true:=by
 unfold rZ at ht
 split at ht
 ·cases ht
 ·rename_i h0
  split at ht
  ·cases ht
   have:=zJy h s g.length (oF _) (by unfold yC at h0;omega)
   rw [<-h.len,mS] at this
   have e:vT g s v.length=yC g s:=by rw [h.len];rfl
   rw [e] at this
   exact this
  ·cases ht
theorem yD {x:Tm} {ts:List Tm} {g:List Tg} {n:Int} {us:List Ty} (h:zf (x::ts) g n=some us):∃ u vs,x.type g n=some u/\zf ts g n=some vs/\us=u::vs:=by
 simp only [zf] at h
 split at h
 ·rename_i u hu
  split at h
  ·rename_i vs hvs
   cases h
   exact ⟨u,vs,hu,hvs,rfl⟩
  ·cases h
 ·cases h
theorem pU {n:Int} {t:Ty} (ht:t.k=2) (h:zBm t n=true):n=0\/n=1:=by
 unfold zBm at h
 rw [if_pos ht,yG] at h
 omega
theorem zI8 {n:Int} {t:Ty} (h:0<=n/\n<=(if t.k=2 then 1 else 10006)):zBm t n=true:=by
 unfold zBm
 split at h<;>rename_i hk
 ·rw [if_pos hk,yG];omega
 ·rw [if_neg hk,yG];omega
theorem qK:∀ (t:Tm),t.ok=true->t.isB=true->∀ (g:List Tg) (v:List Nb),Fit v g->∀ u,t.type g 0=some u->zBm u (t.ev v)=true:=by
 refine Tm.ind fun k nm ot n ty re l ih hok hb g v hf u hu=>?_
 have node:=zX hok
 simp only [Tm.isB,oI,zAe,nU,yG,np] at hb
 obtain ⟨hbl,hk⟩:=hb
 have ihl:∀ x∈l,∀ g v,Fit v g->∀ u,x.type g 0=some u->zBm u (x.ev v)=true:=fun x hx=>ih x hx (node.sub x hx) (xH hbl hx)
 have har:=node.ar
 have hfo:=node.f
 simp only [yH,oI] at hfo
 have hin:=hfo.2.2.2.2.1
 rw [yG] at hin
 simp only [Tm.type] at hu
 obtain ⟨hu,hval⟩:=pZ hu
 simp only [Tm.ev]
 by_cases h1:k=1
 ·rw [if_pos h1] at hu ⊢
  obtain ⟨m,e1,e2⟩:=zLS hf hu
  rw [e1];exact e2
 rw [if_neg h1] at hu ⊢
 by_cases h4:k=4
 ·subst h4
  rw [if_neg (by omega),if_neg (by omega),if_neg (by omega),if_neg (by omega),if_neg (by omega),if_neg (by omega)] at hu
  rw [if_pos rfl]
  split at hu
  ·rename_i ts hts
   unfold yW at hu
   rw [if_pos rfl] at hu
   unfold zNq at hu
   split at hu
   ·cases hu
    refine zI8 ?_
    have hin:=zKb nm (qb l 0 v) (qb l 1 v)
    split
    ·rename_i h2
     unfold zBg at h2
     by_cases c1:nm=bytes [43]
     ·simp [c1,tInt,Ty.k] at h2
     by_cases c2:nm=bytes [45]
     ·simp [c1,c2,tInt,Ty.k] at h2
     by_cases c3:nm=bytes [42]
     ·simp [c1,c2,c3,tInt,Ty.k] at h2
     exact zGd c1 c2 c3 _ _
    ·exact hin
   ·cases hu
  ·cases hu
 rw [if_neg h4]
 by_cases h5:k=5
 ·subst h5
  rw [if_neg (by omega),if_neg (by omega),if_neg (by omega),if_neg (by omega),if_neg (by omega),if_neg (by omega)] at hu
  rw [if_pos rfl]
  rw [show tq 5 nm=3 from rfl] at har
  match l,har with
  | [x0,x1,x2],_=>
    split at hu
    ·rename_i ts hts
     obtain ⟨u0,us0,e0,h6,e3⟩:=yD hts
     obtain ⟨u1,us1,e1,h7,e4⟩:=yD h6
     obtain ⟨u2,us2,e2,h8,e5⟩:=yD h7
     subst e5;subst e4;subst e3
     unfold yW at hu
     rw [if_neg (by omega),if_pos rfl] at hu
     split at hu
     ·rename_i hc
      simp only [mH,me,sx] at hc hu
      cases hu
      have hc0:=pU hc.1 (ihl x0 (by simp) g v hf _ e0)
      have ev0:qb [x0,x1,x2] 0 v=x0.ev v:=rfl
      rw [ev0]
      rcases hc0 with hc0 | hc0
      ·rw [hc0];rw [hc.2];exact ihl x2 (by simp) g v hf _ e2
      ·rw [hc0];exact ihl x1 (by simp) g v hf _ e1
     ·cases hu
    ·cases hu
  | [],h=>simp at h
  | [_],h=>simp at h
  | [_,_],h=>simp at h
  | _::_::_::_::_,h=>simp at h;omega
 rw [if_neg h5]
 by_cases h8:k=8
 ·subst h8
  rw [if_neg (by omega),if_neg (by omega),if_neg (by omega),if_pos rfl] at hu
  rw [if_pos rfl]
  rw [show tq 8 nm=2 from rfl] at har
  match l,har with
  | [x0,x1],_=>
    simp only [wt] at hu
    split at hu
    ·rename_i a ha
     exact ihl x1 (by simp) _ _ (hf.snoc rfl (ihl x0 (by simp) g v hf _ ha)) _ hu
    ·cases hu
  | [],h=>simp at h
  | [_],h=>simp at h
  | _::_::_::_,h=>simp at h;omega
 rw [if_neg h8]
 have hk23:k=2\/k=3:=by omega
 rcases hk23 with rfl | rfl
 ·rw [if_pos rfl] at hu;cases hu
  refine zI8 ?_
  simpa [tInt,Ty.k] using hin
 ·rw [if_neg (by omega),if_pos rfl] at hu;cases hu
  refine zI8 ?_
  simpa [tBool,Ty.k] using hin
theorem zNy {a b:Int} (ha:0<=a/\a<=10006) (hb:0<=b/\b<=10006):0<=a*b/\a*b<=100120036:=by
 refine ⟨Int.mul_nonneg ha.1 hb.1,?_⟩
 have h1:a*b<=10006*b:=Int.mul_le_mul_of_nonneg_right ha.2 hb.1
 omega
theorem zJS (n:Int):(if Int.tmod n 10007<0 then Int.tmod n 10007+10007 else Int.tmod n 10007)=red n:=by
 unfold red
 by_cases h:0<=n
 ·rw [ny h,if_neg (by omega)]
 ·obtain ⟨m,rfl⟩:∃ m,n = -m:=⟨-n,by omega⟩
  rw [Int.neg_tmod,ny (by omega)]
  split<;>omega
theorem zNz (n:Int) : -10007<Int.tmod n 10007/\Int.tmod n 10007<10007:=by
 by_cases h:0<=n
 ·rw [ny h];omega
 ·obtain ⟨m,rfl⟩:∃ m,n = -m:=⟨-n,by omega⟩
  rw [Int.neg_tmod,ny (by omega)]
  omega
theorem zFN (n:Int):tz 194 [.int .i64 n] (red n):=fun N Q hQ=>by
 have hb:=zNz n
 have hr:=zJS n
 refine zF3 N n Q ⟨by omega,Br.dec (fun h N1 hN1=>?_) fun h N2 hN2=>?_⟩
 ·rw [i64_in _ (by omega)]
  rw [if_pos h] at hr
  exact Qi (hQ _ hN1) hr.symm
 ·rw [if_neg h] at hr
  exact Qi (hQ _ hN2) hr.symm
theorem zEz (n:Int):tz 240 [.int .i64 n] (red n):=fun N Q hQ=>by
 have hb:=zNz n
 have hr:=zJS n
 refine zF7 N n Q ⟨by omega,by omega,fun N1 hN1=>?_⟩
 rw [i64_in _ (by omega)]
 refine Qi (hQ _ hN1) ?_
 rw [<-hr]
 generalize Int.tmod n 10007=m at *
 rw [ny (by omega)]
 split<;>omega
/-- returns this number and this truth value -/
def zKh (f:FuncId) (args:List PV) (r:Int × Bool):Prop:=∀ (N:Nat) (Q:QT [.int .i64,.bool]),(∀ N',N<=N'->Q r.1 r.2 N')->ACalls prog f [.int .i64,.bool] args N Q
theorem Qp {Q:QT [.int .i64,.bool]} {a b:Int × Bool} {N:Nat} (h:Q a.1 a.2 N) (e:a=b):Q b.1 b.2 N:=e ▸ h
theorem zMs (b:Bool):tz 73 [.bool b] (bI b):=fun N Q hQ=>zOl b N Q fun N' h=>Qi (hQ N' h) (by cases b<;>rfl)
theorem zPX (b:Bool):tz 72 [.bool b] (bI b):=fun N Q hQ=>zQA b N Q fun N' h=>Qi (hQ N' h) (by cases b<;>rfl)
theorem rv (s:ByteArray) (a b:Int):zKh 142 [.str s,.int .i64 a,.int .i64 b] (yV s a b):=fun N Q hQ=>by
 refine zDb N s a b Q fun N1 hN1=>xm _ _ _ N1 _ fun N2 hN2 _=>?_
 by_cases ha:inB a 0 10006=true
 rotate_left
 ·have ha:inB a 0 10006=false:=by simpa using ha
  rw [ha]
  simp only [Bool.not_false,zEr]
  have e:yV s a b=(0,false):=by unfold yV;rw [if_neg (by rw [ha];decide)]
  exact fun N3 hN3=>Qp (b:=(0,false)) (hQ N3 (by omega)) e
 rw [ha]
 simp only [mp,zBp]
 intro N4 hN4
 refine xm _ _ _ N4 _ fun N5 hN5 _=>?_
 by_cases hb:inB b 0 10006=true
 rotate_left
 ·have hb:inB b 0 10006=false:=by simpa using hb
  rw [hb]
  simp only [Bool.not_false,zEr]
  have e:yV s a b=(0,false):=by unfold yV;rw [if_pos ha,if_neg (by rw [hb];decide)]
  exact fun N3 hN3=>Qp (b:=(0,false)) (hQ N3 (by omega)) e
 rw [hb]
 simp only [mp,zBp]
 have hai:=yG.1 ha
 have hbi:=yG.1 hb
 have hm:=zNy hai hbi
 rw [i64_in (a+b) (by omega),i64_in (a - b) (by omega),i64_in (a*b) (by omega)]
 have fin:∀ (x:Int) (y:Bool) (N':Nat),N<=N'->yV s a b=(x,y)->Q x y N':=fun x y N' h e=>Qp (b:=(x,y)) (hQ N' h) e
 unfold yV at fin
 rw [if_pos ha,if_pos hb] at fin
 clear hQ
 repeat' first|with_reducible intro _|simp only[Y1,Y2,Y3,Y4]|with_reducible refine X ?_ ?_|refine⟨_,_,_,rfl,?_⟩|refine⟨_,rfl,?_⟩|refine And.intro (by first|omega|trivial|(show _=_;rfl)|(with_reducible constructor)<;>first|omega|trivial|rfl) ?_|refine (zFN _) _ _ ?_|refine (zMs _) _ _ ?_|fail
 all_goals
  refine fin _ _ _ (by omega) ?_
  (repeat' split)<;>first | rfl | contradiction | (simp_all;done) | (congr 1;rw [show (a==1)=false by simpa using ‹¬a=1›];rfl)
theorem r9 (s:ByteArray) (a b:Int):zKh 199 [.str s,.int .i64 a,.int .i64 b] (yV s a b):=fun N Q hQ=>by
 refine zD5 N s a b Q fun N1 hN1=>wC _ N1 _ fun N2 hN2 _=>?_
 by_cases ha:inB a 0 10006=true
 rotate_left
 ·have ha:inB a 0 10006=false:=by simpa using ha
  rw [ha]
  simp only [Bool.not_false,zEr]
  have e:yV s a b=(0,false):=by unfold yV;rw [if_neg (by rw [ha];decide)]
  exact fun N3 hN3=>Qp (b:=(0,false)) (hQ N3 (by omega)) e
 rw [ha]
 simp only [mp,zBp]
 intro N4 hN4
 refine wC _ N4 _ fun N5 hN5 _=>?_
 by_cases hb:inB b 0 10006=true
 rotate_left
 ·have hb:inB b 0 10006=false:=by simpa using hb
  rw [hb]
  simp only [Bool.not_false,zEr]
  have e:yV s a b=(0,false):=by unfold yV;rw [if_pos ha,if_neg (by rw [hb];decide)]
  exact fun N3 hN3=>Qp (b:=(0,false)) (hQ N3 (by omega)) e
 rw [hb]
 simp only [mp,zBp]
 have hai:=yG.1 ha
 have hbi:=yG.1 hb
 have hm:=zNy hai hbi
 rw [i64_in (a+b) (by omega),i64_in (a - b) (by omega),i64_in (a*b) (by omega)]
 have fin:∀ (x:Int) (y:Bool) (N':Nat),N<=N'->yV s a b=(x,y)->Q x y N':=fun x y N' h e=>Qp (b:=(x,y)) (hQ N' h) e
 unfold yV at fin
 rw [if_pos ha,if_pos hb] at fin
 clear hQ
 repeat' first|with_reducible intro _|simp only[Y1,Y2,Y3,Y4]|with_reducible refine X ?_ ?_|refine⟨_,_,_,rfl,?_⟩|refine⟨_,rfl,?_⟩|refine And.intro (by first|omega|trivial|(show _=_;rfl)|(with_reducible constructor)<;>first|omega|trivial|rfl) ?_|refine (zEz _) _ _ ?_|refine (zPX _) _ _ ?_|fail
 all_goals
  refine fin _ _ _ (by omega) ?_
  (repeat' split)<;>first | rfl | contradiction | (simp_all;done) | (congr 1;rw [show (a==1)=false by simpa using ‹¬a=1›];rfl)
theorem ro {t:Ty} {d:D} (hd:t.Is d) (n:Int):wm 74 [.dg 2 d,.int .i64 n] (zBm t n):=fun N Q hQ=>by
 cases t with
 | mk k l=>
 obtain ⟨a,es,c,rfl,hlen,hes⟩:=Ty.is_mk.1 hd
 refine zDc N _ n Q fun _=>⟨_,rfl,Br.beq (fun h N1 hN1=>?_) fun h N4 hN4=>?_⟩
 ·refine xm _ _ _ N1 _ fun N2 hN2 _ N3 hN3=>Qb (hQ _ (by omega)) ?_
  unfold zBm;rw [show (Ty.mk k l).k=k from rfl,if_pos h]
 ·refine xm _ _ _ N4 _ fun N2 hN2 _ N3 hN3=>Qb (hQ _ (by omega)) ?_
  unfold zBm;rw [show (Ty.mk k l).k=k from rfl,if_neg h]
theorem zG3 {t:Ty} {d:D} (hd:t.Is d) (n:Int):wm 195 [.dg 2 d,.int .i64 n] (zBm t n):=fun N Q hQ=>by
 cases t with
 | mk k l=>
 obtain ⟨a,es,c,rfl,hlen,hes⟩:=Ty.is_mk.1 hd
 refine zHa N _ n Q fun _=>⟨_,rfl,Br.beq (fun h N1 hN1=>?_) fun h N4 hN4=>?_⟩
 ·refine zq _ _ _ N1 _ fun N2 hN2 _ N3 hN3=>Qb (hQ _ (by omega)) ?_
  unfold zBm;rw [show (Ty.mk k l).k=k from rfl,if_pos h]
 ·refine wC _ N4 _ fun N2 hN2 _ N3 hN3=>Qb (hQ _ (by omega)) ?_
  unfold zBm;rw [show (Ty.mk k l).k=k from rfl,if_neg h]
def nbD (b:Nb):D:=.ag [.lit (.string b.1),.lit (.int .i64 b.2)]
theorem zO5 {v:List Nb} {i:Nat} {b:Nb} (h:v[i]?=some b):(v.map nbD).getD i default=nbD b:=by simp [oA,h]
theorem rC:∀ {l:List Tm} {g:List Tg} {n:Int} {ts:List Ty},zf l g n=some ts->∀ x∈l,∃ u,x.type g n=some u
 | y::ys,g,n,ts,h,x,hx=>by
   obtain ⟨u,vs,h1,h2,_⟩:=yD h
   rcases oJ.1 hx with rfl | hx
   ·exact ⟨u,h1⟩
   ·exact rC h2 x hx
theorem vD {k:Int} {nm ot:ByteArray} {n m:Int} {ty re:Ty} {l:List Tm} {g:List Tg} {u:Ty} (h:(Tm.mk k nm ot n ty re l).type g m=some u) (hk:k=4\/k=5):∃ ts,zf l g m=some ts/\yW k nm ts=some u:=by
 simp only [Tm.type] at h
 obtain ⟨h,_⟩:=pZ h
 rw [if_neg (by omega),if_neg (by omega),if_neg (by omega),if_neg (by omega),if_neg (by omega),if_neg (by omega),if_neg (by omega)] at h
 split at h
 ·exact ⟨_,by assumption,h⟩
 ·cases h
theorem zFr {nm ot:ByteArray} {n m:Int} {ty re:Ty} {x0 x1:Tm} {g:List Tg} {u:Ty} (h:(Tm.mk 8 nm ot n ty re [x0,x1]).type g m=some u):∃ a,x0.type g m=some a/\x1.type (g++[⟨nm,a,m⟩]) m=some u:=by
 simp only [Tm.type] at h
 obtain ⟨h,_⟩:=pZ h
 rw [if_neg (by omega),if_neg (by omega),if_neg (by omega),if_neg (by omega)] at h
 simp only [nn,wt] at h
 split at h
 ·exact ⟨_,by assumption,h⟩
 ·cases h
theorem zNZ {nm ot:ByteArray} {n m:Int} {ty re:Ty} {l:List Tm} {g:List Tg} {u:Ty} (h:(Tm.mk 1 nm ot n ty re l).type g m=some u):rZ g nm m=some u:=by
 simp only [Tm.type] at h
 exact (pZ h).1
theorem zOY (s:ByteArray):zIH s=0\/zIH s=1\/zIH s=2:=by unfold zIH;(repeat' split)<;>simp
/-- an operation's parts: one or two -/
theorem zJi {nm ot:ByteArray} {n:Int} {ty re:Ty} {l:List Tm} {es:List D} (h:(Tm.mk 4 nm ot n ty re l).ok=true) (hes:All2 Tm.Is l es):(∃ x0 d0,l=[x0]/\es=[d0]/\x0.Is d0)\/∃ x0 x1 d0 d1,l=[x0,x1]/\es=[d0,d1]/\x0.Is d0/\x1.Is d1:=by
 have node:=zX h
 have har:=node.ar
 have hf:=node.f
 simp only [yH,sF,oI] at hf
 have hn:=hf.2.2.2.2.2
 simp only [nn,oI,nE] at hn
 rw [show tq 4 nm=zIH nm from rfl] at har
 have ho:=zOY nm
 match l,es,hes with
 | [x0],_,⟨d0,ds,e1,h0,e2⟩=>subst e2;subst e1;exact .inl ⟨x0,d0,rfl,rfl,h0⟩
 | [x0,x1],_,⟨d0,ds,e1,h0,d1,ds2,e2,h1,e3⟩=>subst e3;subst e2;subst e1;exact .inr ⟨x0,x1,d0,d1,rfl,rfl,h0,h1⟩
 | [],_,_=>simp at har;omega
 | _::_::_::_,_,_=>simp at har;omega
theorem pn:∀ (t:Tm) (d:D),t.Is d->t.ok=true->t.isB=true->∀ (g:List Tg) (u:Ty),t.type g 0=some u->∀ (v:List Nb),Fit v g->∀ (a:Option Addr) (c:Nat),v.length+t.cnt<=1073741824 ->
  tz 75 [.dg 9 d,.sv a 2 (v.map nbD) c] (t.ev v):=by
 refine Tm.ind fun k nm ot n0 ty re l ih d hd hok hb g u hu v hf a c hc N Q hQ=>?_
 obtain ⟨t0,t1,r0,r1,a1,es,c1,rfl,hh,hlen,hes⟩:=Tm.is_mk.1 hd
 have node:=zX hok
 have hb2:=hb
 simp only [Tm.isB,oI,zAe,nU,yG,np] at hb2
 obtain ⟨hbl,hk⟩:=hb2
 simp only [Tm.cnt] at hc
 have hvl:(v.map nbD).length=v.length:=by simp
 have ihl:∀ x∈l,∀ d,x.Is d->∀ g u,x.type g 0=some u->∀ v,Fit v g->∀ a c,v.length+x.cnt<=1073741824->tz 75 [.dg 9 d,.sv a 2 (v.map nbD) c] (x.ev v):=fun x hx d hd=>ih x hx d hd (node.sub x hx) (xH hbl hx)
 refine zD2 N _ a _ c Q fun _ _=>⟨_,rfl,Br.beq (fun h1=>?_) fun h1=>Br.beq (fun h4=>?_) fun h4=>Br.beq (fun h5=>?_) fun h5=>Br.beq (fun h8=>?_) fun h8=>?_⟩
 ·-- a name
  simp only [Tm.ev] at hQ
  rw [if_pos h1] at hQ
  have look:∀ (i:Nat),i<=v.length->∀ N1,N<=N1->(∀ N',N1<=N'->Q ((wn nm (v.take i)).getD n0) N')->xd Q N a (v.map nbD) c ((i:Int) - 1) (.ag [.lit (.int .i64 k),.lit (.string nm),.lit (.string ot),.lit (.int .i64 n0),t0,t1,r0,r1,.sl a1 9 es c1]) N1:=by
   intro i
   induction i with
   | zero=>
     intro hi N1 hN1 hQ1
     refine ti _ _ _ _ _ _ _ _ ?_
     have e:decide (((0:Nat):Int) - 1≥0)=false:=by simp
     repeat' first|with_reducible intro _|simp only[e,Y1,Y2,Y3,Y4]|with_reducible refine X ?_ ?_|refine⟨_,_,_,rfl,?_⟩|refine⟨_,rfl,?_⟩|refine And.intro (by first|omega|trivial|(show _=_;rfl)|(with_reducible constructor)<;>first|omega|trivial|rfl) ?_|fail
     exact Qi (hQ1 _ (by omega)) rfl
   | succ i ihi=>
     intro hi N1 hN1 hQ1
     have hlt:i<v.length:=by omega
     have hg:v[i]?=some v[i]:=oD hlt
     have hgd:=zO5 hg
     refine ti _ _ _ _ _ _ _ _ ?_
     have e0:(((i+1:Nat):Int) - 1)=(i:Int):=by omega
     have e:decide ((i:Int)≥0)=true:=nY (by omega)
     have ew:IntKind.i64.wrap ((i:Int) - 1)=(i:Int) - 1:=i64_in _ (by omega)
     rw [e0]
     rw [zY hg,xD] at hQ1
     repeat' first|with_reducible intro _|simp only[e,ew,oG,hgd,nbD,nn,eq_self,Y1,Y2,Y3,Y4]|with_reducible refine X ?_ ?_|refine⟨_,_,_,rfl,?_⟩|refine⟨_,rfl,?_⟩|refine And.intro (by first|omega|trivial|(show _=_;rfl)|(with_reducible constructor)<;>first|omega|trivial|rfl) ?_|fail
     ·rename_i hs _ _
      exact Qi (hQ1 _ (by omega)) (by rw [if_pos hs];rfl)
     ·rename_i hs
      exact ihi (by omega) N1 (by omega) fun N' h=>Qi (hQ1 N' h) (by rw [if_neg hs])
  rw [hvl,i64_in _ (by omega)]
  exact look v.length (oF _) N (oF _) (by rw [mS];exact hQ)
 ·-- an operation
  simp only [Tm.ev] at hQ
  rw [if_neg h1,if_pos h4] at hQ
  subst h4
  obtain ⟨ts,hts,_⟩:=vD hu (.inl rfl)
  have htm:=rC hts
  rcases zJi hok hes with ⟨x0,d0,rfl,rfl,i0⟩ | ⟨x0,x1,d0,d1,rfl,rfl,i0,i1⟩
  ·obtain ⟨u0,hu0⟩:=htm x0 (by simp)
   simp only [zJ] at hc
   have c0:=ihl x0 (by simp) d0 i0 g u0 hu0 v hf a c (by omega)
   have hap:=rv nm (x0.ev v) 0
   have e1:(([d0]:List D).length:Int)=1:=rfl
   repeat' first|with_reducible intro _|simp only[mH,oH,oN,Y1,Y2,Y3,Y4]|with_reducible refine X ?_ ?_|refine⟨_,_,_,rfl,?_⟩|refine⟨_,rfl,?_⟩|refine And.intro (by first|omega|trivial|(show _=_;rfl)|(with_reducible constructor)<;>first|omega|trivial|rfl) ?_|refine c0 _ _ ?_|refine hap _ _ ?_|fail
   all_goals first
    | exact Qi (hQ _ (by omega)) rfl
    | (rename_i h _ _;simp at h)
  ·obtain ⟨u0,hu0⟩:=htm x0 (by simp)
   obtain ⟨u1,hu1⟩:=htm x1 (by simp)
   simp only [zJ] at hc
   have c0:=ihl x0 (by simp) d0 i0 g u0 hu0 v hf a c (by omega)
   have c1:=ihl x1 (by simp) d1 i1 g u1 hu1 v hf a c (by omega)
   have hap:=rv nm (x0.ev v) (x1.ev v)
   repeat' first|with_reducible intro _|simp only[mH,me,oH,oN,Y1,Y2,Y3,Y4]|with_reducible refine X ?_ ?_|refine⟨_,_,_,rfl,?_⟩|refine⟨_,rfl,?_⟩|refine And.intro (by first|omega|trivial|(show _=_;rfl)|(with_reducible constructor)<;>first|omega|trivial|rfl) ?_|refine c0 _ _ ?_|refine c1 _ _ ?_|refine hap _ _ ?_|fail
   all_goals first
    | exact Qi (hQ _ (by omega)) rfl
    | (rename_i h _ _;simp at h)
 ·-- a condition
  have hfit:=qK
  simp only [Tm.ev] at hQ
  rw [if_neg h1,if_neg h4,if_pos h5] at hQ
  subst h5
  obtain ⟨ts,hts,hfm⟩:=vD hu (.inr rfl)
  obtain ⟨x0,x1,x2,d0,d1,d2,rfl,rfl,i0,i1,i2⟩:=tD hes (node.ar.trans rfl)
  obtain ⟨u0,us0,e0,q6,e3⟩:=yD hts
  obtain ⟨u1,us1,e1,q7,e4⟩:=yD q6
  obtain ⟨u2,us2,e2,q8,e5⟩:=yD q7
  subst e5;subst e4;subst e3
  simp only [zJ] at hc
  have c0:=ihl x0 (by simp) d0 i0 g u0 e0 v hf a c (by omega)
  have c1:=ihl x1 (by simp) d1 i1 g u1 e1 v hf a c (by omega)
  have c2:=ihl x2 (by simp) d2 i2 g u2 e2 v hf a c (by omega)
  have hu0:u0.k=2:=by
   unfold yW at hfm
   rw [if_neg (by omega),if_pos rfl] at hfm
   split at hfm
   ·rename_i hcc;exact hcc.1
   ·cases hfm
  have hv:=pU hu0 (qK x0 (node.sub _ (by simp)) (xH hbl (by simp)) g v hf u0 e0)
  refine ⟨_,_,_,rfl,_,_,_,rfl,⟨by omega,by simp⟩,fun N11 hN11=>c0 N11 _ fun N12 hN12 _=>?_⟩
  have ev0:qb [x0,x1,x2] 0 v=x0.ev v:=rfl
  rw [ev0] at hQ
  rcases hv with hv | hv
  ·rw [hv] at hQ ⊢
   rw [show IntKind.i64.wrap (2 - 0)=2 from rfl]
   refine ⟨⟨by omega,by simp⟩,fun N13 hN13=>c2 N13 _ fun N14 hN14 _ N15 hN15=>hQ _ (by omega)⟩
  ·rw [hv] at hQ ⊢
   rw [show IntKind.i64.wrap (2 - 1)=1 from rfl]
   refine ⟨⟨by omega,by simp⟩,fun N13 hN13=>c1 N13 _ fun N14 hN14 _ N15 hN15=>hQ _ (by omega)⟩
 ·-- a let
  simp only [Tm.ev] at hQ
  rw [if_neg h1,if_neg h4,if_neg h5,if_pos h8] at hQ
  subst h8
  obtain ⟨x0,x1,d0,d1,rfl,rfl,i0,i1⟩:=ve hes (node.ar.trans rfl)
  obtain ⟨u0,e0,e1⟩:=zFr hu
  simp only [zJ] at hc
  have hp0:=x0.cnt_pos
  have c0:=ihl x0 (by simp) d0 i0 g u0 e0 v hf a c (by omega)
  have hf2:=hf.snoc (x:=⟨nm,u0,0⟩) (y:=(nm,x0.ev v)) rfl (qK x0 (node.sub _ (by simp)) (xH hbl (by simp)) g v hf u0 e0)
  have es1:([]++v.map nbD)++[D.ag [.lit (.string nm),.lit (.int .i64 (x0.ev v))]]=(v++[(nm,x0.ev v)]).map nbD:=by simp [nbD]
  refine ⟨⟨rfl,rfl⟩,by unfold zA;simp;omega,fun c5=>⟨_,_,_,rfl,⟨by omega,by simp⟩,_,rfl,_,_,_,rfl,⟨by omega,by simp⟩,fun N16 hN16=>c0 N16 _ fun N17 hN17 _=>⟨⟨rfl,rfl⟩,by unfold zA;simp;omega,fun c8=>⟨⟨rfl,rfl⟩,fun a7 _ _ N18 hN18 _=>?_⟩⟩⟩⟩
  rw [es1]
  refine ihl x1 (by simp) d1 i1 _ u e1 _ hf2 a7 c8 (by simp;omega) N18 _ fun N19 hN19 _ N20 hN20=>?_
  exact hQ _ (by omega)
 ·simp only [Tm.ev] at hQ
  rw [if_neg h1,if_neg h4,if_neg h5,if_neg h8] at hQ
  exact ⟨_,rfl,fun N21 hN21=>hQ _ hN21⟩
def plN (p:Pl):Nb:=(p.1,p.2.1)
theorem zLm (nm:ByteArray) (v:List Pl):(zGz nm v).2.1=(wn nm (v.map plN)).getD 0:=by
 unfold zGz wn
 rw [<-List.map_reverse,List.find?_map]
 generalize v.reverse=u
 induction u with
 | nil=>rfl
 | cons x u ih=>
   by_cases h:x.1=nm
   ·simp [plN,h]
   ·simp only [List.find?_cons,Function.comp,plN,h,decide_false] at ih ⊢
    exact ih
theorem zEs:∀ (t:Tm) (d:D),t.Is d->t.ok=true->t.isB=true->∀ (g:List Tg) (u:Ty),t.type g 0=some u->∀ (v:List Pl),Fit (v.map plN) g->∀ (a:Option Addr) (c:Nat),v.length+t.cnt<=1073741824 ->
  tz 145 [.sv a 3 (v.map plD) c,.dg 9 d] (t.ev (v.map plN)):=by
 refine Tm.ind fun k nm ot n0 ty re l ih d hd hok hb g u hu v hf a c hc N Q hQ=>?_
 obtain ⟨t0,t1,r0,r1,a1,es,c1,rfl,hh,hlen,hes⟩:=Tm.is_mk.1 hd
 have node:=zX hok
 have hb2:=hb
 simp only [Tm.isB,oI,zAe,nU,yG,np] at hb2
 obtain ⟨hbl,hk⟩:=hb2
 simp only [Tm.cnt] at hc
 have ihl:∀ x∈l,∀ d,x.Is d->∀ g u,x.type g 0=some u->∀ v:List Pl,Fit (v.map plN) g->∀ a c,v.length+x.cnt<=1073741824->tz 145 [.sv a 3 (v.map plD) c,.dg 9 d] (x.ev (v.map plN)):=fun x hx d hd=>ih x hx d hd (node.sub x hx) (xH hbl hx)
 refine qD N a _ c _ Q fun _ _=>⟨_,rfl,Br.beq (fun h1=>?_) fun h1=>Br.beq (fun h2=>?_) fun h2=>Br.beq (fun h3=>?_) fun h3=>Br.beq (fun h5=>?_) fun h5=>Br.beq (fun h8=>?_) fun h8=>?_⟩
 ·simp only [Tm.ev] at hQ
  rw [if_pos h1] at hQ
  subst h1
  obtain ⟨m,e1,_⟩:=zLS hf (zNZ hu)
  refine ⟨_,rfl,fun N1 hN1=>?_⟩
  refine zN0 v a c nm (by omega) N1 _ fun N2 hN2 _ _=>⟨_,rfl,fun N3 hN3=>?_⟩
  exact Qi (hQ _ (by omega)) (by rw [zLm,e1];rfl)
 ·simp only [Tm.ev] at hQ
  rw [if_neg h1,if_neg (by omega),if_neg (by omega),if_neg (by omega)] at hQ
  exact ⟨_,rfl,fun N5 hN5=>hQ _ (by omega)⟩
 ·simp only [Tm.ev] at hQ
  rw [if_neg h1,if_neg (by omega),if_neg (by omega),if_neg (by omega)] at hQ
  exact ⟨_,rfl,fun N5 hN5=>hQ _ (by omega)⟩
 ·-- a condition
  simp only [Tm.ev] at hQ
  rw [if_neg h1,if_neg (by omega),if_pos h5] at hQ
  subst h5
  obtain ⟨ts,hts,hfm⟩:=vD hu (.inr rfl)
  obtain ⟨x0,x1,x2,d0,d1,d2,rfl,rfl,i0,i1,i2⟩:=tD hes (node.ar.trans rfl)
  obtain ⟨u0,us0,e0,q6,e3⟩:=yD hts
  obtain ⟨u1,us1,e1,q7,e4⟩:=yD q6
  obtain ⟨u2,us2,e2,q8,e5⟩:=yD q7
  subst e5;subst e4;subst e3
  simp only [zJ] at hc
  have c0:=ihl x0 (by simp) d0 i0 g u0 e0 v hf a c (by omega)
  have c1:=ihl x1 (by simp) d1 i1 g u1 e1 v hf a c (by omega)
  have c2:=ihl x2 (by simp) d2 i2 g u2 e2 v hf a c (by omega)
  have hu0:u0.k=2:=by
   unfold yW at hfm
   rw [if_neg (by omega),if_pos rfl] at hfm
   split at hfm
   ·rename_i hcc;exact hcc.1
   ·cases hfm
  have hv:=pU hu0 (qK x0 (node.sub _ (by simp)) (xH hbl (by simp)) g _ hf u0 e0)
  refine ⟨_,_,_,rfl,_,_,_,rfl,⟨by omega,by simp⟩,fun N11 hN11=>c0 N11 _ fun N12 hN12 _=>?_⟩
  have ev0:qb [x0,x1,x2] 0 (v.map plN)=x0.ev (v.map plN):=rfl
  rw [ev0] at hQ
  rcases hv with hv | hv
  ·rw [hv] at hQ ⊢
   rw [show IntKind.i64.wrap (2 - 0)=2 from rfl]
   refine ⟨⟨by omega,by simp⟩,fun N13 hN13=>c2 N13 _ fun N14 hN14 _ N15 hN15=>hQ _ (by omega)⟩
  ·rw [hv] at hQ ⊢
   rw [show IntKind.i64.wrap (2 - 1)=1 from rfl]
   refine ⟨⟨by omega,by simp⟩,fun N13 hN13=>c1 N13 _ fun N14 hN14 _ N15 hN15=>hQ _ (by omega)⟩
 ·-- a let
  simp only [Tm.ev] at hQ
  rw [if_neg h1,if_neg (by omega),if_neg h5,if_pos h8] at hQ
  subst h8
  obtain ⟨x0,x1,d0,d1,rfl,rfl,i0,i1⟩:=ve hes (node.ar.trans rfl)
  obtain ⟨u0,e0,e1⟩:=zFr hu
  simp only [zJ] at hc
  have hp0:=x0.cnt_pos
  have c0:=ihl x0 (by simp) d0 i0 g u0 e0 v hf a c (by omega)
  have hf2:=hf.snoc (x:=⟨nm,u0,0⟩) (y:=(nm,x0.ev (v.map plN))) rfl (qK x0 (node.sub _ (by simp)) (xH hbl (by simp)) g _ hf u0 e0)
  have es1:v.map plN++[(nm,x0.ev (v.map plN))]=(v++[(nm,x0.ev (v.map plN),false)]).map plN:=by simp [plN]
  rw [es1] at hf2
  refine ⟨_,rfl,_,_,_,rfl,⟨by omega,by simp⟩,_,_,_,rfl,⟨by omega,by simp⟩,fun N11 hN11=>c0 N11 _ fun N12 hN12 _ N13 hN13=>?_⟩
  refine zIV v (by omega) (nm,x0.ev (v.map plN),false) a c N13 _ fun a4 c4 N14 hN14 _ _ _ N15 hN15=>?_
  refine ihl x1 (by simp) d1 i1 _ u e1 _ hf2 a4 c4 (by simp;omega) N15 _ fun N16 hN16 _ N17 hN17=>?_
  rw [<-es1]
  exact hQ _ (by omega)
 ·-- an operation
  have h4:k=4:=by omega
  simp only [Tm.ev] at hQ
  rw [if_neg h1,if_pos h4] at hQ
  subst h4
  obtain ⟨ts,hts,_⟩:=vD hu (.inl rfl)
  have htm:=rC hts
  have w1:IntKind.i64.wrap ((0:Int)+1)=1:=rfl
  have w2:IntKind.i64.wrap ((1:Int)+1)=2:=rfl
  refine ⟨_,_,_,rfl,?_⟩
  rcases zJi hok hes with ⟨x0,d0,rfl,rfl,i0⟩ | ⟨x0,x1,d0,d1,rfl,rfl,i0,i1⟩
  ·obtain ⟨u0,hu0⟩:=htm x0 (by simp)
   simp only [zJ] at hc
   have c0:=ihl x0 (by simp) d0 i0 g u0 hu0 v hf a c (by omega)
   refine zm _ _ _ _ _ _ _ _ _ _ _ _ _ _ _ _ (Br.dec (fun _=>⟨⟨by omega,by simp⟩,fun N1 hN1=>c0 N1 _ fun N2 hN2 _=>⟨⟨by omega,by omega,by simp⟩,by simp,?_⟩⟩) fun h=>absurd h (by simp))
   rw [w1]
   refine zm _ _ _ _ _ _ _ _ _ _ _ _ _ _ _ _ (Br.dec (fun h=>absurd h (by simp)) fun _=>⟨_,rfl,⟨by omega,by omega,by simp⟩,by simp,_,rfl,⟨by omega,by omega,by simp⟩,by simp,_,rfl,fun N3 hN3=>?_⟩)
   exact r9 nm (x0.ev (v.map plN)) 0 N3 _ fun N4 hN4 _ N5 hN5=>hQ _ (by omega)
  ·obtain ⟨u0,hu0⟩:=htm x0 (by simp)
   obtain ⟨u1,hu1⟩:=htm x1 (by simp)
   simp only [zJ] at hc
   have c0:=ihl x0 (by simp) d0 i0 g u0 hu0 v hf a c (by omega)
   have c1:=ihl x1 (by simp) d1 i1 g u1 hu1 v hf a c (by omega)
   refine zm _ _ _ _ _ _ _ _ _ _ _ _ _ _ _ _ (Br.dec (fun _=>⟨⟨by omega,by simp⟩,fun N1 hN1=>c0 N1 _ fun N2 hN2 _=>⟨⟨by omega,by omega,by simp⟩,by simp,?_⟩⟩) fun h=>absurd h (by simp))
   rw [w1]
   refine zm _ _ _ _ _ _ _ _ _ _ _ _ _ _ _ _ (Br.dec (fun _=>⟨⟨by omega,by simp⟩,fun N1 hN1=>c1 N1 _ fun N3 hN3 _=>⟨⟨by omega,by omega,by simp⟩,by simp,?_⟩⟩) fun h=>absurd h (by simp))
   rw [w2]
   refine zm _ _ _ _ _ _ _ _ _ _ _ _ _ _ _ _ (Br.dec (fun h=>absurd h (by simp)) fun _=>⟨_,rfl,⟨by omega,by omega,by simp⟩,by simp,_,rfl,⟨by omega,by omega,by simp⟩,by simp,_,rfl,fun N3 hN3=>?_⟩)
   exact r9 nm (x0.ev (v.map plN)) (x1.ev (v.map plN)) N3 _ fun N4 hN4 _ N5 hN5=>hQ _ (by omega)
def zI (l:List Int):List D:=l.map fun n=>.lit (.int .i64 n)
theorem z9 (l:List Int):(zI l).length=l.length:=by simp [zI]
theorem uc {l:List Int} {i:Nat} {b:Int} (h:l[i]?=some b):(zI l).getD i default=.lit (.int .i64 b):=by simp [zI,oA,oE,h]
theorem zJz:∀ l:List Int,All2 (fun b d=>d=.lit (.int .i64 b)) l (zI l)
 | []=>rfl
 | s::l=>⟨_,_,rfl,rfl,zJz l⟩
def y8:List Pm->List Int->Bool
 | [],_=>true
 | p::g,[]=>true
 | p::g,n::ns=>zBm p.ty n&&y8 g ns
def zn:List Pm->List Int->List Nb
 | p::g,n::ns=>(p.nm,n)::zn g ns
 | _,_=>[]
theorem vZ:∀ {g:List Pm} {ns:List Int},ns.length=g.length->(zn g ns).length=g.length
 | [],[],_=>rfl
 | p::g,n::ns,h=>by simp only [zn,oH] at h ⊢;rw [vZ (by omega)]
 | [],_::_,h=>by simp at h
 | _::_,[],h=>by simp at h
theorem qV:∀ {g:List Pm} {ns:List Int} {i:Nat} {p:Pm} {n:Int},g[i]?=some p->ns[i]?=some n->(zn g ns)[i]?=some (p.nm,n)
 | q::g,m::ns,0,p,n,h,h2=>by simp at h h2;subst h;subst h2;rfl
 | q::g,m::ns,i+1,p,n,h,h2=>by simp only [zn,om] at h h2 ⊢;exact qV h h2
 | [],_,i,p,n,h,h2=>by simp at h
 | _::_,[],i,p,n,h,h2=>by simp at h2
theorem zEj:∀ {g:List Pm} {ns:List Int} {i:Nat} {p:Pm} {n:Int},y8 g ns=true->g[i]?=some p->ns[i]?=some n->zBm p.ty n=true
 | q::g,m::ns,0,p,n,h0,h,h2=>by
   simp only [y8,oI] at h0
   simp at h h2;subst h;subst h2;exact h0.1
 | q::g,m::ns,i+1,p,n,h0,h,h2=>by
   simp only [y8,oI] at h0
   simp only [om] at h h2
   exact zEj h0.2 h h2
 | [],_,i,p,n,h0,h,h2=>by simp at h
 | _::_,[],i,p,n,h0,h,h2=>by simp at h2
theorem zHW {g:List Pm} {ns:List Int} (hl:ns.length=g.length) (h:y8 g ns=true):Fit (zn g ns) (xI g):=by
 refine ⟨by rw [vZ hl,vS],fun i x y hx hy=>?_⟩
 have hlt:i<g.length:=by have:=(oB.1 hy).1;rw [vZ hl] at this;exact this
 have hp:g[i]?=some g[i]:=oD hlt
 have hn:ns[i]?=some (ns[i]'(by omega)):=oD (by omega)
 rw [qV hp hn] at hy
 rw [xI,oE,hp] at hx
 cases hx;cases hy
 exact ⟨rfl,zEj h hp hn⟩
def yj (g:List Pm) (e:Tm) (ns:List Int):Int × Bool:=if (yd g e).isSome=true then (if ns.length=g.length then (if y8 g ns=true then (e.ev (zn g ns),true) else (0,false)) else (0,false)) else (0,false)
theorem qN {g:List Pm} {e:Tm} (h:(yd g e).isSome=true):∃ u,e.type (xI g) 0=some u:=by
 unfold yd at h
 split at h
 ·exact Option.isSome_iff_exists.1 h
 ·cases h
theorem si {g:List Pm} {es:List D} (h:Pms g es) (hg:g.length<=536870000) {e:Tm} {d:D} (he:e.Is d) (hc:e.cnt<=536870000) (ns:List Int) (hn:ns.length<=1073741824) (a a2:Option Addr) (c c2:Nat) :
  zKh 19 [.sv a 4 es c,.dg 9 d,.sv a2 0 (zI ns) c2] (yj g e ns):=fun N Q hQ=>by
 have hl:=h.all.len
 have hnl:=z9 ns
 refine zCg N a es c d a2 _ c2 Q fun _ _ _ N1 hN1=>?_
 refine sq h (by omega) he hc a c N1 _ fun x N2 hN2 _ _ _=>Br.not (fun hb N3 hN3=>?_) fun hb=>Br.bne (fun hne N4 hN4=>?_) fun heq=>?_
 ·have e1:yj g e ns=(0,false):=by unfold yj;rw [if_neg (by simp [hb])]
  exact Qp (b:=(0,false)) (hQ N3 (by omega)) e1
 ·have e1:yj g e ns=(0,false):=by unfold yj;rw [if_pos hb,if_neg (by omega)]
  exact Qp (b:=(0,false)) (hQ N4 (by omega)) e1
 ·have hnn:ns.length=g.length:=by omega
  obtain ⟨_,hv,hbb⟩:=qF hb
  obtain ⟨u,hu⟩:=qN hb
  have hnl2:=vZ hnn
  have hev:∀ r,y8 g ns=r->yj g e ns=if r=true then (e.ev (zn g ns),true) else (0,false):=fun r hr=>by unfold yj;rw [if_pos hb,if_pos hnn,hr]
  have key:=up h.all h.len (fun i xs=>∀ (q N':Nat),N<=N'->(y8 g ns=y8 xs (ns.drop i))->xK Q N a es c a2 (zI ns) c2 (((zn g ns).take i).map nbD).length q i d (((zn g ns).take i).map nbD) q N') ?_ ?_
  ·exact key 0 N2 (by omega) rfl
  ·intro i hlt hi q N' hN' hfa
   refine uY _ _ _ _ _ _ _ _ _ _ _ _ _ _ _ ?_
   rw [hlt]
   have hft:y8 g ns=true:=by rw [hfa];rfl
   have e1:=hev true hft
   rw [if_pos rfl] at e1
   rw [oY (by omega)]
   refine ⟨⟨rfl,rfl⟩,fun a4 _ _ N4 hN4 _=>?_⟩
   refine pn e d he (zOI hv) hbb (xI g) u hu _ (zHW hnn hft) a4 q (by omega) N4 _ fun N5 hN5 _ N6 hN6=>?_
   exact Qp (b:=(e.ev (zn g ns),true)) (hQ N6 (by omega)) e1
  ·intro i x xs hat hxs ih2 q N' hN' hfa
   have hb2:=hat.b
   have hlt:i<ns.length:=by omega
   have hni:ns[i]?=some ns[i]:=oD hlt
   have hng:=uc hni
   obtain ⟨t0,t1,hd',hnm,hty⟩:=hat.r
   have hnames:=qV hat.g hni
   have hdr:ns.drop i=ns[i]::ns.drop (i+1):=by rw [nj]
   rw [hdr] at hfa
   simp only [y8] at hfa
   refine uY _ _ _ _ _ _ _ _ _ _ _ _ _ _ _ ?_
   have hsn:((zn g ns).take i).map nbD++[D.ag [.lit (.string x.nm),.lit (.int .i64 ns[i])]]=((zn g ns).take (i+1)).map nbD:=by rw [zY hnames,o7];rfl
   have hml2:(((zn g ns).take (i+1)).map nbD).length<=i+1:=by rw [o6,o0];omega
   have hfit:=ro hty ns[i]
   repeat' first|with_reducible intro _|simp only[hat.lt,hat.w,oG,hd',hng,nn,eq_self,Y1,Y2,Y3,Y4]|with_reducible refine X ?_ ?_|refine⟨_,_,_,rfl,?_⟩|refine⟨_,rfl,?_⟩|refine And.intro (by first|omega|trivial|(show _=_;rfl)|(with_reducible constructor)<;>first|omega|trivial|rfl) ?_|refine hfit _ _ ?_|fail
   ·have e1:=hev false (by rw [hfa];rename_i hx _ _;rw [hx];rfl)
    exact Qp (b:=(0,false)) (hQ _ (by omega)) e1
   ·refine ⟨by unfold zA;rw [hsn];omega,fun c1=>?_⟩
    rw [hsn]
    refine ih2 _ _ (by omega) ?_
    rename_i hx
    rw [hfa,hx,mV]
theorem r5 {g:List Pm} {es:List D} (h:Pms g es) (hg:g.length<=1073741824) (ns:List Int) (hn:ns.length<=1073741824) (a a2:Option Addr) (c c2:Nat) :
  wm 143 [.sv a 4 es c,.sv a2 0 (zI ns) c2] (decide (ns.length=g.length)&&y8 g ns):=fun N Q hQ=>by
 have hl:=h.all.len
 have hnl:=z9 ns
 refine zDu N a es c a2 _ c2 Q fun _ _=>Br.bne (fun hne N1 hN1=>?_) fun heq=>?_
 ·exact Qb (hQ _ hN1) (by rw [mi (by omega)];rfl)
 ·have hnn:ns.length=g.length:=by omega
  rw [nY hnn,mV] at hQ
  have key:=up h.all h.len (fun i xs=>∀ (N':Nat),N<=N'->(y8 g ns=y8 xs (ns.drop i))->xi Q N a2 (zI ns) c2 a es c es.length i N') ?_ ?_
  ·exact key N (by omega) rfl
  ·intro i hlt hi N' hN' hfa
   refine tV _ _ _ _ _ _ _ _ _ _ _ ?_
   repeat' first|with_reducible intro _|simp only[hlt,Y1,Y2,Y3,Y4]|with_reducible refine X ?_ ?_|refine⟨_,_,_,rfl,?_⟩|refine⟨_,rfl,?_⟩|refine And.intro (by first|omega|trivial|(show _=_;rfl)|(with_reducible constructor)<;>first|omega|trivial|rfl) ?_|fail
   exact Qb (hQ _ (by omega)) (by rw [hfa];rfl)
  ·intro i x xs hat hxs ih2 N' hN' hfa
   have hb2:=hat.b
   have hlt:i<ns.length:=by omega
   have hni:ns[i]?=some ns[i]:=oD hlt
   have hng:=uc hni
   obtain ⟨t0,t1,hd',hnm,hty⟩:=hat.r
   have hdr:ns.drop i=ns[i]::ns.drop (i+1):=by rw [nj]
   rw [hdr] at hfa
   simp only [y8] at hfa
   refine tV _ _ _ _ _ _ _ _ _ _ _ ?_
   have hfit:=zG3 hty ns[i]
   repeat' first|with_reducible intro _|simp only[hat.lt,hat.w,oG,hd',hng,Y1,Y2,Y3,Y4]|with_reducible refine X ?_ ?_|refine⟨_,_,_,rfl,?_⟩|refine⟨_,rfl,?_⟩|refine And.intro (by first|omega|trivial|(show _=_;rfl)|(with_reducible constructor)<;>first|omega|trivial|rfl) ?_|refine hfit _ _ ?_|fail
   ·rename_i hx _ _
    exact Qb (hQ _ (by omega)) (by rw [hfa,hx];rfl)
   ·refine ih2 _ (by omega) ?_
    rename_i hx
    rw [hfa,hx,mV]
def rY:List Pm->List Int->List Pl
 | p::g,n::ns=>(p.nm,n,false)::rY g ns
 | _,_=>[]
theorem qR:∀ (g:List Pm) (ns:List Int),(rY g ns).map plN=zn g ns
 | [],_=>by simp [rY,zn]
 | _::_,[]=>by simp [rY,zn]
 | p::g,n::ns=>by simp only [rY,zn,oU,qR g ns];rfl
theorem zLo (g:List Pm) (ns:List Int):(rY g ns).length=(zn g ns).length:=by rw [<-qR,o6]
theorem zHg:∀ {g:List Pm} {ns:List Int} {i:Nat} {p:Pm} {n:Int},g[i]?=some p->ns[i]?=some n->(rY g ns)[i]?=some (p.nm,n,false)
 | q::g,m::ns,0,p,n,h,h2=>by simp at h h2;subst h;subst h2;rfl
 | q::g,m::ns,i+1,p,n,h,h2=>by simp only [rY,om] at h h2 ⊢;exact zHg h h2
 | [],_,i,p,n,h,h2=>by simp at h
 | _::_,[],i,p,n,h,h2=>by simp at h2
theorem zCY {g:List Pm} {es:List D} (h:Pms g es) (hg:g.length<=536870000) (hc2:∀ x∈g,x.ty.cnt<=1073741824) {e:Tm} {d:D} (he:e.Is d) (hc:e.cnt<=1048576000 / 2) (ns:List Int) (hn:ns.length<=1073741824) (a a2:Option Addr) (c c2:Nat) :
  zKh 85 [.sv a 4 es c,.dg 9 d,.sv a2 0 (zI ns) c2] (yj g e ns):=fun N Q hQ=>by
 have hl:=h.all.len
 have hnl:=z9 ns
 refine zCQ N a es c d a2 _ c2 Q fun _ _ _ N1 hN1=>?_
 refine tx h (by omega) hc2 he hc a c N1 _ fun x N2 hN2 _ _ _ _=>Br.not (fun hb N3 hN3=>?_) fun hb N4 hN4=>?_
 ·have e1:yj g e ns=(0,false):=by unfold yj;rw [if_neg (by simp [hb])]
  exact Qp (b:=(0,false)) (hQ N3 (by omega)) e1
 refine r5 h (by omega) ns hn a a2 c c2 N4 _ fun N5 hN5 _=>Br.not (fun hf N6 hN6=>?_) fun hf=>?_
 ·have e1:yj g e ns=(0,false):=by
   unfold yj
   rw [if_pos hb]
   split
   ·rename_i hnn
    rw [nY hnn,mV] at hf
    rw [if_neg (by simp [hf])]
   ·rfl
  exact Qp (b:=(0,false)) (hQ N6 (by omega)) e1
 ·simp only [oI,nE] at hf
  obtain ⟨hnn,hft⟩:=hf
  obtain ⟨_,hv,hbb⟩:=qF hb
  obtain ⟨u,hu⟩:=qN hb
  have hnl2:=vZ hnn
  have hpl:=zLo g ns
  have e1:yj g e ns=(e.ev (zn g ns),true):=by unfold yj;rw [if_pos hb,if_pos hnn,if_pos hft]
  have hfn:=zHW hnn hft
  rw [<-qR] at hfn e1
  have fin:∀ (a4:Option Addr) (c4:Nat) (N4:Nat),N<=N4->∀ (K:QT [.int .i64]),(∀ N5,N4<=N5->K (e.ev ((rY g ns).map plN)) N5)->ACalls prog 145 [.int .i64] [.sv a4 3 ((rY g ns).map plD) c4,.dg 9 d] N4 K:=fun a4 c4 N4 h4 K hK=>
   zEs e d he (zOI hv) hbb (xI g) u hu (rY g ns) hfn a4 c4 (by omega) N4 K hK
  have key:=up h.all h.len (fun i xs=>(i=0->∀ (N':Nat),N<=N'->wY Q N a2 (zI ns) c2 0 0 a es c es.length i d [] 0 N') /\
   (0<i->∀ (a5:Option Addr) (c5:Nat) (N':Nat),N<=N'->yZ Q N a2 (zI ns) c2 a5 (((rY g ns).take i).map plD) c5 a es c es.length i d N')) (fun i hlt hi=>⟨fun h0 N' hN'=>?_,fun h0 a5 c5 N' hN'=>?_⟩) (fun i x xs hat _ ih2=>⟨fun h0 N' hN'=>?_,fun h0 a5 c5 N' hN'=>?_⟩)
  ·exact key.1 rfl N5 (by omega)
  ·refine uk _ _ _ _ _ _ _ _ _ _ _ _ _ _ _ _ ?_
   rw [hlt]
   refine ⟨⟨rfl,rfl⟩,fun a4 _ _ N3 hN3 _=>?_⟩
   have hg0:rY g ns=[]:=oR (by omega)
   have:=fin a4 0 N3 (by omega)
   rw [hg0] at this e1
   refine this _ fun N6 hN6 _ N7 hN7=>?_
   exact Qp (hQ N7 (by omega)) e1
  ·refine wu _ _ _ _ _ _ _ _ _ _ _ _ _ _ _ ?_
   rw [hlt]
   rw [oY (by omega)]
   exact fun N3 hN3=>fin a5 c5 N3 (by omega) _ fun N6 hN6 _ N7 hN7=>Qp (hQ N7 (by omega)) e1
  all_goals
   have hb2:=hat.b
   have hlt:i<ns.length:=by omega
   have hni:ns[i]?=some ns[i]:=oD hlt
   have hng:=uc hni
   obtain ⟨t0,t1,hd',hnm,hty⟩:=hat.r
   have hat2:=zHg hat.g hni
  ·subst h0
   have e3:((rY g ns).take (0+1))=[]++[(x.nm,ns[0],false)]:=zY hat2
   have hand:=zIV [] (by simp) (x.nm,ns[0],false)
   rw [<-e3] at hand
   refine uk _ _ _ _ _ _ _ _ _ _ _ _ _ _ _ _ ?_
   have e4:(((0:Nat):Int)).toNat=0:=rfl
   repeat' first|with_reducible intro _|simp only[hat.lt,hat.w,e4,hd',hng,Y1,Y2,Y3,Y4]|with_reducible refine X ?_ ?_|refine⟨_,_,_,rfl,?_⟩|refine⟨_,rfl,?_⟩|refine And.intro (by first|omega|trivial|(show _=_;rfl)|(with_reducible constructor)<;>first|omega|trivial|rfl) ?_|fail
   rename_i ad hap N1 hN1 hbel
   exact hand ad 0 N1 _ fun a2 c2 N2 hN2 own _=>⟨zFI hbel own (oF _),fun _=>ih2.2 (by omega) _ _ _ (by omega)⟩
  ·have htl:((rY g ns).take i).length<=1073741824:=by rw [o0];omega
   refine wu _ _ _ _ _ _ _ _ _ _ _ _ _ _ _ ?_
   have hand:=zIV ((rY g ns).take i) htl (x.nm,ns[i],false)
   rw [<-zY hat2] at hand
   repeat' first|with_reducible intro _|simp only[hat.lt,hat.w,oG,hd',hng,Y1,Y2,Y3,Y4]|with_reducible refine X ?_ ?_|refine⟨_,_,_,rfl,?_⟩|refine⟨_,rfl,?_⟩|refine And.intro (by first|omega|trivial|(show _=_;rfl)|(with_reducible constructor)<;>first|omega|trivial|rfl) ?_|refine (hand _ _) _ _ ?_|fail
   exact ih2.2 (by omega) _ _ _ (by omega)
end Go.Proofs.YtkdjhkfiolhkiaaGreat
