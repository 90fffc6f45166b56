/- The laws' look at sizes, and copies, of terms and contexts. -/
import Derived.Test.YtmfjakahanbnlaaGreatDoorA3
set_option linter.unusedVariables false
set_option linter.unusedSimpArgs false
namespace Go.Proofs.YtmfjakahanbnlaaGreatDoor
open Go Go.Proofs Go.Proofs.Tryz Go.IntWalk
mutual
theorem zEg:∀ (t:Ty) (n:Int),0<=n->zA9 t n = -1\/(0<=zA9 t n/\zA9 t n+t.cnt=n+1)
 | .mk _ l,n,h=>by
   simp only [zA9,Ty.cnt]
   split
   ·exact .inl rfl
   ·rcases zEY l (n - l.length) (by omega) with h | h
    ·exact .inl h
    ·exact .inr (by omega)
theorem zEY:∀ (l:List Ty) (n:Int),0<=n->zEC l n = -1\/(0<=zEC l n/\zEC l n+yb l=n+l.length)
 | [],n,h=>.inr (by simp [zEC,yb,h])
 | t :: ts,n,h=>by
   simp only [zEC,yb,oR]
   split
   ·exact .inl rfl
   ·rcases zEg t n h with h1 | h1
    ·omega
    ·rcases zEY ts (zA9 t n) (by omega) with h2 | h2
     ·exact .inl h2
     ·exact .inr (by omega)
end
/-- returns a number of which this holds -/
def zLZ (f:FuncId) (args:List PV) (P:Int->Prop):Prop:=∀ (N:Nat) (Q:QT [.int .i64]),(∀ r N',N<=N'->P r->Q r N')->ACalls prog f [.int .i64] args N Q
theorem zKJ (t:Ty) (d:D) (hd:t.Is d) (n:Int) (h0:0<=n) (h1:n<=1048576):zLZ 44 [.dg 2 d,.int .i64 n] fun r=>r = -1\/(0<=r/\r+t.cnt=n+1):=fun N Q hQ=>
 zEa t d hd n h0 h1 N Q fun N' hN'=>hQ _ N' hN' (zEg t n h0)
theorem zIP:∀ (t:Tm) (d:D),t.Is d->∀ n:Int,0<=n->n<=1048576->zLZ 8 [.dg 9 d,.int .i64 n] fun r=>r = -1\/(0<=r/\r<=n/\(t.cnt:Int)<=3+3*(n - r)):=by
 refine Tm.ind fun k nm ot m ty re l ih d hd n h0 h1 N Q hQ=>?_
 obtain ⟨t0,t1,r0,r1,a,es,c,rfl,hh,hlen,hes⟩:=Tm.is_mk.1 hd
 have hl:=hes.len
 have hnm:=hh.nm
 have hot:=hh.ot
 have hS:∀ n:Int,0<=n->n<=1048576->zLZ 45 [.sv a 9 es c,.int .i64 n] fun r=>r = -1\/(0<=r/\r<=n/\(z8 l:Int)<=3*(n - r)):=fun n h0 h1 N Q hQ=>by
  refine zAU N a es c n Q fun _=>?_
  rw [i64_in _ (by omega)]
  have key:0<=n - (es.length:Int)->∀ (m:Int) (N':Nat),N<=N'->0<=m->m<=1048576->(∀ r N'',N'<=N''->(r = -1\/(0<=r/\r<=m/\(z8 l:Int)<=3*l.length+3*(m - r)))->Q r N'')->yG Q N a es c m (0:Nat) N':=fun _=>by
   refine up hes hlen (fun i xs=>∀ (m:Int) (N':Nat),N<=N'->0<=m->m<=1048576->(∀ r N'',N'<=N''->(r = -1\/(0<=r/\r<=m/\(z8 xs:Int)<=3*xs.length+3*(m - r)))->Q r N'')->yG Q N a es c m i N') ?_ ?_
   ·intro i hlt _ m N' hN' hm0 hm1 hQ'
    refine ve _ _ _ _ _ _ _ _ ?_
    repeat' first|with_reducible intro _|simp only[hlt,Y1,Y2,Y3,Y4]|with_reducible refine X ?_ ?_|refine⟨_,_,_,rfl,?_⟩|refine⟨_,rfl,?_⟩|refine And.intro (by first|omega|trivial|(show _=_;rfl)|(with_reducible constructor)<;>first|omega|trivial|rfl) ?_|fail
    exact hQ' _ _ (by omega) (.inr ⟨hm0,by omega,by simp [z8]⟩)
   ·intro i x xs hat _ ih2 m N' hN' hm0 hm1 hQ'
    have hb:=hat.b
    refine ve _ _ _ _ _ _ _ _ ?_
    simp only [z8,oR] at hQ'
    repeat' first|with_reducible intro _|simp only[hat.lt,hat.w,oJ,Y1,Y2,Y3,Y4]|with_reducible refine X ?_ ?_|refine⟨_,_,_,rfl,?_⟩|refine⟨_,rfl,?_⟩|refine And.intro (by first|omega|trivial|(show _=_;rfl)|(with_reducible constructor)<;>first|omega|trivial|rfl) ?_|refine (ih x hat.m _ hat.r m hm0 hm1) _ _ ?_|fail
    ·exact hQ' _ _ (by omega) (.inl rfl)
    ·rename_i r N2 hN2 hr hle hneg
     exact ih2 _ _ (by omega) (by omega) (by omega) fun r2 N'' h2 hr2=>hQ' _ _ (by omega) (by omega)
  repeat' first|with_reducible intro _|simp only[Y1,Y2,Y3,Y4]|with_reducible refine X ?_ ?_|refine⟨_,_,_,rfl,?_⟩|refine⟨_,rfl,?_⟩|refine And.intro (by first|omega|trivial|(show _=_;rfl)|(with_reducible constructor)<;>first|omega|trivial|rfl) ?_|fail
  ·exact hQ _ _ (by omega) (.inl rfl)
  ·exact key (by omega) _ _ (oF _) (by omega) (by omega) fun r N'' h2 hr=>hQ _ _ (by omega) (by omega)
 have c1:=ty.cnt_pos
 have c2:=re.cnt_pos
 refine zB6 N _ n Q fun _=>⟨_,rfl,?_⟩
 rw [i64_in (n - (nm.size:Int)) (by omega)]
 simp only [Tm.cnt] at hQ
 refine Br.dec (fun hneg N' hN'=>hQ _ _ hN' (.inl rfl)) fun hpos=>⟨_,rfl,?_⟩
 rw [i64_in (n - (nm.size:Int) - (ot.size:Int)) (by omega)]
 refine Br.dec (fun hneg N' hN'=>hQ _ _ hN' (.inl rfl)) fun hpos2=>?_
 intro N1 hN1
 refine zKJ _ _ hh.ty _ (by omega) (by omega) _ _ fun r1 N2 hN2 hr1=>?_
 refine fun _=>Br.dec (fun hneg N' hN'=>hQ _ _ (by omega) (.inl rfl)) fun hpos3=>?_
 intro N3 hN3
 refine zKJ _ _ hh.re _ (by omega) (by omega) _ _ fun r2 N4 hN4 hr2=>?_
 refine fun _=>Br.dec (fun hneg N' hN'=>hQ _ _ (by omega) (.inl rfl)) fun hpos4=>⟨_,_,_,rfl,?_⟩
 intro N5 hN5
 refine hS _ (by omega) (by omega) _ _ fun r3 N6 hN6 hr3=>?_
 refine fun _=>Br.dec (fun hneg N' hN'=>hQ _ _ (by omega) (.inl rfl)) fun hpos5=>?_
 intro N7 hN7
 exact hQ _ _ (by omega) (by omega)
mutual
theorem Ty.sm_of:∀ t:Ty,t.cnt<=1073741824->t.Sm
 | .mk _ l,h=>by
   simp only [Ty.cnt] at h
   exact ⟨by have:=vG l;omega,Ty.sms_of l (by omega)⟩
theorem Ty.sms_of:∀ l:List Ty,yb l<=1073741824->zHO l
 | [],_=>trivial
 | t::ts,h=>by
   simp only [yb] at h
   exact ⟨Ty.sm_of t (by omega),Ty.sms_of ts (by omega)⟩
end
theorem zKT (t:Ty) (d:D) (hd:t.Is d) (hc:t.cnt<=1073741824):zLg 48 [.dg 2 d] t:=fun N Q hQ=>zE5 t d hd (t.sm_of hc) N Q hQ
theorem sT {t:Ty} {d:D} {N N':Nat} (h:t.Is d) (ho:Own N N' d):OwnL N N' [D.cell d 0,D.cell d 1]:=by
 cases t with
 | mk k l=>
   obtain ⟨a,es,c,rfl,_,_⟩:=Ty.is_mk.1 h
   show OwnL N N' [.lit (.int .i64 k),.sl a 2 es c]
   exact ⟨by simpa only [D.foot] using ho.nd,ho.fl,by simpa only [D.foot] using ho.lo,by simpa only [D.foot] using ho.hi⟩
/-- hands back a copy -/
def Cop (f:FuncId) (z:Nat) (args:List PV) (P:D->Prop):Prop:=∀ (N:Nat) (Q:QT [.ag z]),(∀ d' N',N<=N'->P d'->Own N N' d'->Q d' N')->ACalls prog f [.ag z] args N Q
def zLz (f:FuncId) (z:Nat) (args:List PV) (P:List D->Prop):Prop:=∀ (N:Nat) (Q:QT [.sl z]),(∀ a' es' c' N',N<=N'->P es'->Own N N' (.sl a' z es' c')->Q a' es' c' N')->ACalls prog f [.sl z] args N Q
theorem zBa:∀ (t:Tm) (d:D),t.Is d->t.cnt<=1073741824->Cop 10 9 [.dg 9 d] t.Is:=by
 refine Tm.ind fun k nm ot m ty re l ih d hd hc N Q hQ=>?_
 obtain ⟨t0,t1,r0,r1,a,es,c,rfl,hh,hlen,hes⟩:=Tm.is_mk.1 hd
 have hl:=hes.len
 simp only [Tm.cnt] at hc
 have hlc:=tH l
 have hS:zLz 49 9 [.sv a 9 es c] (fun es'=>All2 Tm.Is l es'):=fun N Q hQ=>by
  refine p5 N a es c Q fun _=>⟨⟨by omega,by omega,by omega,by omega⟩,?_⟩
  rw [oJ]
  have key:=up hes hlen (fun i xs=>∀ (done junk:List D) (N':Nat),N<=N'->All2 Tm.Is (l.take i) done->done.length=i->junk.length=xs.length->OwnL N N' done->ym Q N a es c es.length es.length i (done++junk) es.length N') ?_ ?_
  ·simpa using key [] (List.replicate es.length (.ag [.lit (.int .i64 0),.lit (.string (bytes [])),.lit (.string (bytes [])),.lit (.int .i64 0),.lit (.int .i64 0),.sl none 2 [] 0,.lit (.int .i64 0),.sl none 2 [] 0,.sl none 9 [] 0])) N (oF _) rfl rfl (by simp [hl]) zBI
  ·intro i hlt hi done junk N' hN' hd hdl hj ho
   have:junk=[]:=oX (by simpa using hj)
   subst this
   rw [od]
   refine va _ _ _ _ _ _ _ _ _ _ _ ?_
   rw [nH (by omega)] at hd
   have hdn:es.length=done.length:=by omega
   repeat' first|with_reducible intro _|simp only[hlt,Y1,Y2,Y3,Y4]|with_reducible refine X ?_ ?_|refine⟨_,_,_,rfl,?_⟩|refine⟨_,rfl,?_⟩|refine And.intro (by first|omega|trivial|(show _=_;rfl)|(with_reducible constructor)<;>first|omega|trivial|rfl) ?_|fail
   rename_i a' N3 hN3 hf N4 hN4
   exact hQ _ _ _ _ (by omega) hd ((zDC ho hf hN3).mono (oF _) hN4)
  ·intro i x xs hat _ ih2 done junk N' hN' hd hdl hj ho
   have hb:=hat.b
   have hxc:=vH hat.m
   cases junk with
   | nil=>simp at hj
   | cons y junk=>
     subst hdl
     refine va _ _ _ _ _ _ _ _ _ _ _ ?_
     repeat' first|with_reducible intro _|simp only[hat.lt,hat.w,oJ,nE,oH,oR,Y1,Y2,Y3,Y4]|with_reducible refine X ?_ ?_|refine⟨_,_,_,rfl,?_⟩|refine⟨_,rfl,?_⟩|refine And.intro (by first|omega|trivial|(show _=_;rfl)|(with_reducible constructor)<;>first|omega|trivial|rfl) ?_|refine (ih x hat.m _ hat.r (by omega)) _ _ ?_|fail
     all_goals first | (exfalso;omega) | skip
     rename_i N1 hN1 x' N2 hN2 hx hox _ _
     rw [zI1]
     have:=ih2 (done++[x']) junk _ (by omega) (by rw [vq hat.g];exact hd.snoc hx) (by simp) (by simpa using hj) (y3 (ho.mono (oF _) hN1) (xe hox) (by omega) hN2)
     simpa using this
 refine zBt N _ Q fun _=>?_
 repeat' first|with_reducible intro _|simp only[Y1,Y2,Y3,Y4]|with_reducible refine X ?_ ?_|refine⟨_,_,_,rfl,?_⟩|refine⟨_,rfl,?_⟩|refine And.intro (by first|omega|trivial|(show _=_;rfl)|(with_reducible constructor)<;>first|omega|trivial|rfl) ?_|refine (zKT _ _ hh.ty (by omega)) _ _ ?_|refine (zKT _ _ hh.re (by omega)) _ _ ?_|refine hS _ _ ?_|fail
 rename_i N1 hN1 x N2 hN2 hx hox _ _ N3 hN3 y N4 hN4 hy hoy _ _ N5 hN5 a' es' c' N6 hN6 hes' hos _ _ N7 hN7
 refine hQ _ _ (by omega) (Tm.is_mk.2 ⟨_,_,_,_,_,_,_,rfl,⟨hh.nm,hh.ot,Ty.is_cells hx,Ty.is_cells hy⟩,by have:=hes'.len;omega,hes'⟩) ?_
 exact zE3 (vL (vL (vL (vL (y3 ((sT hx hox).mono hN1 hN3) (y3 ((sT hy hoy).mono (oF _) hN5) ((xe hos).mono (oF _) hN7) (by omega) (by omega)) (by omega) (by omega))))))
theorem zAt (t:Ty) (d e:D) (hd:t.Is d) (he:t.Is e):tW 53 [.dg 2 d,.dg 2 e] true:=fun N Q hQ=>zEm t t d e hd he N Q fun N' h=>Qb (hQ N' h) ((zB7 t t).2 rfl).symm
theorem zIe:∀ (t:Tm) (d e:D),t.Is d->t.Is e->tW 12 [.dg 9 d,.dg 9 e] true:=by
 refine Tm.ind fun k nm ot m ty re l ih d e hd he N Q hQ=>?_
 obtain ⟨t0,t1,r0,r1,a,es,c,rfl,hh,hlen,hes⟩:=Tm.is_mk.1 hd
 obtain ⟨u0,u1,v0,v1,b,fs,c',rfl,hh',hlen',hfs⟩:=Tm.is_mk.1 he
 have hl:=hes.len
 have hl':=hfs.len
 have hS:tW 54 [.sv a 9 es c,.sv b 9 fs c'] true:=fun N Q hQ=>by
  have key:=up hes hlen (fun i xs=>∀ (N':Nat),N<=N'->yq Q N a es c b fs c' i N') ?_ ?_
  ·refine zAE N _ _ _ _ _ _ Q fun _ _=>?_
   repeat' first|with_reducible intro _|simp only[Y1,Y2,Y3,Y4]|with_reducible refine X ?_ ?_|refine⟨_,_,_,rfl,?_⟩|refine⟨_,rfl,?_⟩|refine And.intro (by first|omega|trivial|(show _=_;rfl)|(with_reducible constructor)<;>first|omega|trivial|rfl) ?_|fail
   ·omega
   ·exact key N (oF _)
  ·intro i hlt hi N' hN'
   refine vV _ _ _ _ _ _ _ _ _ _ ?_
   repeat' first|with_reducible intro _|simp only[hlt,Y1,Y2,Y3,Y4]|with_reducible refine X ?_ ?_|refine⟨_,_,_,rfl,?_⟩|refine⟨_,rfl,?_⟩|refine And.intro (by first|omega|trivial|(show _=_;rfl)|(with_reducible constructor)<;>first|omega|trivial|rfl) ?_|fail
   exact hQ _ (by omega)
  ·intro i x xs hat _ ih2 N' hN'
   have hb:=hat.b
   refine vV _ _ _ _ _ _ _ _ _ _ ?_
   repeat' first|with_reducible intro _|simp only[hat.lt,hat.w,oJ,Y1,Y2,Y3,Y4]|with_reducible refine X ?_ ?_|refine⟨_,_,_,rfl,?_⟩|refine⟨_,rfl,?_⟩|refine And.intro (by first|omega|trivial|(show _=_;rfl)|(with_reducible constructor)<;>first|omega|trivial|rfl) ?_|refine (ih x hat.m _ _ hat.r (hfs.get hat.g)) _ _ ?_|fail
   exact ih2 _ (by omega)
 refine zB2 N _ _ Q fun _ _=>?_
 repeat' first|with_reducible intro _|simp only[Y1,Y2,Y3,Y4]|with_reducible refine X ?_ ?_|refine⟨_,_,_,rfl,?_⟩|refine⟨_,rfl,?_⟩|refine And.intro (by first|omega|trivial|(show _=_;rfl)|(with_reducible constructor)<;>first|omega|trivial|rfl) ?_|refine (zAt _ _ _ hh.ty hh'.ty) _ _ ?_|refine (zAt _ _ _ hh.re hh'.re) _ _ ?_|refine hS _ _ ?_|fail
 all_goals first | exact absurd rfl (by assumption) | skip
 all_goals exact hQ _ (by omega)
end Go.Proofs.YtmfjakahanbnlaaGreatDoor
