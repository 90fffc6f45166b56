/- The laws' look at sizes, and copies, of terms and contexts. -/
import Derived.Test.YtlahkdflngobiaaGreatDoorA3
set_option linter.unusedVariables false
set_option linter.unusedSimpArgs false
namespace Go.Proofs.YtlahkdflngobiaaGreatDoor
open Go Go.Proofs Go.Proofs.Tryz Go.IntWalk
mutual
theorem zMh:∀ (t:Ty) (n:Int),0<=n->zI6 t n = -1\/(0<=zI6 t n/\zI6 t n+t.cnt=n+1)
 | .mk _ l,n,h=>by
   simp only [zI6,Ty.cnt]
   split
   ·exact .inl rfl
   ·rcases zMr l (n - l.length) (by omega) with h | h
    ·exact .inl h
    ·exact .inr (by omega)
theorem zMr:∀ (l:List Ty) (n:Int),0<=n->zLe l n = -1\/(0<=zLe l n/\zLe l n+zI l=n+l.length)
 | [],n,h=>.inr (by simp [zLe,zI,h])
 | t :: I,n,h=>by
   simp only [zLe,zI,oK]
   split
   ·exact .inl rfl
   ·rcases zMh t n h with h1 | h1
    ·omega
    ·rcases zMr I (zI6 t n) (by omega) with h2 | h2
     ·exact .inl h2
     ·exact .inr (by omega)
end
/-- returns a number of which this holds -/
def zTW (f:FuncId) (args:List PV) (P:Int->Prop):Prop:=∀ (N:Nat) (Q:QT [.i]),(∀ r N',N<=N'->P r->Q r N')->ACalls prog f [.i] args N Q
theorem zTF (t:Ty) (d:D) (hd:t.Is d) (n:Int) (J:0<=n) (O:n<=1048576):zTW 32 [.dg 2 d,.j n] λr=>r = -1\/(0<=r/\r+t.cnt=n+1):=λN Q hQ=>
 zNL t d hd n J O N Q λN' I=>hQ _ N' I (zMh t n J)
theorem zQi:∀ (t:Tm) (d:D),t.Is d->∀ n:Int,0<=n->n<=1048576->zTW 7 [.dg 9 d,.j n] λr=>r = -1\/(0<=r/\r<=n/\(t.cnt:Int)<=3+3*(n - r)):=by
 refine Tm.ind λk nm ot m ty re l ih d hd n h0 h1 N Q hQ=>?_
 obtain ⟨t0,t1,r0,r1,a,es,c,rfl,hh,hlen,ac⟩:=Tm.is_mk.1 hd
 have hl:=ac.len
 have aw:=hh.nm
 have ax:=hh.ot
 have hS:∀ n:Int,0<=n->n<=1048576->zTW 33 [.sv a 9 es c,.j n] λr=>r = -1\/(0<=r/\r<=n/\(zh l:Int)<=3*(n - r)):=λn h0 h1 N Q hQ=>by
  refine zGo N a es c n Q λ_=>?_
  rw [i64_in _ (by omega)]
  have key:0<=n - (es.length:Int)->∀ (m:Int) (N':Nat),N<=N'->0<=m->m<=1048576->(∀ r N'',N'<=N''->(r = -1\/(0<=r/\r<=m/\(zh l:Int)<=3*l.length+3*(m - r)))->Q r N'')->xf Q N a es c m (0:Nat) N':=λ_=>by
   refine up ac hlen (λi xs=>∀ (m:Int) (N':Nat),N<=N'->0<=m->m<=1048576->(∀ r N'',N'<=N''->(r = -1\/(0<=r/\r<=m/\(zh xs:Int)<=3*xs.length+3*(m - r)))->Q r N'')->xf Q N a es c m i N') ?_ ?_
   ·intro i ah _ m N' I ab ae O
    refine r5 _ _ _ _ _ _ _ _ ?_
    repeat' first|with_reducible intro _|simp only[ah,Y1,Y2,Y3,Y4]|with_reducible refine X ?_ ?_|refine⟨_,_,_,rfl,?_⟩|refine⟨_,rfl,?_⟩|refine And.intro (by first|omega|trivial|(show _=_;rfl)|(with_reducible constructor)<;>first|omega|trivial|rfl) ?_|fail
    exact O _ _ (by omega) (.inr ⟨ab,by omega,by simp [zh]⟩)
   ·intro i x xs aa _ ai m N' I ab ae O
    have hb:=aa.b
    refine r5 _ _ _ _ _ _ _ _ ?_
    simp only [zh,oK] at O
    repeat' first|with_reducible intro _|simp only[aa.lt,aa.w,oH,Y1,Y2,Y3,Y4]|with_reducible refine X ?_ ?_|refine⟨_,_,_,rfl,?_⟩|refine⟨_,rfl,?_⟩|refine And.intro (by first|omega|trivial|(show _=_;rfl)|(with_reducible constructor)<;>first|omega|trivial|rfl) ?_|refine (ih x aa.m _ aa.r m ab ae) _ _ ?_|fail
    ·exact O _ _ (by omega) (.inl rfl)
    ·rename_i r N2 aj hr ay J
     exact ai _ _ (by omega) (by omega) (by omega) λr2 N'' h2 ak=>O _ _ (by omega) (by omega)
  repeat' first|with_reducible intro _|simp only[Y1,Y2,Y3,Y4]|with_reducible refine X ?_ ?_|refine⟨_,_,_,rfl,?_⟩|refine⟨_,rfl,?_⟩|refine And.intro (by first|omega|trivial|(show _=_;rfl)|(with_reducible constructor)<;>first|omega|trivial|rfl) ?_|fail
  ·exact hQ _ _ (by omega) (.inl rfl)
  ·exact key (by omega) _ _ (oA _) (by omega) (by omega) λr N'' h2 hr=>hQ _ _ (by omega) (by omega)
 have c1:=ty.cnt_pos
 have c2:=re.cnt_pos
 refine zIY N _ n Q λ_=>⟨_,rfl,?_⟩
 rw [i64_in (n - (nm.size:Int)) (by omega)]
 simp only [Tm.cnt] at hQ
 refine Br.dec (λJ N' I=>hQ _ _ I (.inl rfl)) λau=>⟨_,rfl,?_⟩
 rw [i64_in (n - (nm.size:Int) - (ot.size:Int)) (by omega)]
 refine Br.dec (λJ N' I=>hQ _ _ I (.inl rfl)) λal=>?_
 intro N1 az
 refine zTF _ _ hh.ty _ (by omega) (by omega) _ _ λr1 N2 aj a6=>?_
 refine λ_=>Br.dec (λJ N' I=>hQ _ _ (by omega) (.inl rfl)) λam=>?_
 intro N3 a7
 refine zTF _ _ hh.re _ (by omega) (by omega) _ _ λr2 N4 a8 ak=>?_
 refine λ_=>Br.dec (λJ N' I=>hQ _ _ (by omega) (.inl rfl)) λao=>⟨_,_,_,rfl,?_⟩
 intro N5 ba
 refine hS _ (by omega) (by omega) _ _ λr3 N6 bb bc=>?_
 refine λ_=>Br.dec (λJ N' I=>hQ _ _ (by omega) (.inl rfl)) λaq=>?_
 intro N7 bd
 exact hQ _ _ (by omega) (by omega)
mutual
theorem Ty.sm_of:∀ t:Ty,t.cnt<=1073741824->t.Sm
 | .mk _ l,h=>by
   simp only [Ty.cnt] at h
   exact ⟨by have:=rq l;omega,Ty.sms_of l (by omega)⟩
theorem Ty.sms_of:∀ l:List Ty,zI l<=1073741824->zPM l
 | [],_=>trivial
 | t::I,h=>by
   simp only [zI] at h
   exact ⟨Ty.sm_of t (by omega),Ty.sms_of I (by omega)⟩
end
theorem zSX (t:Ty) (d:D) (hd:t.Is d) (hc:t.cnt<=1073741824):zDR 41 [.dg 2 d] t:=λN Q I=>zMo t d hd (t.sm_of hc) N Q I
theorem vU {t:Ty} {d:D} {N N':Nat} (h:t.Is d) (I:Own N N' d):OwnL N N' [D.cell d 0,D.cell d 1]:=by
 cases t with
 | mk k l=>
   obtain ⟨a,es,c,rfl,_,_⟩:=Ty.is_mk.1 h
   show OwnL N N' [.j k,.sl a 2 es c]
   exact ⟨by simpa only [D.foot] using I.nd,I.fl,by simpa only [D.foot] using I.lo,by simpa only [D.foot] using I.hi⟩
/-- hands back a copy -/
def Cop (f:FuncId) (z:Nat) (args:List PV) (P:D->Prop):Prop:=∀ (N:Nat) (Q:QT [.ag z]),(∀ d' N',N<=N'->P d'->Own N N' d'->Q d' N')->ACalls prog f [.ag z] args N Q
def zUx (f:FuncId) (z:Nat) (args:List PV) (P:List D->Prop):Prop:=∀ (N:Nat) (Q:QT [.sl z]),(∀ I es' J N',N<=N'->P es'->Own N N' (.sl I z es' J)->Q I es' J N')->ACalls prog f [.sl z] args N Q
theorem zEc:∀ (t:Tm) (d:D),t.Is d->t.cnt<=1073741824->Cop 10 9 [.dg 9 d] t.Is:=by
 refine Tm.ind λk nm ot m ty re l ih d hd hc N Q hQ=>?_
 obtain ⟨t0,t1,r0,r1,a,es,c,rfl,hh,hlen,ac⟩:=Tm.is_mk.1 hd
 have hl:=ac.len
 simp only [Tm.cnt] at hc
 have aw:=yg l
 have hS:zUx 42 9 [.sv a 9 es c] (λes'=>All2 Tm.Is l es'):=λN Q hQ=>by
  refine zG2 N a es c Q λ_=>⟨⟨by omega,by omega,by omega,by omega⟩,?_⟩
  rw [oH]
  have key:=up ac hlen (λi xs=>∀ (done junk:List D) (N':Nat),N<=N'->All2 Tm.Is (l.take i) done->done.length=i->junk.length=xs.length->OwnL N N' done->wt Q N a es c es.length es.length i (done++junk) es.length N') ?_ ?_
  ·simpa using key [] (List.replicate es.length (.ag [.j 0,.t (bytes []),.t (bytes []),.j 0,.j 0,.sl none 2 [] 0,.j 0,.sl none 2 [] 0,.sl none 9 [] 0])) N (oA _) rfl rfl (by simp [hl]) uv
  ·intro i aj hi done junk N' ak hd ae hj ho
   have:junk=[]:=oM (by simpa using hj)
   subst this
   rw [oY]
   refine qP _ _ _ _ _ _ _ _ _ _ _ ?_
   rw [oi (by omega)] at hd
   have ax:es.length=done.length:=by omega
   repeat' first|with_reducible intro _|simp only[aj,Y1,Y2,Y3,Y4]|with_reducible refine X ?_ ?_|refine⟨_,_,_,rfl,?_⟩|refine⟨_,rfl,?_⟩|refine And.intro (by first|omega|trivial|(show _=_;rfl)|(with_reducible constructor)<;>first|omega|trivial|rfl) ?_|fail
   rename_i a' N3 O hf N4 ah
   exact hQ _ _ _ _ (by omega) hd ((tf ho hf O).mono (oA _) ah)
  ·intro i x xs I _ al done junk N' ak hd ae hj ho
   have hb:=I.b
   have ay:=zn I.m
   cases junk with
   | nil=>simp at hj
   | cons y junk=>
     subst ae
     refine qP _ _ _ _ _ _ _ _ _ _ _ ?_
     repeat' first|with_reducible intro _|simp only[I.lt,I.w,oH,o6,oE,oK,Y1,Y2,Y3,Y4]|with_reducible refine X ?_ ?_|refine⟨_,_,_,rfl,?_⟩|refine⟨_,rfl,?_⟩|refine And.intro (by first|omega|trivial|(show _=_;rfl)|(with_reducible constructor)<;>first|omega|trivial|rfl) ?_|refine (ih x I.m _ I.r (by omega)) _ _ ?_|fail
     all_goals first | (exfalso;omega) | skip
     rename_i N1 aa x' N2 ai hx ab _ _
     rw [zDf]
     have:=al (done++[x']) junk _ (by omega) (by rw [xo I.g];exact hd.snoc hx) (by simp) (by simpa using hj) (zm (ho.mono (oA _) aa) (zo ab) (by omega) ai)
     simpa using this
 refine zJY N _ Q λ_=>?_
 repeat' first|with_reducible intro _|simp only[Y1,Y2,Y3,Y4]|with_reducible refine X ?_ ?_|refine⟨_,_,_,rfl,?_⟩|refine⟨_,rfl,?_⟩|refine And.intro (by first|omega|trivial|(show _=_;rfl)|(with_reducible constructor)<;>first|omega|trivial|rfl) ?_|refine (zSX _ _ hh.ty (by omega)) _ _ ?_|refine (zSX _ _ hh.re (by omega)) _ _ ?_|refine hS _ _ ?_|fail
 rename_i N1 aa x N2 ai hx ab _ _ N3 O y N4 ah hy am _ _ N5 ao a' es' c' N6 az J aq _ _ N7 au
 refine hQ _ _ (by omega) (Tm.is_mk.2 ⟨_,_,_,_,_,_,_,rfl,⟨hh.nm,hh.ot,Ty.is_cells hx,Ty.is_cells hy⟩,by have:=J.len;omega,J⟩) ?_
 exact s9 (zR (zR (zR (zR (zm ((vU hx ab).mono aa O) (zm ((vU hy am).mono (oA _) ao) ((zo aq).mono (oA _) au) (by omega) (by omega)) (by omega) (by omega))))))
theorem zCU (t:Ty) (d e:D) (hd:t.Is d) (I:t.Is e):vn 48 [.dg 2 d,.dg 2 e] true:=λN Q J=>zMa t t d e hd I N Q λN' h=>Qb (J N' h) ((ri t t).2 rfl).symm
theorem zEY:∀ (t:Tm) (d e:D),t.Is d->t.Is e->vn 12 [.dg 9 d,.dg 9 e] true:=by
 refine Tm.ind λk nm ot m ty re l ih d e hd he N Q hQ=>?_
 obtain ⟨t0,t1,r0,r1,a,es,c,rfl,hh,hlen,J⟩:=Tm.is_mk.1 hd
 obtain ⟨u0,u1,v0,v1,b,fs,c',rfl,O,ab,aa⟩:=Tm.is_mk.1 he
 have hl:=J.len
 have ai:=aa.len
 have hS:vn 49 [.sv a 9 es c,.sv b 9 fs c'] true:=λN Q hQ=>by
  have key:=up J hlen (λi xs=>∀ (N':Nat),N<=N'->ww Q N a es c b fs c' i N') ?_ ?_
  ·refine zGl N _ _ _ _ _ _ Q λ_ _=>?_
   repeat' first|with_reducible intro _|simp only[Y1,Y2,Y3,Y4]|with_reducible refine X ?_ ?_|refine⟨_,_,_,rfl,?_⟩|refine⟨_,rfl,?_⟩|refine And.intro (by first|omega|trivial|(show _=_;rfl)|(with_reducible constructor)<;>first|omega|trivial|rfl) ?_|fail
   ·omega
   ·exact key N (oA _)
  ·intro i ac hi N' ae
   refine qU _ _ _ _ _ _ _ _ _ _ ?_
   repeat' first|with_reducible intro _|simp only[ac,Y1,Y2,Y3,Y4]|with_reducible refine X ?_ ?_|refine⟨_,_,_,rfl,?_⟩|refine⟨_,rfl,?_⟩|refine And.intro (by first|omega|trivial|(show _=_;rfl)|(with_reducible constructor)<;>first|omega|trivial|rfl) ?_|fail
   exact hQ _ (by omega)
  ·intro i x xs I _ ah N' ae
   have hb:=I.b
   refine qU _ _ _ _ _ _ _ _ _ _ ?_
   repeat' first|with_reducible intro _|simp only[I.lt,I.w,oH,Y1,Y2,Y3,Y4]|with_reducible refine X ?_ ?_|refine⟨_,_,_,rfl,?_⟩|refine⟨_,rfl,?_⟩|refine And.intro (by first|omega|trivial|(show _=_;rfl)|(with_reducible constructor)<;>first|omega|trivial|rfl) ?_|refine (ih x I.m _ _ I.r (aa.get I.g)) _ _ ?_|fail
   exact ah _ (by omega)
 refine zI2 N _ _ Q λ_ _=>?_
 repeat' first|with_reducible intro _|simp only[Y1,Y2,Y3,Y4]|with_reducible refine X ?_ ?_|refine⟨_,_,_,rfl,?_⟩|refine⟨_,rfl,?_⟩|refine And.intro (by first|omega|trivial|(show _=_;rfl)|(with_reducible constructor)<;>first|omega|trivial|rfl) ?_|refine (zCU _ _ _ hh.ty O.ty) _ _ ?_|refine (zCU _ _ _ hh.re O.re) _ _ ?_|refine hS _ _ ?_|fail
 all_goals first | exact absurd rfl (by assumption) | skip
 all_goals exact hQ _ (by omega)
theorem zNc (k:Int) (h0:0<=k) (h1:k<=4611686018427387904):∀ (N:Nat) (Q:QT [.str]),(∀ s N',N<=N'->Q s N')->ACalls prog 51 [.str] [.j k] N Q:=λN Q O=>by
 have key:∀ (n:Nat) (k:Int) (s:ByteArray) (N':Nat),k.toNat<=n->0<=k->(s.size:Int)+k<=4611686018427387904->N<=N'->xO Q N k s N':=by
  intro n
  induction n with
  | zero=>
    intro k s N' hn hk hs J
    refine wU _ _ _ _ _ (Br.dec (λh=>?_) λ_=>⟨by omega,λN1 I=>O _ _ (by omega)⟩)
    omega
  | succ n ih=>
    intro k s N' hn hk hs J
    refine wU _ _ _ _ _ (Br.dec (λh=>?_) λ_=>⟨by omega,λN1 I=>O _ _ (by omega)⟩)
    have hd:Int.tdiv k 10=k / 10:=mv hk
    refine ⟨by decide,by simp,[_],rfl,?_,by decide,?_⟩
    ·show 1+s.size<=_
     omega
    ·rw [hd,i64_in _ (by omega)]
     refine ih _ _ _ (by omega) (by omega) ?_ J
     rw [mW]
     show ((1+s.size:Nat):Int)+_<=_
     omega
 refine qu N k Q (Br.dec (λ_ N1 I=>O _ _ I) λh=>?_)
 exact key k.toNat k _ N (oA _) h0 (by show ((0:Nat):Int)+_<=_;omega) (oA _)
theorem zIz (cs:List D):D.cells (.ag cs)=cs:=rfl
theorem p40 (v O c1 I J:D):yk 0 [v] [O,c1,I,J]=[v,c1,I,J]:=rfl
theorem p41 (v I c1 J O:D):yk 1 [v] [I,c1,J,O]=[I,v,J,O]:=rfl
theorem p42 (v I c1 O J:D):yk 2 [v] [I,c1,O,J]=[I,c1,v,J]:=rfl
theorem p43 (v I c1 J O:D):yk 3 [v] [I,c1,J,O]=[I,c1,J,v]:=rfl
theorem zJ1 {a b c:List D} {x:D} (h:(zB (a++x::c)).Nodup):x.foot.Nodup:=by
 rw [zE,oc] at h
 have:=h.2.1
 simp only [zB] at this
 rw [oc] at this
 exact this.1
theorem p90 (v c0 c1 I J O c5 c6 c7 c8:D):yk 0 [v] [c0,c1,I,J,O,c5,c6,c7,c8]=[v,c1,I,J,O,c5,c6,c7,c8]:=rfl
theorem p91 (v I c1 J O c4 c5 c6 c7 c8:D):yk 1 [v] [I,c1,J,O,c4,c5,c6,c7,c8]=[I,v,J,O,c4,c5,c6,c7,c8]:=rfl
theorem p92 (v I c1 c2 J O c5 c6 c7 c8:D):yk 2 [v] [I,c1,c2,J,O,c5,c6,c7,c8]=[I,c1,v,J,O,c5,c6,c7,c8]:=rfl
theorem p93 (v I c1 J c3 O c5 c6 c7 c8:D):yk 3 [v] [I,c1,J,c3,O,c5,c6,c7,c8]=[I,c1,J,v,O,c5,c6,c7,c8]:=rfl
theorem p94 (v I c1 J O c4 c5 c6 c7 c8:D):yk 4 [v] [I,c1,J,O,c4,c5,c6,c7,c8]=[I,c1,J,O,v,c5,c6,c7,c8]:=rfl
theorem p95 (v I c1 J O c4 c5 c6 c7 c8:D):yk 5 [v] [I,c1,J,O,c4,c5,c6,c7,c8]=[I,c1,J,O,c4,v,c6,c7,c8]:=rfl
theorem p96 (v I c1 J O c4 c5 c6 c7 c8:D):yk 6 [v] [I,c1,J,O,c4,c5,c6,c7,c8]=[I,c1,J,O,c4,c5,v,c7,c8]:=rfl
theorem p97 (v I c1 J O c4 c5 c6 c7 c8:D):yk 7 [v] [I,c1,J,O,c4,c5,c6,c7,c8]=[I,c1,J,O,c4,c5,c6,v,c8]:=rfl
theorem p98 (v I c1 J O c4 c5 c6 c7 c8:D):yk 8 [v] [I,c1,J,O,c4,c5,c6,c7,c8]=[I,c1,J,O,c4,c5,c6,c7,v]:=rfl
theorem Ty.is_two {t:Ty} {t0 t1:D} (h:t.Is (.ag [t0,t1])):∃ kk l a es c,t=.mk kk l/\t0=.j kk/\t1=.sl a 2 es c/\es.length<=4611686018427387904/\TysIs l es:=by
 cases t with
 | mk kk l=>
   obtain ⟨a,es,c,I,O,h3⟩:=Ty.is_mk.1 h
   injection I with I
   injection I with e1 J
   injection J with J _
   exact ⟨kk,l,a,es,c,rfl,e1,J,O,zEb h3⟩
/-- the cells of a term of these marks -/
abbrev tmD (x0 x1 x2 x3 x4 x6:Value) (aT:Option Addr) (I:List D) (cT:Nat) (aR:Option Addr) (J:List D) (cR:Nat) (aA:Option Addr) (O:List D) (cA:Nat):D:=
 .ag [.lit x0,.lit x1,.lit x2,.lit x3,.lit x4,.sl aT 2 I cT,.lit x6,.sl aR 2 J cR,.sl aA 9 O cA]
theorem zEg {x0 x1 x2 x3 x4 x6:Value} {aT:Option Addr} {I:List D} {cT:Nat} {aR:Option Addr} {J:List D} {cR:Nat} {aA:Option Addr} {O:List D} {cA:Nat} :
  (tmD x0 x1 x2 x3 x4 x6 aT I cT aR J cR aA O cA).foot=(D.sl aT 2 I cT).foot++((D.sl aR 2 J cR).foot++(D.sl aA 9 O cA).foot):=by
 simp only [D.foot,zB,oR,oY]
theorem zHL {kk:Int} {l:List Ty} {a:Option Addr} {es:List D} {c:Nat} (aa:TysIs l es) (hlen:es.length<=4611686018427387904) (ht:Tree (.ag [.j kk,.sl a 2 es c])) (k:Int) (hk:0<=k) (ab:k+zI l<=4611686018427387904) (N:Nat) (R:D->Int->Nat->Prop)
  (hR:∀ es' N',N<=N'->TysIs (ze l k).1 es'->zB es'=zB es->es'.length=es.length->R (.ag [.j kk,.sl a 2 es' c]) (ze l k).2 N'):MC prog 53 (.ag [.j kk,.sl a 2 es c]) k N R:=by
 have hf:(D.ag [.j kk,.sl a 2 es c]).foot=(D.sl a 2 es c).foot:=by simp only [D.foot,zB,oR,oY]
 have I:Tree (.sl a 2 es c):=⟨hf ▸ ht.nd,ht.fl.2.1⟩
 refine zGD N [.j kk,.sl a 2 es c] k R (λk' x N'=>N<=N'/\∃ es',x=.ag [.j kk,.sl a 2 es' c]/\TysIs (ze l k).1 es'/\zB es'=zB es/\es'.length=es.length/\k'=(ze l k).2) ⟨_,rfl,rfl,by simp [D.isCell];rfl⟩
  ⟨a,es,c,rfl,I,⟨λb hb=>hf ▸ hb⟩,by simp [D.cells],rfl,⟨(by have:=ht.nd;simpa only [D.foot] using this:(zB [D.j kk,.sl a 2 es c]).Nodup)⟩,⟨by simp⟩,λN1 ah=>?_⟩ ?_
 ·refine tL l es aa a c I hlen k hk ab N1 _ λes' N2 ai h1 O J _ N3 aj=>?_
  exact ⟨by omega,es',rfl,h1,O,J,rfl⟩
 ·rintro k' x N' ⟨ac,es',rfl,h1,O,J,rfl⟩
  have ae:=rT (a:=a) (z:=2) (c:=c) J O
  exact ⟨_,rfl,by simp [D.cv,J],by simp only [zB,ae],hR es' N' ac h1 O J⟩
mutual
theorem zUa:∀ (t:Ty) (k:Int),0<=k->zUg t k = -1\/zUg t k+1=k+t.cnt
 | .mk _ l,k,h=>by
   simp only [zUg,Ty.cnt]
   rcases zKC l k h with h | h<;>omega
theorem zKC:∀ (l:List Ty) (k:Int),0<=k->sN l k = -1\/sN l k=k+zI l
 | [],k,_=>.inr (by simp [sN,zI])
 | .mk kk l::I,k,h=>by
   simp only [sN,zI,Ty.cnt]
   split
   ·exact .inl rfl
   ·split
    ·exact .inl rfl
    ·rename_i J
     rcases zKC l (k+1) (by omega) with h3 | h3
     ·omega
     ·rcases zKC I (sN l (k+1)) (by omega) with h4 | h4
      ·exact .inl h4
      ·exact .inr (by omega)
end
theorem zFO (t:Ty):∀ (es:List D) (a:Option Addr) (c:Nat),All2 Ty.Is t.as es->es.length<=4611686018427387904->∀ n:Int,0<=n->n+zI t.as<=4611686018427387904->p9 93 [.sv a 2 es c,.j n] (sN t.as n):=by
 revert t
 refine Ty.ind λk l ih es a c ab hlen n h0 h1 N Q hQ=>?_
 simp only [Ty.as] at ab hQ h1
 refine zD2 N a es c n Q λ_=>?_
 refine up ab hlen (λi xs=>∀ (m:Int) (N':Nat),N<=N'->0<=m->m+zI xs<=4611686018427387904->(∀ N'',N'<=N''->Q (sN xs m) N'')->xv Q N a es c m i N') ?_ ?_ n N (oA _) h0 (by omega) hQ
 ·intro i ai _ m N' aj ak ac I
  simp only [sN] at I
  refine t6 _ _ _ _ _ _ _ _ ?_
  repeat' first|with_reducible intro _|simp only[ai,Y1,Y2,Y3,Y4]|with_reducible refine X ?_ ?_|refine⟨_,_,_,rfl,?_⟩|refine⟨_,rfl,?_⟩|refine And.intro (by first|omega|trivial|(show _=_;rfl)|(with_reducible constructor)<;>first|omega|trivial|rfl) ?_|fail
  exact I _ (by omega)
 ·intro i x xs J _ al m N' aj ak ac I
  have hb:=J.b
  have hr:=J.r
  have am:=ih x J.m
  cases x with
  | mk kk lt=>
  obtain ⟨a1,ao,c1,hd,aa,ae⟩:=Ty.is_mk.1 hr
  simp only [zI,Ty.cnt] at ac
  simp only [sN] at I
  have hc:=zKC lt (m+1) (by omega)
  refine t6 _ _ _ _ _ _ _ _ ?_
  rw [i64_in (m+1) (by omega)]
  repeat' first|with_reducible intro _|simp only[J.lt,J.w,oH,hd,Y1,Y2,Y3,Y4]|with_reducible refine X ?_ ?_|refine⟨_,_,_,rfl,?_⟩|refine⟨_,rfl,?_⟩|refine And.intro (by first|omega|trivial|(show _=_;rfl)|(with_reducible constructor)<;>first|omega|trivial|rfl) ?_|fail
  ·rename_i hk _ _
   exact Qi (I _ (by omega)) (by rw [if_pos hk])
  ·rename_i hk _ _
   have ah:=am ao a1 c1 ae aa (m+1) (by omega) (by simp only [Ty.as];omega)
   simp only [Ty.as] at ah
   refine ah _ _ λN3 aq _=>Br.dec (λO N4 au=>?_) λO=>?_
   ·exact Qi (I _ (by omega)) (by rw [if_neg (by omega),if_pos O])
   ·exact al _ _ (by omega) (by omega) (by omega) λN'' h=>Qi (I _ (by omega)) (by rw [if_neg (by omega),if_neg O])
theorem zHM {kk:Int} {l:List Ty} {a:Option Addr} {es:List D} {c:Nat} (J:TysIs l es) (hlen:es.length<=4611686018427387904) (n:Int) (h0:0<=n) (h1:n+zI l<=4611686018427387903):p9 55 [.dg 2 (.ag [.j kk,.sl a 2 es c]),.j n] (sN l n):=λN Q hQ=>by
 have hc:=zKC l n h0
 have:=zFO (.mk kk l) es a c (uw J) hlen n h0 (by simp only [Ty.as];omega)
 refine zFF N _ n Q λ_=>?_
 refine ⟨_,_,_,rfl,λN1 aa=>?_⟩
 refine this N1 _ λN2 ab _=>Br.dec (λI N3 O=>?_) λI N3 O=>?_
 ·simp only [Ty.as] at I
  exact Qi (hQ _ (by omega)) (by omega)
 ·exact hQ _ (by omega)
end Go.Proofs.YtlahkdflngobiaaGreatDoor
