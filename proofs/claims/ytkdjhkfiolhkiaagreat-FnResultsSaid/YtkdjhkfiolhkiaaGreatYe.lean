/- Steps: the program's, of parts. -/
import Derived.Test.YtkdjhkfiolhkiaaGreatYa
set_option linter.unusedVariables false
set_option linter.unusedSimpArgs false
namespace Go.Proofs.YtkdjhkfiolhkiaaGreat
open Go Go.Proofs Go.Proofs.Tryz Go.IntWalk
def zLK (f:FuncId) (args:List PV) (r:Tm × Bool):Prop:=∀ (N:Nat) (Q:QT [.ag 9,.bool]),(∀ d N',N<=N'->r.1.Is d->Q d r.2 N')->ACalls prog f [.ag 9,.bool] args N Q
theorem rL:tm0.Is (.ag [.lit (.int .i64 0),.lit (.string (bytes [])),.lit (.string (bytes [])),.lit (.int .i64 0),.lit (.int .i64 0),.sl none 2 [] 0,.lit (.int .i64 0),.sl none 2 [] 0,.sl none 9 [] 0]):=
 Tm.is_mk.2 ⟨_,_,_,_,_,_,_,rfl,⟨by decide,by decide,xE _,xE _⟩,by simp,rfl⟩
theorem zB3 {k n m:Int} {c1 c2 c4 c5 c6 c7 c8:D}:vK 183 [.dg 9 (.ag [.lit (.int .i64 k),c1,c2,.lit (.int .i64 n),c4,c5,c6,c7,c8]),.int .i64 m] (!(k==11&&m==1)):=fun N Q hQ=>
 rF N _ m Q fun _=>⟨_,rfl,Br.bne (fun h N1 hN1=>Qb (hQ _ hN1) (by simp [h])) fun h N1 hN1=>Qb (hQ _ hN1) (by rw [h];simp [bne])⟩
theorem zLF:∀ (t:Tm) (d:D),t.Is d->∀ m:Int,LvIn m t.dp->vK 163 [.dg 9 d,.int .i64 m,.fn 183 []] (t.made m):=by
 refine Tm.ind fun k nm ot n ty re l ih d hd m hm N Q hQ=>?_
 obtain ⟨t0,t1,r0,r1,a,es,c,rfl,hh,hlen,hes⟩:=Tm.is_mk.1 hd
 have hl:=hes.len
 refine zAD N _ m Q fun _ N1 hN1=>zB3 N1 _ fun N2 hN2 _=>Br.not (fun hv N3 hN3=>Qb (hQ _ (by omega)) (by simp only [Tm.made,hv,Bool.false_and])) fun hv=>⟨_,_,_,rfl,?_⟩
 refine up hes hlen (fun i xs=>∀ (N':Nat),N<=N'->(∀ N'',N'<=N''->Q (vP xs (xC k m)) N'')->xU Q N m a es c es.length i (.ag [.lit (.int .i64 k),.lit (.string nm),.lit (.string ot),.lit (.int .i64 n),t0,t1,r0,r1,.sl a 9 es c]) N') ?_ ?_ N2 (by omega) fun N'' h=>Qb (hQ N'' (by omega)) (by simp only [Tm.made,hv,Bool.true_and])
 ·intro i hlt _ N' hN' hQ'
  refine tH _ _ _ _ _ _ _ _ _ _ ?_
  repeat' first|with_reducible intro _|simp only[hlt,Y1,Y2,Y3,Y4]|with_reducible refine X ?_ ?_|refine⟨_,_,_,rfl,?_⟩|refine⟨_,rfl,?_⟩|refine And.intro (by first|omega|trivial|(show _=_;rfl)|(with_reducible constructor)<;>first|omega|trivial|rfl) ?_|fail
  exact Qb (hQ' _ (by omega)) (by simp [vP])
 ·intro i x xs hat _ ih2 N' hN' hQ'
  have hb2:=hat.b
  refine tH _ _ _ _ _ _ _ _ _ _ ?_
  repeat' first|with_reducible intro _|simp only[hat.lt,hat.w,oJ,Y1,Y2,Y3,Y4]|with_reducible refine X ?_ ?_|refine⟨_,_,_,rfl,?_⟩|refine⟨_,rfl,?_⟩|refine And.intro (by first|omega|trivial|(show _=_;rfl)|(with_reducible constructor)<;>first|omega|trivial|rfl) ?_|refine (zHZ hm.b) _ _ ?_|refine (ih x hat.m _ hat.r _ (hm.next (dp_mem hat.m))) _ _ ?_|fail
  ·refine Qb (hQ' _ (by omega)) ?_;simp [vP, *]
  ·exact ih2 _ (by omega) fun N'' h=>Qb (hQ' N'' (by omega)) (by simp [vP, *])
theorem zFi {t:Tm} {d:D} (hd:t.Is d) (hc:t.cnt<=1073741824) {m:Int} (hm:LvIn m t.dp):vK 125 [.dg 9 d,.int .i64 m] (zB9 t m&&t.made m):=fun N Q hQ=>
 qZ N _ m Q fun _ N1 hN1=>sS t d hd hc m N1 _ fun N2 hN2 _=>Br.of (fun hv N3 hN3=>zLF t d hd m hm N3 _ fun N4 hN4 _ N5 hN5=>Qb (hQ _ (by omega)) (by rw [hv];simp)) fun hv N3 hN3=>Qb (hQ _ (by omega)) (by rw [hv];simp)
theorem zJ7 {e:Tm} {d:D} (he:e.Is d) (hok:e.ok=true) (hc:e.cnt<=1073741824):vK 51 [.dg 9 d] e.res:=fun N Q hQ=>by
 cases e with
 | mk k nm ot n0 ty re l=>
 have hI:=wN _ d he hc
 rw [hok] at hI
 obtain ⟨t0,t1,r0,r1,a,es,c,rfl,hh,hlen,hes⟩:=Tm.is_mk.1 he
 have hl:=hes.len
 refine sO N _ Q fun _=>⟨_,rfl,?_⟩
 refine Br.beq (fun h2 N1 hN1=>hI N1 _ fun N2 hN2 _ N3 hN3=>Qb (hQ _ (by omega)) (by simp [Tm.res,zJA,Tm.kd,h2])) fun h2=>?_
 refine Br.beq (fun h3 N1 hN1=>hI N1 _ fun N2 hN2 _ N3 hN3=>Qb (hQ _ (by omega)) (by simp [Tm.res,zJA,Tm.kd,h3])) fun h3=>?_
 refine Br.beq (fun h6 N1 hN1=>hI N1 _ fun N2 hN2 _ N3 hN3=>Qb (hQ _ (by omega)) (by simp [Tm.res,zJA,Tm.kd,h6])) fun h6=>?_
 refine Br.beq (fun h9 N1 hN1=>hI N1 _ fun N2 hN2 _ N3 hN3=>Qb (hQ _ (by omega)) (by simp [Tm.res,zJA,Tm.kd,h9])) fun h9=>?_
 refine Br.beq (fun h10 N1 hN1=>?_) fun h10 N1 hN1=>Qb (hQ _ hN1) (by simp [Tm.res,zJA,Tm.kd,h2,h3,h6,h9,h10])
 subst h10
 have hl1:=(uK hok).1 (by omega)
 refine hI N1 _ fun N2 hN2 _=>Br.of (fun _=>?_) fun h=>absurd h (by decide)
 cases l with
 | nil=>simp at hl1
 | cons p ls=>
 cases ls with
 | cons _ _=>simp at hl1
 | nil=>
 have hdc:=Tm.dp_cnt p
 have hpo:p.ok=true:=by
  simp only [Tm.ok,ut,oL] at hok
  exact hok.1.1
 simp only [Tm.cnt,zI] at hc
 refine ⟨_,_,_,rfl,⟨by omega,by omega⟩,fun N3 hN3=>?_⟩
 refine zFi (wV hes (j:=0) (by simp)) (by simp only [mo];omega) (m:=1) (by unfold LvIn;simp only [mo];omega) N3 _ fun N4 hN4 _ N5 hN5=>Qb (hQ _ (by omega)) ?_
 simp only [mo,Tm.res,zJA,Tm.kd,Tm.lev,t6,xC,Tm.pt,zB9,hpo]
 simp [inB]
theorem zOE {e:Tm} {d:D} (he:e.Is d) (hok:e.ok=true) (hc:e.cnt<=1073741824):zLK 46 [.dg 9 d] (if e.kd=2\/e.kd=3 then (Tm.nod 10 [e],true) else (tm0,false)):=fun N Q hQ=>by
 cases e with
 | mk k nm ot n0 ty re l=>
 have hI:=wN _ d he hc
 rw [hok] at hI
 have hG:=Tm.G_cnt _ hc
 have he0:=he
 obtain ⟨t0,t1,r0,r1,a,es,c,rfl,hh,hlen,hes⟩:=Tm.is_mk.1 he
 have hl:=hes.len
 have fin:(Tm.mk k nm ot n0 ty re l).kd=2\/(Tm.mk k nm ot n0 ty re l).kd=3->∀ N2,N<=N2->∀ N3,N2<=N3->ACalls prog 121 [.pk,.int .i64,.str,.str,.int .i64,.dc,.dc,.dc,.dc,.row 30 9] [.dg 9 (.ag [.lit (.int .i64 k),.lit (.string nm),.lit (.string ot),.lit (.int .i64 n0),t0,t1,r0,r1,.sl a 9 es c])] N3
   (fun n s s_1 n_1 x x_1 x_2 x_3 es c N4=>N3<=N4->Bel N4 (D.ag es)->(es.length=es.length/\c=c)/\∀ a N5,N4<=N5->Fresh N N5 a [D.ag es]->(1=([D.ag [D.lit (.int .i64 n),D.lit (.string s),D.lit (.string s_1),D.lit (.int .i64 n_1),x,x_1,x_2,x_3,D.sl a 9 es c]]).length/\1=1) /\
    ∀ a_1 N6,N5<=N6->Fresh N N6 a_1 [D.ag [D.ag [D.lit (.int .i64 n),D.lit (.string s),D.lit (.string s_1),D.lit (.int .i64 n_1),x,x_1,x_2,x_3,D.sl a 9 es c]]]->∀ N7,N6<=N7->ACalls prog 120 [.ag 9] [.int .i64 10,.sv a_1 9 [D.ag [D.lit (.int .i64 n),D.lit (.string s),D.lit (.string s_1),D.lit (.int .i64 n_1),x,x_1,x_2,x_3,D.sl a 9 es c]] 1] N7
      (fun x_4 N8=>N7<=N8->Bel N8 x_4->∀ N9,N8<=N9->Q x_4 true N9)):=fun hk N2 hN2 N3 hN3=>by
  rw [if_pos hk] at hQ
  refine zOV _ _ he0 hG N3 _ ?_
  intro x4 x5 x6 x7 es' c' N4 hN4 hh' hes' ho' _ _
  have hl':=hes'.len
  have hgl:=hG.2.2.1
  refine ⟨⟨rfl,rfl⟩,fun a1 N5 hN5 _=>⟨⟨rfl,rfl⟩,fun a2 N6 hN6 _ N7 hN7=>zEt N7 10 a2 _ 1 _ fun _ N8 hN8 _ _ N9 hN9=>hQ _ _ (by omega) ?_⟩⟩
  exact Tm.is_mk.2 ⟨_,_,_,_,_,_,_,rfl,⟨by decide,by decide,xE _,xE _⟩,by simp,_,[],rfl,Tm.is_mk.2 ⟨_,_,_,_,_,_,_,rfl,hh',by omega,hes'⟩,rfl⟩
 refine qy N _ Q fun _=>⟨_,rfl,Br.bne (fun h2=>⟨_,rfl,Br.bne (fun h3 N1 hN1=>?_) fun h3 N2 hN2=>hI N2 _ fun N3 hN3 _=>Br.not (fun h=>absurd h (by decide)) fun _=>fin (.inr h3) N3 (by omega)⟩) fun h2 N2 hN2=>hI N2 _ fun N3 hN3 _=>Br.not (fun h=>absurd h (by decide)) fun _=>fin (.inl h2) N3 (by omega)⟩
 rw [if_neg (fun h=>h.elim h2 h3)] at hQ
 exact hQ _ _ hN1 rL
end Go.Proofs.YtkdjhkfiolhkiaaGreat
