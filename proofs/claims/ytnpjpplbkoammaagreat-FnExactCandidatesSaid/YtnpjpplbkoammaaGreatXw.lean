/- Equal terms. -/
import Derived.Test.YtnpjpplbkoammaaGreatWn
import Derived.Test.YtnpjpplbkoammaaGreatKc
import Derived.Test.YtnpjpplbkoammaaGreatXy
import Derived.Test.YtnpjpplbkoammaaGreatXf
import Derived.Test.YtnpjpplbkoammaaGreatKu
import Derived.Test.YtnpjpplbkoammaaGreatXa
set_option linter.unusedVariables false
set_option linter.unusedSimpArgs false
namespace Go.Proofs.YtnpjpplbkoammaaGreat
open Go Go.Proofs Go.Proofs.Tryz Go.IntWalk
mutual
def rG:Tm→Tm→Bool
 | .mk k nm ot n ty re l,.mk k' nm' ot' n' ty' re' l'=>decide (k=k')&&(decide (nm=nm')&&(decide (ot=ot')&&(decide (n=n')&&(uu ty ty'&&(uu re re'&&qF l l')))))
def qF:List Tm→List Tm→Bool
 | [],[]=>true
 | x::xs,y::ys=>rG x y&&qF xs ys
 | _,_=>false
end
theorem zEg:∀ {l m:List Tm},(∀ t∈l,∀ u,rG t u=true↔t=u)→(qF l m=true↔l=m)
 | [],[],_=>by simp [qF]
 | [],_::_,_=>by simp [qF]
 | _::_,[],_=>by simp [qF]
 | x::l,y::m,h=>by
   have h1:=h x (by simp) y
   have h2:=zEg (l:=l) (m:=m) fun t ht=>h t (by simp [ht])
   simp only [qF,Bool.and_eq_true,h1,h2,List.cons.injEq]
theorem zDH:∀ (t u:Tm),rG t u=true↔t=u:=by
 refine Tm.ind fun k nm ot n ty re l ih u=>?_
 cases u with
 | mk k' nm' ot' n' ty' re' l'=>
   have h1:=zEg (m:=l') ih
   simp only [rG,Bool.and_eq_true,decide_eq_true_eq,sW,h1,Tm.mk.injEq]
theorem zNY (t u:Tm):rG t u=rG u t:=by
 rw [Bool.eq_iff_iff,zDH,zDH];exact eq_comm
theorem zMV (t:Tm):rG t t=true:=(zDH t t).2 rfl
theorem zIu {l m:List Tm} (h:l.length≠m.length):qF l m=false:=by
 cases hc:qF l m with
 | false=>rfl
 | true=>exact absurd (congrArg List.length ((zEg fun t _=>zDH t).1 hc)) h
theorem zCu:∀ (t u:Tm) (d e:D),t.Is d→u.Is e→vE 23 [.dg 9 d,.dg 9 e] (rG t u):=by
 refine Tm.ind fun k nm ot m ty re l ih u d e hd he N Q hQ=>?_
 cases u with
 | mk k' nm' ot' m' ty' re' l'=>
 obtain ⟨t0,t1,r0,r1,a,es,c,rfl,hh,hlen,hes⟩:=Tm.is_mk.1 hd
 obtain ⟨u0,u1,v0,v1,a',es',c',rfl,hh',hlen',hes'⟩:=Tm.is_mk.1 he
 have hl:=hes.len
 have hl':=hes'.len
 simp only [rG] at hQ
 have key:l.length=l'.length→∀ (N':Nat),N≤N'→(∀ N'',N'≤N''→Q (qF l (l'.drop 0)) N'')→yf Q N (0:Nat) (.ag [.lit (.int .i64 k),.lit (.string nm),.lit (.string ot),.lit (.int .i64 m),t0,t1,r0,r1,.sl a 9 es c]) (.ag [.lit (.int .i64 k'),.lit (.string nm'),.lit (.string ot'),.lit (.int .i64 m'),u0,u1,v0,v1,.sl a' 9 es' c']) N':=by
  intro hll
  refine up hes hlen (fun i xs=>∀ (N':Nat),N≤N'→(∀ N'',N'≤N''→Q (qF xs (l'.drop i)) N'')→yf Q N i (.ag [.lit (.int .i64 k),.lit (.string nm),.lit (.string ot),.lit (.int .i64 m),t0,t1,r0,r1,.sl a 9 es c]) (.ag [.lit (.int .i64 k'),.lit (.string nm'),.lit (.string ot'),.lit (.int .i64 m'),u0,u1,v0,v1,.sl a' 9 es' c']) N') ?_ ?_
  ·intro i hlt hi N' hN' hQ'
   refine tJ _ _ _ _ _ _ ?_
   repeat' first|with_reducible intro _|simp only[hlt,Y1,Y2,Y3,Y4]|(with_reducible first|refine X1 ?_ ?_|refine X2 ?_ ?_|refine X3 ?_ ?_|refine X4 ?_ ?_|refine X5 ?_ ?_|refine X6 ?_ ?_|refine X7 ?_ ?_|refine X8 ?_ ?_|refine X9 ?_ ?_)|refine⟨_,_,_,rfl,?_⟩|refine⟨_,rfl,?_⟩|((with_reducible refine And.intro ?_ ?_);·first|omega|trivial|(show _=_;rfl)|((with_reducible refine And.intro ?_ ?_)<;>first|omega|trivial|(show _=_;rfl)))|fail
   refine Qb (hQ' _ (by assumption)) ?_
   rw [List.drop_eq_nil_of_le (by omega)]
   rfl
  ·intro i x xs hat _ ih2 N' hN' hQ'
   have hb:=hat.b
   have hi':i<l'.length:=by omega
   have hg:l'[i]?=some l'[i]:=List.getElem?_eq_getElem hi'
   have hd':l'.drop i=l'[i]::l'.drop (i+1):=List.drop_eq_getElem_cons hi'
   refine tJ _ _ _ _ _ _ ?_
   rw [hd'] at hQ'
   repeat' first|with_reducible intro _|simp only[hat.lt,hat.w,Int.toNat_natCast,Y1,Y2,Y3,Y4]|(with_reducible first|refine X1 ?_ ?_|refine X2 ?_ ?_|refine X3 ?_ ?_|refine X4 ?_ ?_|refine X5 ?_ ?_|refine X6 ?_ ?_|refine X7 ?_ ?_|refine X8 ?_ ?_|refine X9 ?_ ?_)|refine⟨_,_,_,rfl,?_⟩|refine⟨_,rfl,?_⟩|((with_reducible refine And.intro ?_ ?_);·first|omega|trivial|(show _=_;rfl)|((with_reducible refine And.intro ?_ ?_)<;>first|omega|trivial|(show _=_;rfl)))|refine (ih x hat.m _ _ _ hat.r (hes'.get hg)) _ _ ?_|fail
   ·exact Qb (hQ' _ (by omega)) (by simp [qF, *])
   ·exact ih2 _ (by omega) fun N'' h=>Qb (hQ' N'' (by omega)) (by simp [qF, *])
 refine zC7 N _ _ Q fun _ _=>?_
 repeat' first|with_reducible intro _|simp only[Y1,Y2,Y3,Y4]|(with_reducible first|refine X1 ?_ ?_|refine X2 ?_ ?_|refine X3 ?_ ?_|refine X4 ?_ ?_|refine X5 ?_ ?_|refine X6 ?_ ?_|refine X7 ?_ ?_|refine X8 ?_ ?_|refine X9 ?_ ?_)|refine⟨_,_,_,rfl,?_⟩|refine⟨_,rfl,?_⟩|((with_reducible refine And.intro ?_ ?_);·first|omega|trivial|(show _=_;rfl)|((with_reducible refine And.intro ?_ ?_)<;>first|omega|trivial|(show _=_;rfl)))|refine (xW _ _ _ _ hh.ty hh'.ty) _ _ ?_|refine (xW _ _ _ _ hh.re hh'.re) _ _ ?_|fail
 all_goals first | exact key (by omega) _ (by omega) fun N'' hN''=>Qb (hQ _ (by omega)) (by simp [*]) | exact Qb (hQ _ (by omega)) (by rw [zIu (l:=l) (m:=l') (by omega)];simp) | exact Qb (hQ _ (by omega)) (by simp [*])
theorem zC1 {l l':List Tm} {es es':List D} (hes:All2 Tm.Is l es) (hes':All2 Tm.Is l' es') (hlen:es.length≤4611686018427387904) (hlen':es'.length≤4611686018427387904) (a a':Option Addr) (c c':Nat)
  (ih:∀ t∈l,∀ (u:Tm) (d e:D),t.Is d→u.Is e→vE 34 [.dg 9 d,.dg 9 e] (rG t u)):vE 66 [.sv a 9 es c,.sv a' 9 es' c',.fn 34 []] (qF l l'):=fun N Q hQ=>by
 have hl:=hes.len
 have hl':=hes'.len
 refine u6 N _ _ _ _ _ _ Q fun _ _=>Br.bne (fun h N1 hN1=>Qb (hQ _ hN1) (zIu (by omega))) fun h=>?_
 refine up hes hlen (fun i xs=>∀ (N':Nat),N≤N'→(∀ N'',N'≤N''→Q (qF xs (l'.drop i)) N'')→yK Q N a' es' c' a es c es.length i N') ?_ ?_ N (Nat.le_refl _) hQ
 ·intro i hlt hi N' hN' hQ'
  refine wM _ _ _ _ _ _ _ _ _ _ _ ?_
  repeat' first|with_reducible intro _|simp only[hlt,Y1,Y2,Y3,Y4]|(with_reducible first|refine X1 ?_ ?_|refine X2 ?_ ?_|refine X3 ?_ ?_|refine X4 ?_ ?_|refine X5 ?_ ?_|refine X6 ?_ ?_|refine X7 ?_ ?_|refine X8 ?_ ?_|refine X9 ?_ ?_)|refine⟨_,_,_,rfl,?_⟩|refine⟨_,rfl,?_⟩|((with_reducible refine And.intro ?_ ?_);·first|omega|trivial|(show _=_;rfl)|((with_reducible refine And.intro ?_ ?_)<;>first|omega|trivial|(show _=_;rfl)))|fail
  refine Qb (hQ' _ (by assumption)) ?_
  rw [List.drop_eq_nil_of_le (by omega)]
  rfl
 ·intro i x xs hat _ ih2 N' hN' hQ'
  have hb:=hat.b
  have hi':i<l'.length:=by omega
  have hg:l'[i]?=some l'[i]:=List.getElem?_eq_getElem hi'
  have hd':l'.drop i=l'[i]::l'.drop (i+1):=List.drop_eq_getElem_cons hi'
  refine wM _ _ _ _ _ _ _ _ _ _ _ ?_
  rw [hd'] at hQ'
  repeat' first|with_reducible intro _|simp only[hat.lt,hat.w,Int.toNat_natCast,Y1,Y2,Y3,Y4]|(with_reducible first|refine X1 ?_ ?_|refine X2 ?_ ?_|refine X3 ?_ ?_|refine X4 ?_ ?_|refine X5 ?_ ?_|refine X6 ?_ ?_|refine X7 ?_ ?_|refine X8 ?_ ?_|refine X9 ?_ ?_)|refine⟨_,_,_,rfl,?_⟩|refine⟨_,rfl,?_⟩|((with_reducible refine And.intro ?_ ?_);·first|omega|trivial|(show _=_;rfl)|((with_reducible refine And.intro ?_ ?_)<;>first|omega|trivial|(show _=_;rfl)))|refine (ih x hat.m _ _ _ hat.r (hes'.get hg)) _ _ ?_|fail
  ·exact Qb (hQ' _ (by omega)) (by simp [qF, *])
  ·exact ih2 _ (by omega) fun N'' h=>Qb (hQ' N'' (by omega)) (by simp [qF, *])
theorem zCw:∀ (t u:Tm) (d e:D),t.Is d→u.Is e→vE 34 [.dg 9 d,.dg 9 e] (rG t u):=by
 refine Tm.ind fun k nm ot m ty re l ih u d e hd he N Q hQ=>?_
 cases u with
 | mk k' nm' ot' m' ty' re' l'=>
 obtain ⟨t0,t1,r0,r1,a,es,c,rfl,hh,hlen,hes⟩:=Tm.is_mk.1 hd
 obtain ⟨u0,u1,v0,v1,a',es',c',rfl,hh',hlen',hes'⟩:=Tm.is_mk.1 he
 simp only [rG] at hQ
 refine zCm N _ _ Q fun _ _=>?_
 repeat' first|with_reducible intro _|simp only[Y1,Y2,Y3,Y4]|(with_reducible first|refine X1 ?_ ?_|refine X2 ?_ ?_|refine X3 ?_ ?_|refine X4 ?_ ?_|refine X5 ?_ ?_|refine X6 ?_ ?_|refine X7 ?_ ?_|refine X8 ?_ ?_|refine X9 ?_ ?_)|refine⟨_,_,_,rfl,?_⟩|refine⟨_,rfl,?_⟩|((with_reducible refine And.intro ?_ ?_);·first|omega|trivial|(show _=_;rfl)|((with_reducible refine And.intro ?_ ?_)<;>first|omega|trivial|(show _=_;rfl)))|refine (zW _ _ _ _ hh.ty hh'.ty) _ _ ?_|refine (zW _ _ _ _ hh.re hh'.re) _ _ ?_|refine (zC1 hes hes' hlen hlen' _ _ _ _ ih) _ _ ?_|fail
 all_goals first | exact Qb (hQ _ (by omega)) (by simp [*]) | skip
/-- a part that could be computed once -/
def zMw (ps ar:List ByteArray):Tm→Bool
 | .mk k nm ot n ty re l=>(decide (k=4)||decide (k=5))&&(decide (3≤(Tm.mk k nm ot n ty re l).sz)&&(Tm.mk k nm ot n ty re l).fv.all fun s=>decide (s∈ps)&&!decide (s∈ar))
/-- the names bound around a part -/
def zJY (ar:List ByteArray) (k:Int) (nm:ByteArray) (i:Nat):List ByteArray:=if k=8∧i=1 then ar++[nm] else ar
mutual
def zCD (ps:List ByteArray):List ByteArray→Tm→List Tm
 | ar,.mk k nm ot n ty re l=>(if zMw ps ar (.mk k nm ot n ty re l)=true then [.mk k nm ot n ty re l] else [])++ra ps ar k nm 0 l
def ra (ps:List ByteArray):List ByteArray→Int→ByteArray→Nat→List Tm→List Tm
 | _,_,_,_,[]=>[]
 | ar,k,nm,i,x::xs=>zCD ps (zJY ar k nm i) x++ra ps ar k nm (i+1) xs
end
theorem zLf {ps ar br:List ByteArray} (h:∀ s,s∈ar↔s∈br) (t:Tm):zMw ps ar t=zMw ps br t:=by
 cases t with
 | mk k nm ot n ty re l=>
   simp only [zMw]
   have:(fun s=>decide (s∈ps)&&!decide (s∈ar))=fun s=>decide (s∈ps)&&!decide (s∈br):=funext fun s=>by simp [h s]
   rw [this]
theorem zO7 {ar br:List ByteArray} (h:∀ s,s∈ar↔s∈br) (k:Int) (nm:ByteArray) (i:Nat) (s:ByteArray):s∈zJY ar k nm i↔s∈zJY br k nm i:=by
 unfold zJY
 split
 ·simp [h s]
 ·exact h s
mutual
theorem zFw {ps:List ByteArray}:∀ (t:Tm) {ar br:List ByteArray},(∀ s,s∈ar↔s∈br)→zCD ps ar t=zCD ps br t
 | .mk k nm ot n ty re l,ar,br,h=>by simp only [zCD];rw [zLf h,zD1 l k nm 0 h]
theorem zD1 {ps:List ByteArray}:∀ (l:List Tm) (k:Int) (nm:ByteArray) (i:Nat) {ar br:List ByteArray},(∀ s,s∈ar↔s∈br)→ra ps ar k nm i l=ra ps br k nm i l
 | [],_,_,_,_,_,_=>by simp only [ra]
 | x::xs,k,nm,i,ar,br,h=>by simp only [ra];rw [zFw x (zO7 h k nm i),zD1 xs k nm (i+1) h]
end
mutual
theorem qo (ps:List ByteArray):∀ (t:Tm) (ar:List ByteArray),(zCD ps ar t).length≤t.sz
 | .mk k nm ot n ty re l,ar=>by
   have:=zID ps l k nm 0 ar
   simp only [zCD,List.length_append,Tm.sz]
   split<;>simp<;>omega
theorem zID (ps:List ByteArray):∀ (l:List Tm) (k:Int) (nm:ByteArray) (i:Nat) (ar:List ByteArray),(ra ps ar k nm i l).length≤rU l
 | [],_,_,_,_=>by simp [ra]
 | x::xs,k,nm,i,ar=>by
   have h1:=qo ps x (zJY ar k nm i)
   have h2:=zID ps xs k nm (i+1) ar
   simp only [ra,List.length_append,rU]
   omega
end
mutual
theorem zC9 (ps:List ByteArray):∀ (t:Tm) (ar:List ByteArray),∀ u∈zCD ps ar t,u.cnt≤t.cnt
 | .mk k nm ot n ty re l,ar=>by
   intro u hu
   have h:=zIf ps l k nm 0 ar
   simp only [zCD,List.mem_append] at hu
   rcases hu with hu | hu
   ·split at hu
    ·simp only [List.mem_singleton] at hu;subst hu;exact Nat.le_refl _
    ·simp at hu
   ·have:=h u hu
    simp only [Tm.cnt];omega
theorem zIf (ps:List ByteArray):∀ (l:List Tm) (k:Int) (nm:ByteArray) (i:Nat) (ar:List ByteArray),∀ u∈ra ps ar k nm i l,u.cnt≤yM l
 | [],_,_,_,_=>by simp [ra]
 | x::xs,k,nm,i,ar=>by
   intro u hu
   simp only [ra,List.mem_append] at hu
   simp only [yM]
   rcases hu with hu | hu
   ·have:=zC9 ps x _ u hu;omega
   ·have:=zIf ps xs _ _ _ _ u hu;omega
end
/-- terms, handed back -/
def zQT (own:Bool) (f:FuncId) (args:List PV) (l:List Tm):Prop:=∀ (N:Nat) (Q:QT [.sl 9]),(∀ a es c N',N≤N'→All2 Tm.Is l es→(own=true→Own N N' (.sl a 9 es c))→Q a es c N')→ACalls prog f [.sl 9] args N Q
theorem zLU (l:List ByteArray) (hl:l.length≤2199023255552) (a:Option Addr) (c:Nat):zPH 95 [.sv a 0 (zA l) c] l:=fun N Q hQ=>by
 have hlen:=zP l
 have hb0:zC [] (zA l) 16:=by unfold zC;simp only [List.nil_append];omega
 have main:(a=none→zA l=[])→ACalls prog 95 [.row 9 0] [.sv a 0 (zA l) c] N Q:=fun hn=>by
  refine p9 N a _ c Q fun _=>Br.of (fun hi N1 hN1=>?_) fun hi=>⟨⟨rfl,rfl⟩,hb0,fun c1=>⟨⟨rfl,rfl⟩,fun N2 hN2=>?_⟩⟩
  ·have:zA l=[]:=hn (by simpa using hi)
   have h0:=hQ 0 N1 hN1
   rwa [this] at h0
  ·exact hQ _ _ (by omega)
 cases a with
 | some ad=>exact main (by simp)
 | none=>
   by_cases hne:zA l=[]
   ·exact main fun _=>hne
   ·exact zPf (z:=0) (c:=c) (es:=zA l) (by kernel_rfl) (by simp) hne
theorem tX:∀ (t:Tm) (d:D),t.Is d→t.cnt≤1073741824→pe 25 [.dg 9 d] t.sz:=by
 refine Tm.ind fun k nm ot n0 ty re l ih d hd hc N Q hQ=>?_
 obtain ⟨t0,t1,r0,r1,a,es,c,rfl,hh,hlen,hes⟩:=Tm.is_mk.1 hd
 simp only [Tm.cnt] at hc
 have hsl:=rg l
 refine zHG N _ Q fun _=>?_
 refine up hes hlen (fun i xs=>∀ (m:Nat) (N':Nat),N≤N'→m+rU xs=1+rU l→vJ Q N m i (.ag [.lit (.int .i64 k),.lit (.string nm),.lit (.string ot),.lit (.int .i64 n0),t0,t1,r0,r1,.sl a 9 es c]) N') ?_ ?_ 1 N (Nat.le_refl _) rfl
 ·intro i hlt _ m N' hN' hm
  refine qJ _ _ _ _ _ _ ⟨_,_,_,rfl,?_⟩
  simp only [rU] at hm
  rw [hlt]
  exact fun N2 hN2=>Qi (hQ _ (by omega)) (by simp only [Tm.sz];omega)
 ·intro i x xs hat _ ih2 m N' hN' hm
  have hb:=hat.b
  have hxc:=yY hat.m
  simp only [rU] at hm
  refine qJ _ _ _ _ _ _ ⟨_,_,_,rfl,?_⟩
  rw [hat.lt,hat.w,Int.toNat_natCast]
  refine ⟨_,_,_,rfl,⟨by omega,by omega⟩,fun N1 hN1=>ih x hat.m _ hat.r (by omega) N1 _ fun N2 hN2 _=>?_⟩
  rw [i64_in _ (by omega)]
  have:=ih2 (m+x.sz) N2 (by omega) (by omega)
  simpa using this
theorem zJ5 (s:ByteArray) (ps ar:List ByteArray) (hp:ps.length≤4611686018427387904) (ha:ar.length≤4611686018427387904) (ad ad':Addr) (a a':Option Addr) (c c':Nat) :
  vE 92 [.str s,.pd ad 0 (.sl a 0 (zA ps) c),.pd ad' 0 (.sl a' 0 (zA ar) c')] (!(decide (s∈ps)&&!decide (s∈ar))):=fun N Q hQ=>by
 refine zAG N s ad _ ad' _ Q ⟨_,_,_,rfl,fun N1 hN1=>wQ ps hp a c s N1 _ fun N2 hN2 _=>?_⟩
 rw [zEH]
 refine Br.ndec (fun h N3 hN3=>Qb (hQ _ (by omega)) (by simp [h])) fun h=>⟨_,_,_,rfl,fun N4 hN4=>wQ ar ha a' c' s N4 _ fun N5 hN5 _ N6 hN6=>Qb (hQ _ (by omega)) ?_⟩
 rw [zEH]
 simp [h]
theorem zIg (l ps ar:List ByteArray) (hl:l.length≤2199023255552) (hp:ps.length≤4611686018427387904) (ha:ar.length≤4611686018427387904) (b:Option Addr) (cb:Nat) (ad ad':Addr) (a a':Option Addr) (c c':Nat) :
  pe 121 [.sv b 0 (zA l) cb,.fn 92 [.pd ad 0 (.sl a 0 (zA ps) c),.pd ad' 0 (.sl a' 0 (zA ar) c')]] (t8 (fun s=>!(decide (s∈ps)&&!decide (s∈ar))) l 0):=fun N Q hQ=>by
 have hlen:=zP l
 refine um N b _ cb ad _ ad' _ Q fun _=>?_
 refine up (xm l) (by omega) (fun i xs=>∀ (N':Nat),N≤N'→(∀ N'',N'≤N''→Q (t8 (fun s=>!(decide (s∈ps)&&!decide (s∈ar))) xs i) N'')→yA Q N b (zA l) cb ad (.sl a 0 (zA ps) c) ad' (.sl a' 0 (zA ar) c') ((zA l).length:Int) i N') ?_ ?_ N (Nat.le_refl _) hQ
 ·intro i hlt _ N' hN' hQ'
  refine wD _ _ _ _ _ _ _ _ _ _ _ _ ?_
  rw [hlt]
  exact fun N'' h=>hQ' _ (by omega)
 ·intro i x xs hat _ ih2 N' hN' hQ'
  have hb:=hat.b
  have hr:=hat.r
  simp only [t8] at hQ'
  refine wD _ _ _ _ _ _ _ _ _ _ _ _ ?_
  rw [hat.lt,hat.w,Int.toNat_natCast,hr]
  refine ⟨⟨by omega,by omega⟩,x,rfl,fun N1 hN1=>zJ5 x ps ar hp ha ad ad' a a' c c' N1 _ fun N2 hN2 _=>Br.of (fun h N3 hN3=>Qi (hQ' _ (by omega)) (by rw [if_pos h])) fun h=>ih2 _ (by omega) fun N'' h2=>Qi (hQ' _ (by omega)) (by rw [if_neg (by rw [h];simp)];simp)⟩
theorem zNA {t:Tm} {d:D} (hd:t.Is d) (hc:t.cnt≤1073741824) (ps ar:List ByteArray) (hp:ps.length≤4611686018427387904) (ha:ar.length≤4611686018427387904) (a a':Option Addr) (c c':Nat) :
  vE 62 [.sv a 0 (zA ps) c,.sv a' 0 (zA ar) c',.dg 9 d] (zMw ps ar t):=fun N Q hQ=>by
 have hvc:=t.vc_cnt
 have hfl:=t.fv_len
 cases t with
 | mk k nm ot n0 ty re l=>
 have hd0:=hd
 obtain ⟨t0,t1,r0,r1,a9,es,c9,rfl,hh,hlen,hes⟩:=Tm.is_mk.1 hd
 simp only [zMw] at hQ
 have rest:∀ (M:Nat),N≤M→(k=4∨k=5)→∀ N2,M≤N2→ACalls prog 38 [.int .i64] [.dg 9 (.ag [.lit (.int .i64 k),.lit (.string nm),.lit (.string ot),.lit (.int .i64 n0),t0,t1,r0,r1,.sl a9 9 es c9])] N2 (fun n_2 N3=>N2≤N3→Br (decide (n_2<3)) (∀ N4,N3≤N4→Q false N4) (∀ N5,N3≤N5→ACalls prog 91 [.row 9 0] [.dg 9 (.ag [.lit (.int .i64 k),.lit (.string nm),.lit (.string ot),.lit (.int .i64 n0),t0,t1,r0,r1,.sl a9 9 es c9])] N5 (fun es c_1 N6=>N5≤N6→Bel N6 (D.ag es)
   → (es.length=es.length∧c_1=c_1)∧∀ b,ApA b es→∀ ad,ApA (Option.some ad) [D.sl a 0 (zA ps) c]→∀ ad_1,ApA (Option.some ad_1) [D.sl a' 0 (zA ar) c']→∀ N7,N6
   ≤ N7→tW N7 [b,Option.some ad,Option.some ad_1]→ACalls prog 90 [.bool] [.sv b 0 es c_1,.fn 92 [.pd ad 0 (D.sl a 0 (zA ps) c),.pd ad_1 0 (D.sl a' 0 (zA ar) c')]]
   N7 (fun b N8=>N7≤N8→∀ N9,N8≤N9→Q (!b) N9)))):=by
  intro M hM hk N2 hN2
  have hkk:(decide (k=4)||decide (k=5))=true:=by simpa using hk
  refine uB _ _ hd0 hc N2 _ fun N3 hN3 _=>Br.dec (fun h N4 hN4=>Qb (hQ _ (by omega)) ?_) fun h N5 hN5=>?_
  ·rw [hkk]
   have:¬3≤(Tm.mk k nm ot n0 ty re l).sz:=by omega
   simp [this]
  ·refine zEQ _ _ hd0 (by omega) N5 _ fun c1 N6 hN6 _ _=>⟨⟨rfl,rfl⟩,fun b _ ad _ ad1 _ N7 hN7 _=>?_⟩
   refine vv N7 b _ c1 ad _ ad1 _ _ fun _ N8 hN8=>zIg _ ps ar (by omega) hp ha b c1 ad ad1 a a' c c' N8 _ fun N9 hN9 _ N10 hN10 _ N11 hN11=>Qb (hQ _ (by omega)) ?_
   rw [hkk,xq _ _ 0 (by omega)]
   have h3:3≤(Tm.mk k nm ot n0 ty re l).sz:=by omega
   simp only [h3,decide_true,Bool.true_and,List.not_any_eq_all_not,Bool.not_not]
 refine zFO N a _ c a' _ c' _ Q fun _ _ _=>⟨k,rfl,Br.bne (fun h4=>⟨k,rfl,Br.bne (fun h5 N1 hN1=>Qb (hQ _ hN1) (by simp [h4,h5])) fun h5=>rest N (Nat.le_refl _) (.inr h5)⟩) fun h4=>rest N (Nat.le_refl _) (.inl h4)⟩
theorem zQE {k:Int} {nm:ByteArray} {c2 n0 t0 t1 r0 r1 x:D} (ar:List ByteArray) (ha:ar.length≤2199023255552) (i:Nat) (a:Option Addr) (c:Nat) (N:Nat) (Q:QT [.sl 0]) (hQ:∀ a' c' N',N≤N'→Q a' (zA (zJY ar k nm i)) c' N') :
  ACalls prog 64 [.sl 0] [.sv a 0 (zA ar) c,.dg 9 (.ag [.lit (.int .i64 k),.lit (.string nm),c2,n0,t0,t1,r0,r1,x]),.int .i64 i] N Q:=by
 have hlen:=zP ar
 refine zIF N a _ c _ i Q fun _ _=>⟨k,rfl,Br.beq (fun h8=>Br.beq (fun h1=>⟨nm,rfl,fun N1 hN1=>?_⟩) fun h1 N5 hN5=>?_) fun h8 N6 hN6=>?_⟩
 ·refine zLU ar ha a c N1 _ fun c1 N2 hN2 _ _=>⟨⟨rfl,rfl⟩,by unfold zC;rw [List.length_append,hlen];simp only [List.length_cons,List.length_nil];omega,fun c2=>⟨⟨rfl,rfl⟩,⟨rfl,rfl⟩,fun a2 N3 hN3 _ N4 hN4=>?_⟩⟩
  have e:zJY ar k nm i=ar++[nm]:=by unfold zJY;rw [if_pos ⟨h8,by omega⟩]
  have:=hQ a2 c2 N4 (by omega)
  rw [e,←xN] at this
  exact this
 ·have e:zJY ar k nm i=ar:=by unfold zJY;rw [if_neg (fun h=>h1 (by omega))]
  have:=hQ a c N5 (by omega)
  rwa [e] at this
 ·have e:zJY ar k nm i=ar:=by unfold zJY;rw [if_neg (fun h=>h8 h.1)]
  have:=hQ a c N6 (by omega)
  rwa [e] at this
theorem zIU {N N':Nat} {a:Option Addr} {z c:Nat} {es:List D} (h:Own N N' (.sl a z es c)):OwnL N N' es:=by
 have hs:∀ x∈zB es,x∈(D.sl a z es c).foot:=zDF
 refine ⟨?_,h.fl.2,fun b hb=>h.lo b (hs b hb),fun b hb=>h.hi b (hs b hb)⟩
 have:=h.nd
 cases a with
 | none=>simpa only [D.foot] using this
 | some ad=>
   simp only [D.foot] at this
   split at this
   ·rename_i he
    have:es=[]:=by simpa using he
    subst this
    exact List.nodup_nil
   ·exact (List.nodup_cons.1 this).2
theorem zLl:∀ (t:Tm) (d:D),t.Is d→t.cnt≤1073741824→∀ (ps ar:List ByteArray),ps.length≤2199023255552→ar.length+t.cnt≤2199023255552→∀ (a a':Option Addr) (c c':Nat),zQT true 31 [.sv a 0 (zA ps) c,.sv a' 0 (zA ar) c',.dg 9 d] (zCD ps ar t):=by
 refine Tm.ind fun k nm ot n0 ty re l ih d hd hc ps ar hp ha a a' c c' N Q hQ=>?_
 have hd0:=hd
 have hc0:=hc
 obtain ⟨t0,t1,r0,r1,a9,es,c9,rfl,hh,hlen,hes⟩:=Tm.is_mk.1 hd
 have hG:=Tm.G_cnt _ hc
 have hl:=hes.len
 have hpl:=qo ps (Tm.mk k nm ot n0 ty re l) ar
 have hszc:=sz_cnt (Tm.mk k nm ot n0 ty re l)
 simp only [Tm.cnt] at hc ha
 have key:=up hes hlen (fun i xs=>∀ (done:List D) (pre:List Tm) (q N':Nat),N≤N'→All2 Tm.Is pre done→OwnL N N' done→pre++ra ps ar k nm i xs=zCD ps ar (Tm.mk k nm ot n0 ty re l) →
  y6 Q N a (zA ps) c a' (zA ar) c' done.length q a9 es c9 (es.length:Int) i (.ag [.lit (.int .i64 k),.lit (.string nm),.lit (.string ot),.lit (.int .i64 n0),t0,t1,r0,r1,.sl a9 9 es c9]) done q N') ?_ ?_
 ·refine zEi N a _ c a' _ c' _ Q fun _ _ _ N1 hN1=>zNA hd0 hc0 ps ar (by omega) (by omega) a a' c c' N1 _ fun N2 hN2 _=>Br.of (fun hpl1 N3 hN3=>?_) fun hpl1=>⟨_,_,_,rfl,?_⟩
  ·refine zRJ _ _ hd0 hG N3 _ ?_
   intro x4 x5 x6 x7 es' c1 N4 hN4 hh' hes' ho _ _
   refine ⟨⟨rfl,rfl⟩,fun a1 N5 hN5 hf=>⟨⟨rfl,rfl⟩,by unfold zC;simp,fun c2=>⟨_,_,_,rfl,?_⟩⟩⟩
   have hel:=hes'.len
   have hIs:(Tm.mk k nm ot n0 ty re l).Is (.ag [.lit (.int .i64 k),.lit (.string nm),.lit (.string ot),.lit (.int .i64 n0),x4,x5,x6,x7,.sl a1 9 es' c1]):=Tm.is_mk.2 ⟨_,_,_,_,_,_,_,rfl,hh',by omega,hes'⟩
   have hO:OwnL N N5 [.ag [.lit (.int .i64 k),.lit (.string nm),.lit (.string ot),.lit (.int .i64 n0),x4,x5,x6,x7,.sl a1 9 es' c1]]:=by
    have h0:OwnL N N3 ([]++[]):=sX
    exact zM3 (hd:=[]) (r:=[]) (xs:=[x4,x5,x6,x7]) h0 ho hf (by omega) hN4 hN5 (by simp [zB]) (qQ hf fun b hb=>by
     simp only [List.cons_append,List.nil_append,zB,List.mem_append] at hb
     simp only [List.mem_cons,List.not_mem_nil,or_false,exists_eq_or_imp,exists_eq_left,D.foot]
     rcases hb with h | h | h | h | h
     ·exact .inr (.inl h)
     ·exact .inr (.inr (.inl h))
     ·exact .inr (.inr (.inr (.inl h)))
     ·exact .inr (.inr (.inr (.inr (.inl h))))
     ·exact .inl h)
   exact key [_] [Tm.mk k nm ot n0 ty re l] c2 N5 (by omega) ⟨_,_,rfl,hIs,rfl⟩ hO (by simp only [zCD];rw [if_pos hpl1])
  ·exact key [] [] 0 N2 (by omega) rfl sX (by simp only [zCD];rw [if_neg (by rw [hpl1];simp)])
 ·intro i hlt hi done pre q N' hN' hdn ho he
  refine t4 _ _ _ _ _ _ _ _ _ _ _ _ _ _ _ _ _ _ _ ?_
  rw [hlt]
  simp only [ra,List.append_nil] at he
  refine ⟨⟨rfl,rfl⟩,⟨rfl,rfl⟩,⟨rfl,rfl⟩,fun a2 N5 hN5 hf N6 hN6=>hQ a2 done q N6 (by omega) (he ▸ hdn) fun _=>(rP ho hf hN5).mono (Nat.le_refl _) hN6⟩
 ·intro i x xs hat _ ih2 done pre q N' hN' hdn ho he
  have hb:=hat.b
  have hxc:=yY hat.m
  have hil:(zJY ar k nm i).length≤ar.length+1:=by unfold zJY;split<;>simp
  refine t4 _ _ _ _ _ _ _ _ _ _ _ _ _ _ _ _ _ _ _ ?_
  rw [hat.lt]
  refine ⟨⟨by omega,by omega⟩,fun N1 hN1=>zQE ar (by omega) i a' c' N1 _ fun a2 c2 N2 hN2 _ _ N3 hN3=>?_⟩
  rw [Int.toNat_natCast,hat.w]
  refine ih x hat.m _ hat.r (by omega) ps _ hp (by omega) a a2 c c2 N3 _ fun a3 es3 c3 N4 hN4 hes3 ho3 _ _=>?_
  have hel3:=hes3.len
  have hdl:=hdn.len
  simp only [ra] at he
  have hlens:=congrArg List.length he
  simp only [List.length_append] at hlens
  refine ⟨⟨rfl,rfl⟩,by unfold zC;rw [List.length_append];omega,fun c4=>?_⟩
  exact ih2 _ (pre++zCD ps (zJY ar k nm i) x) c4 N4 (by omega) (hdn.app hes3) (yB (ho.mono (Nat.le_refl _) (by omega)) (zIU (ho3 rfl)) (by omega) hN4) (by rw [List.append_assoc];exact he)
theorem zRa {n:Int}:decide (n<0)=!decide (n≥0):=by
 by_cases h:n<0
 ·have:¬n≥0:=by omega
  simp [h,this]
 ·have:n≥0:=by omega
  simp [h,this]
theorem zLD (s:ByteArray) (l:List ByteArray):(l.any fun x=>decide (x=s))=decide (s∈l):=by
 rw [←zEH];congr 1;funext x;exact decide_eq_decide.2 eq_comm
theorem zMT {t:Tm} {d:D} (hd:t.Is d) (hc:t.cnt≤1073741824) (ps ar:List ByteArray) (hp:ps.length≤4611686018427387904) (ha:ar.length≤4611686018427387904) (a a':Option Addr) (c c':Nat) :
  vE 51 [.dg 9 d,.sv a 0 (zA ps) c,.sv a' 0 (zA ar) c'] (t.fv.all fun s=>decide (s∈ps)&&!decide (s∈ar)):=fun N Q hQ=>by
 have hvc:=t.vc_cnt
 have hfl:=t.fv_len
 refine zFQ N _ a _ c a' _ c' Q fun _ _ _ N1 hN1=>zEP _ _ hd (by omega) N1 _ fun a1 c1 N2 hN2 _ _ _=>?_
 have hlen:=zP t.fv
 refine up (xm t.fv) (by omega) (fun i xs=>∀ (N':Nat),N≤N'→(∀ N'',N'≤N''→Q (xs.all fun s=>decide (s∈ps)&&!decide (s∈ar)) N'')→wV Q N a (zA ps) c a' (zA ar) c' a1 (zA t.fv) c1 i N') ?_ ?_ N2 (by omega) (fun N'' h=>hQ N'' (by omega))
 ·intro i hlt _ N' hN' hQ'
  refine rC _ _ _ _ _ _ _ _ _ _ _ _ _ ?_
  rw [hlt]
  exact fun N'' h=>hQ' _ (by omega)
 ·intro i x xs hat _ ih2 N' hN' hQ'
  have hb:=hat.b
  have hr:=hat.r
  simp only [List.all_cons] at hQ'
  refine rC _ _ _ _ _ _ _ _ _ _ _ _ _ ?_
  rw [hat.lt,hat.w,Int.toNat_natCast,hr]
  refine ⟨⟨by omega,by omega⟩,x,rfl,fun N1 hN1=>wP ar ha a' c' x N1 _ fun N3 hN3 _=>?_⟩
  rw [xq _ _ 0 (by omega),zLD]
  refine Br.dec (fun h N4 hN4=>Qb (hQ' _ (by omega)) (by simp [h])) fun h=>⟨⟨by omega,by omega⟩,x,rfl,fun N4 hN4=>wP ps hp a c x N4 _ fun N5 hN5 _=>?_⟩
  rw [zRa,xq _ _ 0 (by omega),zLD]
  refine Br.ndec (fun h2 N6 hN6=>Qb (hQ' _ (by omega)) (by simp [h2])) fun h2=>ih2 _ (by omega) fun N'' h3=>Qb (hQ' N'' (by omega)) (by simp [h,h2])
def zCt (ar:List ByteArray) (k:Int) (nm:ByteArray) (i:Nat):List ByteArray:=if k=8∧i=1 then qL ar [nm] else ar
theorem zNU {ar:List ByteArray} {k:Int} {nm:ByteArray} {i:Nat} (s:ByteArray):s∈zCt ar k nm i↔s∈zJY ar k nm i:=by
 unfold zCt zJY
 split
 ·rw [zMd,List.mem_append]
 ·rfl
theorem zLw {k:Int} {nm:ByteArray} {c2 n0 t0 t1 r0 r1 x:D} (ar:List ByteArray) (ha:ar.length≤2199023255552) (i:Nat) (a:Option Addr) (c:Nat) (N:Nat) (Q:QT [.sl 0]) (hQ:∀ a' c' N',N≤N'→Q a' (zA (zCt ar k nm i)) c' N') :
  ACalls prog 52 [.sl 0] [.dg 9 (.ag [.lit (.int .i64 k),.lit (.string nm),c2,n0,t0,t1,r0,r1,x]),.int .i64 i,.sv a 0 (zA ar) c] N Q:=by
 refine zDV N _ i a _ c Q fun _ _=>⟨k,rfl,Br.beq (fun h8=>Br.beq (fun h1=>⟨nm,rfl,⟨rfl,rfl⟩,fun b _ _ N1 hN1 _=>?_⟩) fun h1 N5 hN5=>?_) fun h8 N6 hN6=>?_⟩
 ·refine sM ar [nm] ha (by simp) a b c 1 N1 _ fun c3 N2 hN2 _=>⟨zAM _,fun _=>⟨⟨rfl,rfl⟩,⟨rfl,rfl⟩,fun a2 N3 hN3 _ N4 hN4=>?_⟩⟩
  have e:zCt ar k nm i=qL ar [nm]:=by unfold zCt;rw [if_pos ⟨h8,by omega⟩]
  have:=hQ a2 c3 N4 (by omega)
  rwa [e] at this
 ·have e:zCt ar k nm i=ar:=by unfold zCt;rw [if_neg (fun h=>h1 (by omega))]
  have:=hQ a c N5 (by omega)
  rwa [e] at this
 ·have e:zCt ar k nm i=ar:=by unfold zCt;rw [if_neg (fun h=>h8 h.1)]
  have:=hQ a c N6 (by omega)
  rwa [e] at this
/-- terms, handed back: parts of what is given, in a row made anew -/
def zRr (f:FuncId) (args:List PV) (l:List Tm) (d:D):Prop:=∀ (N:Nat) (Q:QT [.sl 9]),(∀ a es c N',N≤N'→All2 Tm.Is l es→(∀ x∈(D.sl a 9 es c).foot,x∈d.foot∨N≤x)→Q a es c N')→ACalls prog f [.sl 9] args N Q
theorem zME:∀ (t:Tm) (d:D),t.Is d→t.cnt≤1073741824→∀ (ps ar:List ByteArray),ps.length≤2199023255552→ar.length+t.cnt≤2199023255552→∀ (a a':Option Addr) (c c':Nat),zRr 21 [.dg 9 d,.sv a 0 (zA ps) c,.sv a' 0 (zA ar) c'] (zCD ps ar t) d:=by
 refine Tm.ind fun k nm ot n0 ty re l ih d hd hc ps ar hp ha a a' c c' N Q hQ=>?_
 have hd0:=hd
 have hc0:=hc
 obtain ⟨t0,t1,r0,r1,a9,es,c9,rfl,hh,hlen,hes⟩:=Tm.is_mk.1 hd
 have hl:=hes.len
 have hpl:=qo ps (Tm.mk k nm ot n0 ty re l) ar
 have hszc:=sz_cnt (Tm.mk k nm ot n0 ty re l)
 simp only [Tm.cnt] at hc ha
 have key:=up hes hlen (fun i xs=>∀ (done:List D) (pre:List Tm) (q N':Nat),N≤N'→All2 Tm.Is pre done→(∀ x∈zB done,x∈(D.ag [.lit (.int .i64 k),.lit (.string nm),.lit (.string ot),.lit (.int .i64 n0),t0,t1,r0,r1,.sl a9 9 es c9]).foot∨N≤x)→pre++ra ps ar k nm i xs=zCD ps ar (Tm.mk k nm ot n0 ty re l) →
  zI Q N a (zA ps) c a' (zA ar) c' done.length q i (.ag [.lit (.int .i64 k),.lit (.string nm),.lit (.string ot),.lit (.int .i64 n0),t0,t1,r0,r1,.sl a9 9 es c9]) done q N') ?_ ?_
 ·have none_:∀ N',N≤N'→zMw ps ar (Tm.mk k nm ot n0 ty re l)=false→zI Q N a (zA ps) c a' (zA ar) c' 0 0 0 (.ag [.lit (.int .i64 k),.lit (.string nm),.lit (.string ot),.lit (.int .i64 n0),t0,t1,r0,r1,.sl a9 9 es c9]) [] 0 N':=fun N' hN' h=>key [] [] 0 N' hN' rfl (by simp [zB]) (by simp only [zCD];rw [if_neg (by rw [h];simp)])
  have rest:∀ (M:Nat),N≤M→(k=4∨k=5)→∀ N1,M≤N1→ACalls prog 25 [.int .i64] [.dg 9 (.ag [.lit (.int .i64 k),.lit (.string nm),.lit (.string ot),.lit (.int .i64 n0),t0,t1,r0,r1,.sl a9 9 es c9])] N1 (fun n_1 N2=>N1≤N2→Br (decide (n_1≥3)) (∀ N3,N2≤N3→ACalls prog 51 [.bool] [.dg 9 (.ag [.lit (.int .i64 k),.lit (.string nm),.lit (.string ot),.lit (.int .i64 n0),t0,t1,r0,r1,.sl a9 9 es c9]),.sv a 0 (zA ps) c,.sv a' 0 (zA ar) c'] N3
    (fun b N4=>N3≤N4→Br b ((0=0∧0=0)∧zC [] [.ag [.lit (.int .i64 k),.lit (.string nm),.lit (.string ot),.lit (.int .i64 n0),t0,t1,r0,r1,.sl a9 9 es c9]] 136∧∀ (q:Nat),zI Q N a (zA ps) c a' (zA ar) c' ([]++[D.ag [.lit (.int .i64 k),.lit (.string nm),.lit (.string ot),.lit (.int .i64 n0),t0,t1,r0,r1,.sl a9 9 es c9]]).length q 0 (.ag [.lit (.int .i64 k),.lit (.string nm),.lit (.string ot),.lit (.int .i64 n0),t0,t1,r0,r1,.sl a9 9 es c9]) ([]++[D.ag [.lit (.int .i64 k),.lit (.string nm),.lit (.string ot),.lit (.int .i64 n0),t0,t1,r0,r1,.sl a9 9 es c9]])
     q N4) (zI Q N a (zA ps) c a' (zA ar) c' 0 0 0 (.ag [.lit (.int .i64 k),.lit (.string nm),.lit (.string ot),.lit (.int .i64 n0),t0,t1,r0,r1,.sl a9 9 es c9]) [] 0 N4))) (zI Q N a (zA ps) c a' (zA ar) c' 0 0 0 (.ag [.lit (.int .i64 k),.lit (.string nm),.lit (.string ot),.lit (.int .i64 n0),t0,t1,r0,r1,.sl a9 9 es c9]) [] 0 N2)):=by
   intro M hM hk N1 hN1
   have hkk:(decide (k=4)||decide (k=5))=true:=by simpa using hk
   refine tX _ _ hd0 hc0 N1 _ fun N2 hN2 _=>Br.dec (fun h N3 hN3=>?_) fun h=>none_ N2 (by omega) ?_
   ·have h3:3≤(Tm.mk k nm ot n0 ty re l).sz:=by omega
    refine zMT hd0 hc0 ps ar (by omega) (by omega) a a' c c' N3 _ fun N4 hN4 _=>Br.of (fun hf=>⟨⟨rfl,rfl⟩,by unfold zC;simp,fun q=>?_⟩) fun hf=>none_ N4 (by omega) ?_
    ·exact key [_] [Tm.mk k nm ot n0 ty re l] q N4 (by omega) ⟨_,_,rfl,hd0,rfl⟩ (fun x hx=>.inl (by simpa [zB] using hx)) (by simp only [zCD];rw [if_pos (by simp only [zMw,hkk,h3,hf,decide_true,Bool.true_and])])
    ·simp only [zMw,hkk,h3,hf,decide_true,Bool.true_and]
   ·have h3:¬3≤(Tm.mk k nm ot n0 ty re l).sz:=by omega
    simp [zMw,h3]
  refine zEW N _ a _ c a' _ c' Q fun _ _ _=>⟨k,rfl,Br.beq (fun h4=>rest N (Nat.le_refl _) (.inl h4)) fun h4=>⟨k,rfl,Br.beq (fun h5=>rest N (Nat.le_refl _) (.inr h5)) fun h5=>none_ N (Nat.le_refl _) (by simp [zMw,h4,h5])⟩⟩
 ·intro i hlt hi done pre q N' hN' hdn hft he
  refine sF _ _ _ _ _ _ _ _ _ _ _ _ _ _ _ ⟨_,_,_,rfl,?_⟩
  rw [hlt]
  simp only [ra,List.append_nil] at he
  refine ⟨⟨rfl,rfl⟩,⟨rfl,rfl⟩,⟨rfl,rfl⟩,fun a2 N5 hN5 hf N6 hN6=>hQ a2 done q N6 (by omega) (he ▸ hdn) fun x hx=>by
   rcases s4 x hx with hx | ⟨ad,h1,rfl⟩
   ·exact hft x hx
   ·exact .inr (hf.lo ad h1)⟩
 ·intro i x xs hat _ ih2 done pre q N' hN' hdn hft he
  have hb:=hat.b
  have hxc:=yY hat.m
  have hil:(zCt ar k nm i).length≤ar.length+1:=by
   unfold zCt
   split
   ·have:=zDY ar [nm];simpa using this
   ·omega
  refine sF _ _ _ _ _ _ _ _ _ _ _ _ _ _ _ ⟨_,_,_,rfl,?_⟩
  rw [hat.lt]
  refine ⟨_,_,_,rfl,⟨by omega,by omega⟩,fun N1 hN1=>zLw ar (by omega) i a' c' N1 _ fun a2 c2 N2 hN2 _ _ N3 hN3=>?_⟩
  rw [Int.toNat_natCast,hat.w]
  refine ih x hat.m _ hat.r (by omega) ps _ hp (by omega) a a2 c c2 N3 _ fun a3 es3 c3 N4 hN4 hes3 hf3 _ _=>?_
  have hel3:=hes3.len
  have hdl:=hdn.len
  simp only [ra] at he
  rw [←zFw x (fun s=>zNU s)] at he
  have hlens:=congrArg List.length he
  simp only [List.length_append] at hlens
  refine ⟨⟨rfl,rfl⟩,by unfold zC;rw [List.length_append];omega,fun c4=>?_⟩
  exact ih2 _ (pre++zCD ps (zCt ar k nm i) x) c4 N4 (by omega) (hdn.app hes3) (fun x hx=>by
   rw [zF] at hx
   rcases List.mem_append.1 hx with hx | hx
   ·exact hft x hx
   ·rcases hf3 x (zDF x hx) with h | h
    ·refine .inl ?_
     have hmem:es.getD i default∈es:=by
      have hlt2:i<es.length:=by omega
      rw [List.getD_eq_getElem?_getD,List.getElem?_eq_getElem hlt2]
      exact List.getElem_mem hlt2
     have h5:x∈zB es:=zH.2 ⟨_,hmem,h⟩
     have h6:x∈(D.sl a9 9 es c9).foot:=zDF x h5
     exact zH.2 ⟨_,by simp,h6⟩
    ·exact .inr (by omega)) (by rw [List.append_assoc];exact he)
theorem zLk {g:List Pm} {es:List D} (h:Pms g es) (hg:g.length≤1073741824) (a:Option Addr) (c:Nat) (N:Nat) (Q:QT [.sl 0])
  (hQ:∀ a' c' N',N≤N'→Q a' (zA (yp g)) c' N'):ACalls prog 22 [.sl 0] [.sv a 4 es c] N Q:=by
 have hl:=h.all.len
 refine zDx N a es c Q fun _=>?_
 have key:=up h.all h.len (fun i xs=>∀ (q:Nat) (N':Nat),N≤N'→wB Q N a es c (zA ((yp g).take i)).length q i (zA ((yp g).take i)) q N') ?_ ?_
 ·exact key 0 N (Nat.le_refl _)
 ·intro i hlt hi q N' hN'
  refine sK _ _ _ _ _ _ _ _ _ _ _ ?_
  rw [List.take_of_length_le (by rw [qI];omega)]
  repeat' first|with_reducible intro _|simp only[hlt,Y1,Y2,Y3,Y4]|(with_reducible first|refine X1 ?_ ?_|refine X2 ?_ ?_|refine X3 ?_ ?_|refine X4 ?_ ?_|refine X5 ?_ ?_|refine X6 ?_ ?_|refine X7 ?_ ?_|refine X8 ?_ ?_|refine X9 ?_ ?_)|refine⟨_,_,_,rfl,?_⟩|refine⟨_,rfl,?_⟩|((with_reducible refine And.intro ?_ ?_);·first|omega|trivial|(show _=_;rfl)|((with_reducible refine And.intro ?_ ?_)<;>first|omega|trivial|(show _=_;rfl)))|fail
  exact hQ _ _ _ (by omega)
 ·intro i x xs hat _ ih2 q N' hN'
  have hb:=hat.b
  have hm:=hat.m
  obtain ⟨t0,t1,hd',hnm,hty⟩:=hat.r
  refine sK _ _ _ _ _ _ _ _ _ _ _ ?_
  have hat2:(yp g)[i]?=some x.nm:=by rw [yp,List.getElem?_map,hat.g];rfl
  rw [hat.lt,hat.w,Int.toNat_natCast,hd']
  refine ⟨⟨by omega,by omega⟩,_,rfl,⟨rfl,rfl⟩,by unfold zC;rw [List.length_append,zP,List.length_take];simp only [List.length_cons,List.length_nil];omega,fun c1=>?_⟩
  rw [xN,←wi hat2]
  exact ih2 _ _ hN'
end Go.Proofs.YtnpjpplbkoammaaGreat
