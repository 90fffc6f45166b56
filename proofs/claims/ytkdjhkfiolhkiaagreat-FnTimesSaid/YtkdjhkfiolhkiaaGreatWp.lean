/- Which parts of a body depend on late parameters: the reference. -/
import Derived.Test.YtkdjhkfiolhkiaaGreatWm
import Derived.Test.YtkdjhkfiolhkiaaGreatWn
import Derived.Test.YtkdjhkfiolhkiaaGreatWr
import Derived.Test.YtkdjhkfiolhkiaaGreatWl
set_option linter.unusedVariables false
set_option linter.unusedSimpArgs false
namespace Go.Proofs.YtkdjhkfiolhkiaaGreat
open Go Go.Proofs Go.Proofs.Tryz Go.IntWalk
/-- a name and whether it comes late -/
abbrev Bd:=ByteArray × Bool
def bdD (b:Bd):D:=.ag [.lit (.string b.1),.lit (.bool b.2)]
def sH (nm:ByteArray) (v:List Bd):Option Bool:=(v.reverse.find? fun p=>decide (p.1=nm)).map (·.2)
theorem rO {nm:ByteArray} {v:List Bd} {b:Bd}:sH nm (v++[b])=if b.1=nm then some b.2 else sH nm v:=by
 unfold sH
 rw [md]
 by_cases h:b.1=nm<;>simp [h]
mutual
def Tm.late:Tm->List Bd->Bool
 | .mk k nm _ _ _ _ l,v=>if k=1 then (sH nm v).getD (yD l v) else if k=8 then zBW l nm v else yD l v
def yD:List Tm->List Bd->Bool
 | [],_=>false
 | t::ts,v=>t.late v||yD ts v
def zBW:List Tm->ByteArray->List Bd->Bool
 | [],_,_=>false
 | t::ts,nm,v=>t.late v||yD ts (v++[(nm,t.late v)])
end
/-- returns these bindings -/
def zR7 (f:FuncId) (args:List PV) (v:List Bd):Prop:=∀ (N:Nat) (Q:QT [.sl 2]),(∀ a c N',N<=N'->Q a (v.map bdD) c N')->ACalls prog f [.sl 2] args N Q
theorem zHa (v:List Bd) (hv:v.length<=1073741824) (a:Option Addr) (c:Nat) (s:ByteArray) (b:Bool):zR7 141 [.sv a 2 (v.map bdD) c,.str s,.bool b] (v++[(s,b)]):=fun N Q hQ=>by
 refine zEe N a _ c s b Q fun _=>⟨⟨rfl,rfl⟩,?_,fun c1=>⟨⟨rfl,rfl⟩,?_,fun c2=>⟨⟨rfl,rfl⟩,⟨rfl,rfl⟩,fun a2 N1 hN1 _ N2 hN2=>?_⟩⟩⟩
 ·unfold zA;simp;omega
 ·unfold zA;simp;omega
 ·have:=hQ a2 c2 N2 (by omega)
  rw [nP] at this
  exact this
def xI (g:List Pm):List Bd:=g.map fun p=>(p.nm,p.dy)
theorem zCt (g:List Pm):(xI g).length=g.length:=by simp [xI]
theorem zKe {g:List Pm} {es:List D} (h:Pms g es) (hg:g.length<=1073741824) (a:Option Addr) (c:Nat):zR7 70 [.sv a 4 es c] (xI g):=fun N Q hQ=>by
 have hl:=h.all.len
 refine zG6 N a es c Q fun _=>?_
 have key:=up h.all h.len (fun i xs=>∀ (q:Nat) (N':Nat),N<=N'->wK Q N a es c ((xI g).take i).length q i (((xI g).take i).map bdD) q N') ?_ ?_
 ·exact key 0 N (oE _)
 ·intro i hlt hi q N' hN'
  refine sO _ _ _ _ _ _ _ _ _ _ _ ?_
  rw [oe (by rw [zCt];omega)]
  have hml:((xI g).map bdD).length=(xI g).length:=by simp
  repeat' first|with_reducible intro _|simp only[hlt,hml,Y1,Y2,Y3,Y4]|with_reducible refine X ?_ ?_|refine⟨_,_,_,rfl,?_⟩|refine⟨_,rfl,?_⟩|refine And.intro (by first|omega|trivial|(show _=_;rfl)|(with_reducible constructor)<;>first|omega|trivial|rfl) ?_|fail
  exact hQ _ _ _ (by omega)
 ·intro i x xs hat _ ih2 q N' hN'
  have hb:=hat.b
  have hm:=hat.m
  obtain ⟨t0,t1,hd',hnm,hty⟩:=hat.r
  refine sO _ _ _ _ _ _ _ _ _ _ _ ?_
  have hat2:(xI g)[i]?=some (x.nm,x.dy):=by rw [xI,oF,hat.g];rfl
  have hml:(((xI g).take i).map bdD).length=((xI g).take i).length:=by simp
  have hsn:((xI g).take i).map bdD++[D.ag [.lit (.string x.nm),.lit (.bool x.dy)]]=((xI g).take (i+1)).map bdD:=by rw [ya hat2,nP];rfl
  have hml2:(((xI g).take (i+1)).map bdD).length=((xI g).take (i+1)).length:=by simp
  have hti:((xI g).take (i+1)).length<=i+1:=by rw [o0];omega
  repeat' first|with_reducible intro _|simp only[hat.lt,hat.w,oH,hd',hml,mL,eq_self,Y1,Y2,Y3,Y4]|with_reducible refine X ?_ ?_|refine⟨_,_,_,rfl,?_⟩|refine⟨_,rfl,?_⟩|refine And.intro (by first|omega|trivial|(show _=_;rfl)|(with_reducible constructor)<;>first|omega|trivial|rfl) ?_|fail
  refine ⟨by unfold zA;rw [hsn,hml2];omega,fun c1=>?_⟩
  rw [hsn,hml2]
  exact ih2 _ _ hN'
theorem zRB {v:List Bd} {i:Nat} {b:Bd} (h:v[i]?=some b):(v.map bdD).getD i default=bdD b:=by simp [oA,h]
theorem sS {l:List Tm} {es:List D} (h:All2 Tm.Is l es) (hl:(l.length:Int)=2):∃ x0 x1 d0 d1,l=[x0,x1]/\es=[d0,d1]/\x0.Is d0/\x1.Is d1:=by
 have he:=h.len
 match l,es,h with
 | [x0,x1],es,⟨d0,ds,e1,h0,d1,ds2,e2,h1,e3⟩=>subst e3;subst e2;subst e1;exact ⟨x0,x1,d0,d1,rfl,rfl,h0,h1⟩
 | [],_,_=>simp at hl
 | [_],_,_=>simp at hl
 | _::_::_::_,_,_=>simp at hl;omega
theorem rd:∀ {l:List Tm} {x:Tm},zLd l=true->x∈l->x.isB=true
 | t::ts,x,h,hx=>by
   simp only [zLd,oK] at h
   rcases oG.1 hx with rfl | hx
   ·exact h.1
   ·exact rd h.2 hx
theorem zI7 {l:List Tm} {es:List D} (h:All2 Tm.Is l es) (hl:(l.length:Int)=3):∃ x0 x1 x2 d0 d1 d2,l=[x0,x1,x2]/\es=[d0,d1,d2]/\x0.Is d0/\x1.Is d1/\x2.Is d2:=by
 match l,es,h with
 | [x0,x1,x2],es,⟨d0,ds,e1,h0,d1,ds2,e2,h1,d2,ds3,e3,h2,e4⟩=>subst e4;subst e3;subst e2;subst e1;exact ⟨x0,x1,x2,d0,d1,d2,rfl,rfl,h0,h1,h2⟩
 | [],_,_=>simp at hl
 | [_],_,_=>simp at hl
 | [_,_],_,_=>simp at hl
 | _::_::_::_::_,_,_=>simp at hl;omega
theorem Tm.cnt_pos (t:Tm):1<=t.cnt:=by cases t;simp only [Tm.cnt];omega
theorem zDZ:∀ (t:Tm) (d:D),t.Is d->t.ok=true->∀ (v:List Bd) (a:Option Addr) (c:Nat),v.length+t.cnt<=1073741824->w9 69 [.dg 9 d,.sv a 2 (v.map bdD) c] (t.late v):=by
 refine Tm.ind fun k nm ot n0 ty re l ih d hd hok v a c hc N Q hQ=>?_
 obtain ⟨t0,t1,r0,r1,a1,es,c1,rfl,hh,hlen,hes⟩:=Tm.is_mk.1 hd
 have node:=zk hok
 simp only [Tm.cnt] at hc
 have hvl:(v.map bdD).length=v.length:=by simp
 -- the parts, one behind another
 have parts:∀ (Q:QT [.bool]) (N0:Nat) (N1:Nat),(∀ N',N1<=N'->Q (yD l v) N')->yE Q N0 a (v.map bdD) c 0 (.ag [.lit (.int .i64 k),.lit (.string nm),.lit (.string ot),.lit (.int .i64 n0),t0,t1,r0,r1,.sl a1 9 es c1]) N1:=by
  intro Q N0 N1 hQ
  refine up hes hlen (fun i xs=>∀ (N':Nat),N1<=N'->(∀ N'',N'<=N''->Q (yD xs v) N'')->yE Q N0 a (v.map bdD) c i (.ag [.lit (.int .i64 k),.lit (.string nm),.lit (.string ot),.lit (.int .i64 n0),t0,t1,r0,r1,.sl a1 9 es c1]) N') ?_ ?_ N1 (oE _) hQ
  ·intro i hlt _ N' hN' hQ'
   refine u6 _ _ _ _ _ _ _ _ ?_
   repeat' first|with_reducible intro _|simp only[hlt,Y1,Y2,Y3,Y4]|with_reducible refine X ?_ ?_|refine⟨_,_,_,rfl,?_⟩|refine⟨_,rfl,?_⟩|refine And.intro (by first|omega|trivial|(show _=_;rfl)|(with_reducible constructor)<;>first|omega|trivial|rfl) ?_|fail
   exact hQ' _ (by omega)
  ·intro i x xs hat _ ih2 N' hN' hQ'
   have hb:=hat.b
   have hxc:=zO hat.m
   simp only [yD] at hQ'
   refine u6 _ _ _ _ _ _ _ _ ?_
   repeat' first|with_reducible intro _|simp only[hat.lt,hat.w,oH,Y1,Y2,Y3,Y4]|with_reducible refine X ?_ ?_|refine⟨_,_,_,rfl,?_⟩|refine⟨_,rfl,?_⟩|refine And.intro (by first|omega|trivial|(show _=_;rfl)|(with_reducible constructor)<;>first|omega|trivial|rfl) ?_|refine (ih x hat.m _ hat.r (node.sub x hat.m) v a c (by omega)) _ _ ?_|fail
   ·rename_i h _ _
    exact Qb (hQ' _ (by omega)) (by rw [h];rfl)
   ·rename_i h
    exact ih2 _ (by omega) fun N'' h2=>Qb (hQ' N'' (by omega)) (by rw [h];rfl)
 -- the bindings, the last first
 have look:∀ (hk:k=1) (i:Nat),i<=v.length->∀ N1,N<=N1->(∀ N',N1<=N'->Q ((sH nm (v.take i)).getD (yD l v)) N')->xf Q N a (v.map bdD) c ((i:Int) - 1) (.ag [.lit (.int .i64 k),.lit (.string nm),.lit (.string ot),.lit (.int .i64 n0),t0,t1,r0,r1,.sl a1 9 es c1]) N1:=by
  intro hk i
  induction i with
  | zero=>
    intro hi N1 hN1 hQ1
    refine t8 _ _ _ _ _ _ _ _ ?_
    have e:decide (((0:Nat):Int) - 1≥0)=false:=by simp
    repeat' first|with_reducible intro _|simp only[e,Y1,Y2,Y3,Y4]|with_reducible refine X ?_ ?_|refine⟨_,_,_,rfl,?_⟩|refine⟨_,rfl,?_⟩|refine And.intro (by first|omega|trivial|(show _=_;rfl)|(with_reducible constructor)<;>first|omega|trivial|rfl) ?_|fail
    exact parts Q N N1 fun N' h=>Qb (hQ1 N' h) rfl
  | succ i ihi=>
    intro hi N1 hN1 hQ1
    have hlt:i<v.length:=by omega
    have hg:v[i]?=some v[i]:=oD hlt
    have hgd:=zRB hg
    refine t8 _ _ _ _ _ _ _ _ ?_
    have e0:(((i+1:Nat):Int) - 1)=(i:Int):=by omega
    have e:decide ((i:Int)≥0)=true:=ny (by omega)
    have ew:IntKind.i64.wrap ((i:Int) - 1)=(i:Int) - 1:=i64_in _ (by omega)
    rw [e0]
    rw [ya hg,rO] at hQ1
    repeat' first|with_reducible intro _|simp only[e,ew,oH,hgd,bdD,mL,eq_self,Y1,Y2,Y3,Y4]|with_reducible refine X ?_ ?_|refine⟨_,_,_,rfl,?_⟩|refine⟨_,rfl,?_⟩|refine And.intro (by first|omega|trivial|(show _=_;rfl)|(with_reducible constructor)<;>first|omega|trivial|rfl) ?_|fail
    ·rename_i hs _ _
     exact Qb (hQ1 _ (by omega)) (by rw [if_pos hs];rfl)
    ·rename_i hs
     exact ihi (by omega) N1 (by omega) fun N' h=>Qb (hQ1 N' h) (by rw [if_neg hs])
 refine zEX N _ a _ c Q fun _ _=>?_
 simp only [Tm.late] at hQ
 refine ⟨_,rfl,Br.beq (fun hk=>?_) fun hk=>Br.beq (fun hk8=>?_) fun hk8=>?_⟩
 ·rw [if_pos hk] at hQ
  rw [hvl,i64_in _ (by omega)]
  exact look hk v.length (oE _) N (oE _) (by rw [List.take_length];exact hQ)
 ·rw [if_neg hk,if_pos hk8] at hQ
  have har:=node.ar
  subst hk8
  rw [show zAv 8 nm=2 from rfl] at har
  obtain ⟨x0,x1,d0,d1,rfl,rfl,h0,h1⟩:=sS hes har
  simp only [yG] at hc
  simp only [zBW,yD,Bool.or_false] at hQ
  have hp0:=x0.cnt_pos
  refine ⟨_,_,_,rfl,⟨by omega,by simp⟩,fun N1 hN1=>?_⟩
  refine ih x0 (by simp) d0 h0 (node.sub _ (by simp)) v a c (by omega) N1 _ fun N2 hN2 _=>Br.of (fun hb N3 hN3=>?_) fun hb=>?_
  ·exact Qb (hQ _ (by omega)) (by rw [hb];rfl)
  ·refine ⟨_,_,_,rfl,⟨by omega,by simp⟩,_,rfl,fun N4 hN4=>?_⟩
   refine zHa v (by omega) a c nm _ N4 _ fun a2 c2 N5 hN5 _ _ N6 hN6=>?_
   refine ih x1 (by simp) d1 h1 (node.sub _ (by simp)) _ a2 c2 (by simp;omega) N6 _ fun N7 hN7 _ N8 hN8=>?_
   exact Qb (hQ _ (by omega)) (by rw [hb];simp)
 ·rw [if_neg hk,if_neg hk8] at hQ
  exact parts Q N N hQ
theorem vz {g:List Pm} {e:Tm} (h:(zR g e).isSome=true):uq g=true/\e.vd=true/\e.isB=true:=by
 unfold zR at h
 split at h
 ·assumption
 ·cases h
theorem zLX {e:Tm} (h:e.vd=true):e.ok=true:=by
 simp only [Tm.vd,oK] at h
 exact h.2
def zB8 (g:List Pm) (e:Tm):Bool:=(zR g e).isSome&&e.late (xI g)
theorem zB2 {g:List Pm} {es:List D} (h:Pms g es) (hg:g.length<=536870000) {e:Tm} {d:D} (he:e.Is d) (hc:e.cnt<=536870000) (a:Option Addr) (c:Nat):w9 11 [.sv a 4 es c,.dg 9 d] (zB8 g e):=fun N Q hQ=>by
 refine zBh N a es c d Q fun _ _ N1 hN1=>?_
 refine xD h (by omega) he hc a c N1 _ fun x N2 hN2 _ _ _=>Br.of (fun hb N3 hN3=>?_) fun hb N8 hN8=>?_
 ·refine zKe h (by omega) a c N3 _ fun a2 c2 N4 hN4 _ _ N5 hN5=>?_
  obtain ⟨_,hv,_⟩:=vz hb
  refine zDZ e d he (zLX hv) (xI g) a2 c2 (by rw [zCt];omega) N5 _ fun N6 hN6 _ N7 hN7=>?_
  exact Qb (hQ _ (by omega)) (by simp [zB8,hb])
 ·exact Qb (hQ _ (by omega)) (by simp [zB8,hb])
def plB (p:Pl):Bd:=(p.1,p.2.2)
theorem zLD (nm:ByteArray) (v:List Pl):(zKw nm v).2.2=(sH nm (v.map plB)).getD false:=by
 unfold zKw sH
 rw [<-List.map_reverse,List.find?_map]
 generalize v.reverse=u
 induction u with
 | nil=>rfl
 | cons x u ih=>
   by_cases h:x.1=nm
   ·simp [plB,h]
   ·simp only [List.find?_cons,Function.comp,plB,h,decide_false] at ih ⊢
    exact ih
theorem zGD:∀ v:List Pl,zD (v.map plD)=[]
 | []=>rfl
 | b::v=>by simp only [o4,zD,zGD v];rfl
theorem zMk:∀ v:List Pl,xQ (v.map plD)
 | []=>trivial
 | b::v=>⟨⟨trivial,trivial,trivial,trivial⟩,zMk v⟩
theorem zQF {N N':Nat} (v:List Pl):OwnL N N' (v.map plD):=⟨by rw [zGD];simp,zMk v,by rw [zGD];simp,by rw [zGD];simp⟩
/-- returns these places, its own or those handed in -/
def zR6 (f:FuncId) (args:List PV) (v:List Pl):Prop:=∀ (N:Nat) (Q:QT [.sl 3]),(∀ a c N',N<=N'->Q a (v.map plD) c N')->ACalls prog f [.sl 3] args N Q
theorem zMG (v:List Pl) (hv:v.length<=1073741824) (a:Option Addr) (c:Nat) (N:Nat) (Q:QT [.row 143 3]) (hQ:∀ c' N',N<=N'->Q (v.map plD) c' N'):ACalls prog 192 [.row 143 3] [.sv a 3 (v.map plD) c] N Q:=by
 have main:(a=none->v.map plD=[])->ACalls prog 192 [.row 143 3] [.sv a 3 (v.map plD) c] N Q:=fun hn=>by
  refine v9 N a _ c Q fun _=>Br.of (fun hi N1 hN1=>?_) fun _=>⟨⟨rfl,rfl⟩,?_,fun c2=>⟨⟨rfl,rfl⟩,fun N2 hN2=>?_⟩⟩
  ·have:=hn (by simpa using hi)
   have h2:=hQ 0 N1 hN1
   rwa [this] at h2
  ·unfold zA;simp;omega
  ·exact hQ _ _ hN2
 cases a with
 | some ad=>exact main (by simp)
 | none=>
   by_cases hne:v.map plD=[]
   ·exact main fun _=>hne
   ·exact zO3 (z:=3) (c:=c) (es:=v.map plD) (by kernel_rfl) (by simp) hne
theorem zPk (v:List Pl) (hv:v.length<=1073741824) (p:Pl) (a:Option Addr) (c:Nat) (N:Nat) (Q:QT [.sl 3]) (hQ:∀ a' c' N',N<=N'->Own N N' (.sl a' 3 ((v++[p]).map plD) c')->Q a' ((v++[p]).map plD) c' N') :
  ACalls prog 136 [.sl 3] [.sv a 3 (v.map plD) c,.dg 3 (plD p)] N Q:=by
 refine zAm N a _ c _ Q fun _ _ N1 hN1=>?_
 refine zMG v hv a c N1 _ fun c2 N2 hN2 _ _=>⟨⟨rfl,rfl⟩,?_,fun c3=>⟨⟨rfl,rfl⟩,⟨rfl,rfl⟩,fun a3 N3 hN3 hf N4 hN4=>?_⟩⟩
 ·unfold zA;simp;omega
 ·have e:v.map plD++[plD p]=(v++[p]).map plD:=by simp
  rw [e] at hf ⊢
  exact hQ _ _ _ (by omega) ((uL (N1:=N3) (zQF _) hf (oE _)).mono (oE _) hN4)
/-- the parts behind a let's first know its name -/
def xm (k:Int) (nm:ByteArray) (b:Bool) (v:List Pl) (i:Nat):List Pl:=if k=8/\i≠0 then v++[(nm,0,b)] else v
theorem zJ2 {k:Int} {nm ot:ByteArray} {n0:Int} {t0 t1 r0 r1:D} {a1:Option Addr} {es:List D} {c1:Nat} (v:List Pl) (hv:v.length<=1073741824) (a:Option Addr) (c:Nat) (i:Nat) (b:Bool)
  (hes:k=8->es≠[]) (ih:k=8->w9 66 [.sv a 3 (v.map plD) c,.dg 9 (es.getD 0 default)] b) :
  zR6 138 [.sv a 3 (v.map plD) c,.dg 9 (.ag [.lit (.int .i64 k),.lit (.string nm),.lit (.string ot),.lit (.int .i64 n0),t0,t1,r0,r1,.sl a1 9 es c1]),.int .i64 i] (xm k nm b v i):=fun N Q hQ=>by
 refine rt N a _ c _ i Q fun _ _=>⟨_,rfl,Br.bne (fun hk N1 hN1=>?_) fun hk=>Br.beq (fun hi N2 hN2=>?_) fun hi=>?_⟩
 ·rw [xm,if_neg (by simp [hk])] at hQ;exact hQ _ _ _ hN1
 ·rw [xm,if_neg (by simp;omega)] at hQ;exact hQ _ _ _ hN2
 ·rw [xm,if_pos ⟨hk,by omega⟩] at hQ
  have hne:=mc.2 (hes hk)
  refine ⟨_,rfl,_,_,_,rfl,⟨by omega,by omega⟩,fun N3 hN3=>?_⟩
  refine ih hk N3 _ fun N4 hN4 _ N5 hN5=>?_
  refine zPk v hv (nm,0,b) a c N5 _ fun a2 c2 N6 hN6 _ _ _ N7 hN7=>?_
  exact hQ _ _ _ (by omega)
theorem qW:∀ (t:Tm) (d:D),t.Is d->t.ok=true->∀ (v:List Pl) (a:Option Addr) (c:Nat),v.length+t.cnt<=1073741824->w9 66 [.sv a 3 (v.map plD) c,.dg 9 d] (t.late (v.map plB)):=by
 refine Tm.ind fun k nm ot n0 ty re l ih d hd hok v a c hc N Q hQ=>?_
 obtain ⟨t0,t1,r0,r1,a1,es,c1,rfl,hh,hlen,hes⟩:=Tm.is_mk.1 hd
 have node:=zk hok
 simp only [Tm.cnt] at hc
 have hvl:(v.map plD).length=v.length:=by simp
 refine tL N a _ c _ Q fun _ _=>?_
 simp only [Tm.late] at hQ
 refine ⟨_,rfl,Br.beq (fun hk=>?_) fun hk=>?_⟩
 ·rw [if_pos hk] at hQ
  have har:=node.ar
  subst hk
  rw [show zAv 1 nm=0 from rfl] at har
  have hl0:l=[]:=oX (by omega)
  subst hl0
  refine ⟨_,rfl,fun N1 hN1=>?_⟩
  refine zQt v a c nm (by omega) N1 _ fun N2 hN2 _ _=>⟨_,rfl,fun N3 hN3=>?_⟩
  exact Qb (hQ _ (by omega)) (by rw [zLD];rfl)
 ·rw [if_neg hk] at hQ
  refine ⟨_,_,_,rfl,?_⟩
  have hlp:k=8->∃ x0 x1,l=[x0,x1]:=fun h8=>by
   have har:=node.ar
   subst h8
   rw [show zAv 8 nm=2 from rfl] at har
   obtain ⟨x0,x1,_,_,h,_⟩:=sS hes har
   exact ⟨x0,x1,h⟩
  have hd0:∀ x0 rest,l=x0::rest->x0.Is (es.getD 0 default):=fun x0 rest h=>by
   refine hes.get (i:=0) ?_
   rw [h];rfl
  obtain ⟨b0,hb0⟩:∃ b0,b0=((l.head?.map fun x0=>x0.late (v.map plB)).getD false):=⟨_,rfl⟩
  have hv8:v.length+1<=1073741824\/l=[]:=by
   cases l with
   | nil=>exact .inr rfl
   | cons x xs=>left;simp only [yG] at hc;have:=x.cnt_pos;omega
  refine up hes hlen (fun i xs=>∀ (N':Nat),N<=N'->(i=0->xs=l)->(∀ N'',N'<=N''->Q (if k=8 then (if i=0 then zBW xs nm (v.map plB) else yD xs ((v++[(nm,0,b0)]).map plB)) else yD xs (v.map plB)) N'') ->
   zq Q N a (v.map plD) c a1 es c1 es.length i (.ag [.lit (.int .i64 k),.lit (.string nm),.lit (.string ot),.lit (.int .i64 n0),t0,t1,r0,r1,.sl a1 9 es c1]) N') ?_ ?_ N (oE _) (fun _=>rfl) (by simpa using hQ)
  ·intro i hlt _ N' hN' h0 hQ'
   refine xX _ _ _ _ _ _ _ _ _ _ _ _ ?_
   repeat' first|with_reducible intro _|simp only[hlt,Y1,Y2,Y3,Y4]|with_reducible refine X ?_ ?_|refine⟨_,_,_,rfl,?_⟩|refine⟨_,rfl,?_⟩|refine And.intro (by first|omega|trivial|(show _=_;rfl)|(with_reducible constructor)<;>first|omega|trivial|rfl) ?_|fail
   exact Qb (hQ' _ (by omega)) (by simp [yD,zBW])
  ·intro i x xs hat _ ih2 N' hN' h0 hQ'
   have hb:=hat.b
   have hxc:=zO hat.m
   refine xX _ _ _ _ _ _ _ _ _ _ _ _ ?_
   have hins:=zJ2 (k:=k) (nm:=nm) (ot:=ot) (n0:=n0) (t0:=t0) (t1:=t1) (r0:=r0) (r1:=r1) (a1:=a1) (es:=es) (c1:=c1) v (by omega) a c i b0 (fun h8 hc=>by
    have:=hes.len;obtain ⟨x0,x1,hl⟩:=hlp h8;rw [hc,hl] at this;simp at this) (fun h8=>by
    obtain ⟨x0,x1,hl⟩:=hlp h8
    have hx0:x0∈l:=by rw [hl];simp
    have hcx:=zO hx0
    have hbe:b0=x0.late (v.map plB):=by rw [hb0,hl];rfl
    rw [hbe]
    exact ih x0 hx0 _ (hd0 x0 [x1] hl) (node.sub _ hx0) v a c (by omega))
   have hvl8:(xm k nm b0 v i).length+x.cnt<=1073741824:=by
    unfold xm
    split<;>first | (simp;omega) | omega
   repeat' first|with_reducible intro _|simp only[hat.lt,hat.w,oH,Y1,Y2,Y3,Y4]|with_reducible refine X ?_ ?_|refine⟨_,_,_,rfl,?_⟩|refine⟨_,rfl,?_⟩|refine And.intro (by first|omega|trivial|(show _=_;rfl)|(with_reducible constructor)<;>first|omega|trivial|rfl) ?_|refine hins _ _ ?_|refine (ih x hat.m _ hat.r (node.sub x hat.m) (xm k nm b0 v i) _ _ hvl8) _ _ ?_|fail
   ·rename_i h _ _
    refine Qb (hQ' _ (by omega)) ?_
    unfold xm at h
    by_cases hk8:k=8
    ·by_cases hi:i=0
     ·rw [if_neg (by simp [hi])] at h;simp [hk8,hi,zBW,h]
     ·rw [if_pos ⟨hk8,hi⟩] at h;rw [if_pos hk8,if_neg hi,yD,h];rfl
    ·rw [if_neg (by simp [hk8])] at h;simp [hk8,yD,h]
   ·rename_i h
    refine ih2 _ (by omega) (fun hc=>by omega) fun N'' h2=>Qb (hQ' N'' (by omega)) ?_
    unfold xm at h
    by_cases hk8:k=8
    ·by_cases hi:i=0
     ·rw [if_neg (by simp [hi])] at h
      have hlx:=h0 hi
      have hbe:b0=false:=by rw [hb0,<-hlx];simpa using h
      simp [hk8,hi,zBW,h,hbe,plB]
     ·rw [if_pos ⟨hk8,hi⟩] at h
      rw [if_pos hk8,if_neg hi,if_pos hk8,if_neg (by omega),yD,h];rfl
    ·rw [if_neg (by simp [hk8])] at h;simp [hk8,yD,h]
def zJp (g:List Pm):List Pl:=g.map fun p=>(p.nm,0,p.dy)
theorem zCF (g:List Pm):(zJp g).length=g.length:=by simp [zJp]
theorem zKa (g:List Pm):(zJp g).map plB=xI g:=by simp [zJp,xI,plB]
theorem zKE {g:List Pm} {es:List D} (h:Pms g es) (hg:g.length<=1073741824) (a:Option Addr) (c:Nat):zR6 65 [.sv a 4 es c,.sv none 0 [] 0] (zJp g):=fun N Q hQ=>by
 have hl:=h.all.len
 refine zIN N a es c none [] 0 Q fun _ _=>?_
 have e0:decide ((([]:List D).length:Int)>0)=false:=by simp
 have key:=up h.all h.len (fun i xs=>(i=0->∀ (N':Nat),N<=N'->uj Q N none [] 0 0 0 a es c es.length i [] 0 N') /\
  (0<i->∀ (a5:Option Addr) (c5:Nat) (N':Nat),N<=N'->zV Q N none [] 0 a5 (((zJp g).take i).map plD) c5 a es c es.length i N')) (fun i hlt hi=>⟨fun h0 N' hN'=>?_,fun h0 a5 c5 N' hN'=>?_⟩) (fun i x xs hat _ ih2=>⟨fun h0 N' hN'=>?_,fun h0 a5 c5 N' hN'=>?_⟩)
 ·exact key.1 rfl N (oE _)
 ·refine qI _ _ _ _ _ _ _ _ _ _ _ _ _ _ _ ?_
  have hg0:g=[]:=oX (by omega)
  subst hg0
  repeat' first|with_reducible intro _|simp only[hlt,Y1,Y2,Y3,Y4]|with_reducible refine X ?_ ?_|refine⟨_,_,_,rfl,?_⟩|refine⟨_,rfl,?_⟩|refine And.intro (by first|omega|trivial|(show _=_;rfl)|(with_reducible constructor)<;>first|omega|trivial|rfl) ?_|fail
  exact hQ _ _ _ (by omega)
 ·refine u3 _ _ _ _ _ _ _ _ _ _ _ _ _ _ ?_
  rw [oe (by rw [zCF];omega)]
  repeat' first|with_reducible intro _|simp only[hlt,Y1,Y2,Y3,Y4]|with_reducible refine X ?_ ?_|refine⟨_,_,_,rfl,?_⟩|refine⟨_,rfl,?_⟩|refine And.intro (by first|omega|trivial|(show _=_;rfl)|(with_reducible constructor)<;>first|omega|trivial|rfl) ?_|fail
  exact hQ _ _ _ (by omega)
 ·have hb:=hat.b
  have hm:=hat.m
  obtain ⟨t0,t1,hd',hnm,hty⟩:=hat.r
  subst h0
  have hat2:(zJp g)[0]?=some (x.nm,0,x.dy):=by rw [zJp,oF,hat.g];rfl
  have e1:((zJp g).take (0+1))=[]++[(x.nm,0,x.dy)]:=ya hat2
  have hand:=zPk [] (by simp) (x.nm,0,x.dy)
  rw [<-e1] at hand
  refine qI _ _ _ _ _ _ _ _ _ _ _ _ _ _ _ ?_
  repeat' first|with_reducible intro _|simp only[hat.lt,hat.w,oH,hd',e0,Y1,Y2,Y3,Y4]|with_reducible refine X ?_ ?_|refine⟨_,_,_,rfl,?_⟩|refine⟨_,rfl,?_⟩|refine And.intro (by first|omega|trivial|(show _=_;rfl)|(with_reducible constructor)<;>first|omega|trivial|rfl) ?_|fail
  all_goals
   rename_i ad hap N1 hN1 hbel
   exact hand ad 0 N1 _ fun a2 c2 N2 hN2 own _=>⟨zJ1 hbel own (oE _),fun _=>ih2.2 (by omega) _ _ _ (by omega)⟩
 ·have hb:=hat.b
  have hm:=hat.m
  obtain ⟨t0,t1,hd',hnm,hty⟩:=hat.r
  have hat2:(zJp g)[i]?=some (x.nm,0,x.dy):=by rw [zJp,oF,hat.g];rfl
  have htl:((zJp g).take i).length<=1073741824:=by rw [o0,zCF];omega
  refine u3 _ _ _ _ _ _ _ _ _ _ _ _ _ _ ?_
  have hand:=zPk ((zJp g).take i) htl (x.nm,0,x.dy)
  rw [<-ya hat2] at hand
  repeat' first|with_reducible intro _|simp only[hat.lt,hat.w,oH,hd',e0,Y1,Y2,Y3,Y4]|with_reducible refine X ?_ ?_|refine⟨_,_,_,rfl,?_⟩|refine⟨_,rfl,?_⟩|refine And.intro (by first|omega|trivial|(show _=_;rfl)|(with_reducible constructor)<;>first|omega|trivial|rfl) ?_|refine (hand _ _) _ _ ?_|fail
  all_goals exact ih2.2 (by omega) _ _ _ (by omega)
theorem zBj {g:List Pm} {es:List D} (h:Pms g es) (hg:g.length<=536870000) (hc2:∀ x∈g,x.ty.cnt<=1073741824) {e:Tm} {d:D} (he:e.Is d) (hc:e.cnt<=1048576000 / 2) (a:Option Addr) (c:Nat) :
  w9 9 [.sv a 4 es c,.dg 9 d] (zB8 g e):=fun N Q hQ=>by
 refine zBp N a es c d Q fun _ _ N1 hN1=>?_
 refine wD h (by omega) hc2 he hc a c N1 _ fun x N2 hN2 _ _ _ _=>Br.of (fun hb N3 hN3=>?_) fun hb N8 hN8=>?_
 ·refine zKE h (by omega) a c N3 _ fun a2 c2 N4 hN4 _ _ N5 hN5=>?_
  obtain ⟨_,hv,_⟩:=vz hb
  refine qW e d he (zLX hv) (zJp g) a2 c2 (by rw [zCF];omega) N5 _ fun N6 hN6 _ N7 hN7=>?_
  exact Qb (hQ _ (by omega)) (by rw [zKa];simp [zB8,hb])
 ·exact Qb (hQ _ (by omega)) (by simp [zB8,hb])
end Go.Proofs.YtkdjhkfiolhkiaaGreat
