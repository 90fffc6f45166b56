/- Which parts of a body depend on late parameters: the reference. -/
import Derived.Test.YtkdjhkfiolhkiaaGreatWm
import Derived.Test.YtkdjhkfiolhkiaaGreatWn
import Derived.Test.YtkdjhkfiolhkiaaGreatWr
import Derived.Test.YtkdjhkfiolhkiaaGreatWl
set_option linter.unusedVariables false
set_option linter.unusedSimpArgs false
namespace Go.Proofs.YtkdjhkfiolhkiaaGreat
open Go Go.Proofs Go.Proofs.Tryz Go.IntWalk
/-- a name and whether it comes late -/
abbrev Bd:=ByteArray × Bool
def bdD (b:Bd):D:=.ag [.lit (.string b.1),.lit (.bool b.2)]
def um (nm:ByteArray) (v:List Bd):Option Bool:=(v.reverse.find? fun p=>decide (p.1=nm)).map (·.2)
theorem uQ {nm:ByteArray} {v:List Bd} {b:Bd}:um nm (v++[b])=if b.1=nm then some b.2 else um nm v:=by
 unfold um
 rw [md]
 by_cases h:b.1=nm<;>simp [h]
mutual
def Tm.late:Tm->List Bd->Bool
 | .mk k nm _ _ _ _ l,v=>if k=1 then (um nm v).getD (yU l v) else if k=8 then zBv l nm v else yU l v
def yU:List Tm->List Bd->Bool
 | [],_=>false
 | t::ts,v=>t.late v||yU ts v
def zBv:List Tm->ByteArray->List Bd->Bool
 | [],_,_=>false
 | t::ts,nm,v=>t.late v||yU ts (v++[(nm,t.late v)])
end
/-- returns these bindings -/
def zQb (f:FuncId) (args:List PV) (v:List Bd):Prop:=∀ (N:Nat) (Q:QT [.sl 2]),(∀ a c N',N<=N'->Q a (v.map bdD) c N')->ACalls prog f [.sl 2] args N Q
theorem zLz (v:List Bd) (hv:v.length<=1073741824) (a:Option Addr) (c:Nat) (s:ByteArray) (b:Bool):zQb 141 [.sv a 2 (v.map bdD) c,.str s,.bool b] (v++[(s,b)]):=fun N Q hQ=>by
 refine zDR N a _ c s b Q fun _=>⟨⟨rfl,rfl⟩,?_,fun c1=>⟨⟨rfl,rfl⟩,?_,fun c2=>⟨⟨rfl,rfl⟩,⟨rfl,rfl⟩,fun a2 N1 hN1 _ N2 hN2=>?_⟩⟩⟩
 ·unfold zA;simp;omega
 ·unfold zA;simp;omega
 ·have:=hQ a2 c2 N2 (by omega)
  rw [o7] at this
  exact this
theorem zPi {v:List Bd} {i:Nat} {b:Bd} (h:v[i]?=some b):(v.map bdD).getD i default=bdD b:=by simp [oA,h]
theorem ve {l:List Tm} {es:List D} (h:All2 Tm.Is l es) (hl:(l.length:Int)=2):∃ x0 x1 d0 d1,l=[x0,x1]/\es=[d0,d1]/\x0.Is d0/\x1.Is d1:=by
 have he:=h.len
 match l,es,h with
 | [x0,x1],es,⟨d0,ds,e1,h0,d1,ds2,e2,h1,e3⟩=>subst e3;subst e2;subst e1;exact ⟨x0,x1,d0,d1,rfl,rfl,h0,h1⟩
 | [],_,_=>simp at hl
 | [_],_,_=>simp at hl
 | _::_::_::_,_,_=>simp at hl;omega
theorem xH:∀ {l:List Tm} {x:Tm},zKv l=true->x∈l->x.isB=true
 | t::ts,x,h,hx=>by
   simp only [zKv,oI] at h
   rcases oJ.1 hx with rfl | hx
   ·exact h.1
   ·exact xH h.2 hx
theorem tD {l:List Tm} {es:List D} (h:All2 Tm.Is l es) (hl:(l.length:Int)=3):∃ x0 x1 x2 d0 d1 d2,l=[x0,x1,x2]/\es=[d0,d1,d2]/\x0.Is d0/\x1.Is d1/\x2.Is d2:=by
 match l,es,h with
 | [x0,x1,x2],es,⟨d0,ds,e1,h0,d1,ds2,e2,h1,d2,ds3,e3,h2,e4⟩=>subst e4;subst e3;subst e2;subst e1;exact ⟨x0,x1,x2,d0,d1,d2,rfl,rfl,h0,h1,h2⟩
 | [],_,_=>simp at hl
 | [_],_,_=>simp at hl
 | [_,_],_,_=>simp at hl
 | _::_::_::_::_,_,_=>simp at hl;omega
theorem Tm.cnt_pos (t:Tm):1<=t.cnt:=by cases t;simp only [Tm.cnt];omega
theorem zCy:∀ (t:Tm) (d:D),t.Is d->t.ok=true->∀ (v:List Bd) (a:Option Addr) (c:Nat),v.length+t.cnt<=1073741824->wm 69 [.dg 9 d,.sv a 2 (v.map bdD) c] (t.late v):=by
 refine Tm.ind fun k nm ot n0 ty re l ih d hd hok v a c hc N Q hQ=>?_
 obtain ⟨t0,t1,r0,r1,a1,es,c1,rfl,hh,hlen,hes⟩:=Tm.is_mk.1 hd
 have node:=zX hok
 simp only [Tm.cnt] at hc
 have hvl:(v.map bdD).length=v.length:=by simp
 -- the parts, one behind another
 have parts:∀ (Q:QT [.bool]) (N0:Nat) (N1:Nat),(∀ N',N1<=N'->Q (yU l v) N')->yE Q N0 a (v.map bdD) c 0 (.ag [.lit (.int .i64 k),.lit (.string nm),.lit (.string ot),.lit (.int .i64 n0),t0,t1,r0,r1,.sl a1 9 es c1]) N1:=by
  intro Q N0 N1 hQ
  refine up hes hlen (fun i xs=>∀ (N':Nat),N1<=N'->(∀ N'',N'<=N''->Q (yU xs v) N'')->yE Q N0 a (v.map bdD) c i (.ag [.lit (.int .i64 k),.lit (.string nm),.lit (.string ot),.lit (.int .i64 n0),t0,t1,r0,r1,.sl a1 9 es c1]) N') ?_ ?_ N1 (oF _) hQ
  ·intro i hlt _ N' hN' hQ'
   refine uV _ _ _ _ _ _ _ _ ?_
   repeat' first|with_reducible intro _|simp only[hlt,Y1,Y2,Y3,Y4]|with_reducible refine X ?_ ?_|refine⟨_,_,_,rfl,?_⟩|refine⟨_,rfl,?_⟩|refine And.intro (by first|omega|trivial|(show _=_;rfl)|(with_reducible constructor)<;>first|omega|trivial|rfl) ?_|fail
   exact hQ' _ (by omega)
  ·intro i x xs hat _ ih2 N' hN' hQ'
   have hb:=hat.b
   have hxc:=zP hat.m
   simp only [yU] at hQ'
   refine uV _ _ _ _ _ _ _ _ ?_
   repeat' first|with_reducible intro _|simp only[hat.lt,hat.w,oG,Y1,Y2,Y3,Y4]|with_reducible refine X ?_ ?_|refine⟨_,_,_,rfl,?_⟩|refine⟨_,rfl,?_⟩|refine And.intro (by first|omega|trivial|(show _=_;rfl)|(with_reducible constructor)<;>first|omega|trivial|rfl) ?_|refine (ih x hat.m _ hat.r (node.sub x hat.m) v a c (by omega)) _ _ ?_|fail
   ·rename_i h _ _
    exact Qb (hQ' _ (by omega)) (by rw [h];rfl)
   ·rename_i h
    exact ih2 _ (by omega) fun N'' h2=>Qb (hQ' N'' (by omega)) (by rw [h];rfl)
 -- the bindings, the last first
 have look:∀ (hk:k=1) (i:Nat),i<=v.length->∀ N1,N<=N1->(∀ N',N1<=N'->Q ((um nm (v.take i)).getD (yU l v)) N')->xf Q N a (v.map bdD) c ((i:Int) - 1) (.ag [.lit (.int .i64 k),.lit (.string nm),.lit (.string ot),.lit (.int .i64 n0),t0,t1,r0,r1,.sl a1 9 es c1]) N1:=by
  intro hk i
  induction i with
  | zero=>
    intro hi N1 hN1 hQ1
    refine tn _ _ _ _ _ _ _ _ ?_
    have e:decide (((0:Nat):Int) - 1≥0)=false:=by simp
    repeat' first|with_reducible intro _|simp only[e,Y1,Y2,Y3,Y4]|with_reducible refine X ?_ ?_|refine⟨_,_,_,rfl,?_⟩|refine⟨_,rfl,?_⟩|refine And.intro (by first|omega|trivial|(show _=_;rfl)|(with_reducible constructor)<;>first|omega|trivial|rfl) ?_|fail
    exact parts Q N N1 fun N' h=>Qb (hQ1 N' h) rfl
  | succ i ihi=>
    intro hi N1 hN1 hQ1
    have hlt:i<v.length:=by omega
    have hg:v[i]?=some v[i]:=oD hlt
    have hgd:=zPi hg
    refine tn _ _ _ _ _ _ _ _ ?_
    have e0:(((i+1:Nat):Int) - 1)=(i:Int):=by omega
    have e:decide ((i:Int)≥0)=true:=nY (by omega)
    have ew:IntKind.i64.wrap ((i:Int) - 1)=(i:Int) - 1:=i64_in _ (by omega)
    rw [e0]
    rw [zY hg,uQ] at hQ1
    repeat' first|with_reducible intro _|simp only[e,ew,oG,hgd,bdD,nn,eq_self,Y1,Y2,Y3,Y4]|with_reducible refine X ?_ ?_|refine⟨_,_,_,rfl,?_⟩|refine⟨_,rfl,?_⟩|refine And.intro (by first|omega|trivial|(show _=_;rfl)|(with_reducible constructor)<;>first|omega|trivial|rfl) ?_|fail
    ·rename_i hs _ _
     exact Qb (hQ1 _ (by omega)) (by rw [if_pos hs];rfl)
    ·rename_i hs
     exact ihi (by omega) N1 (by omega) fun N' h=>Qb (hQ1 N' h) (by rw [if_neg hs])
 refine zDh N _ a _ c Q fun _ _=>?_
 simp only [Tm.late] at hQ
 refine ⟨_,rfl,Br.beq (fun hk=>?_) fun hk=>Br.beq (fun hk8=>?_) fun hk8=>?_⟩
 ·rw [if_pos hk] at hQ
  rw [hvl,i64_in _ (by omega)]
  exact look hk v.length (oF _) N (oF _) (by rw [mS];exact hQ)
 ·rw [if_neg hk,if_pos hk8] at hQ
  have har:=node.ar
  subst hk8
  rw [show tq 8 nm=2 from rfl] at har
  obtain ⟨x0,x1,d0,d1,rfl,rfl,h0,h1⟩:=ve hes har
  simp only [zJ] at hc
  simp only [zBv,yU,Bool.or_false] at hQ
  have hp0:=x0.cnt_pos
  refine ⟨_,_,_,rfl,⟨by omega,by simp⟩,fun N1 hN1=>?_⟩
  refine ih x0 (by simp) d0 h0 (node.sub _ (by simp)) v a c (by omega) N1 _ fun N2 hN2 _=>Br.of (fun hb N3 hN3=>?_) fun hb=>?_
  ·exact Qb (hQ _ (by omega)) (by rw [hb];rfl)
  ·refine ⟨_,_,_,rfl,⟨by omega,by simp⟩,_,rfl,fun N4 hN4=>?_⟩
   refine zLz v (by omega) a c nm _ N4 _ fun a2 c2 N5 hN5 _ _ N6 hN6=>?_
   refine ih x1 (by simp) d1 h1 (node.sub _ (by simp)) _ a2 c2 (by simp;omega) N6 _ fun N7 hN7 _ N8 hN8=>?_
   exact Qb (hQ _ (by omega)) (by rw [hb];simp)
 ·rw [if_neg hk,if_neg hk8] at hQ
  exact parts Q N N hQ
theorem qF {g:List Pm} {e:Tm} (h:(yd g e).isSome=true):zAf g=true/\e.vd=true/\e.isB=true:=by
 unfold yd at h
 split at h
 ·assumption
 ·cases h
theorem zOI {e:Tm} (h:e.vd=true):e.ok=true:=by
 simp only [Tm.vd,oI] at h
 exact h.2
def plB (p:Pl):Bd:=(p.1,p.2.2)
theorem zKj (nm:ByteArray) (v:List Pl):(zGz nm v).2.2=(um nm (v.map plB)).getD false:=by
 unfold zGz um
 rw [<-List.map_reverse,List.find?_map]
 generalize v.reverse=u
 induction u with
 | nil=>rfl
 | cons x u ih=>
   by_cases h:x.1=nm
   ·simp [plB,h]
   ·simp only [List.find?_cons,Function.comp,plB,h,decide_false] at ih ⊢
    exact ih
theorem zGU:∀ v:List Pl,zD (v.map plD)=[]
 | []=>rfl
 | b::v=>by simp only [oU,zD,zGU v];rfl
theorem zMI:∀ v:List Pl,xa (v.map plD)
 | []=>trivial
 | b::v=>⟨⟨trivial,trivial,trivial,trivial⟩,zMI v⟩
theorem zOC {N N':Nat} (v:List Pl):OwnL N N' (v.map plD):=⟨by rw [zGU];simp,zMI v,by rw [zGU];simp,by rw [zGU];simp⟩
/-- returns these places, its own or those handed in -/
def zPs (f:FuncId) (args:List PV) (v:List Pl):Prop:=∀ (N:Nat) (Q:QT [.sl 3]),(∀ a c N',N<=N'->Q a (v.map plD) c N')->ACalls prog f [.sl 3] args N Q
theorem zMG (v:List Pl) (hv:v.length<=1073741824) (a:Option Addr) (c:Nat) (N:Nat) (Q:QT [.row 143 3]) (hQ:∀ c' N',N<=N'->Q (v.map plD) c' N'):ACalls prog 192 [.row 143 3] [.sv a 3 (v.map plD) c] N Q:=by
 have main:(a=none->v.map plD=[])->ACalls prog 192 [.row 143 3] [.sv a 3 (v.map plD) c] N Q:=fun hn=>by
  refine vU N a _ c Q fun _=>Br.of (fun hi N1 hN1=>?_) fun _=>⟨⟨rfl,rfl⟩,?_,fun c2=>⟨⟨rfl,rfl⟩,fun N2 hN2=>?_⟩⟩
  ·have:=hn (by simpa using hi)
   have h2:=hQ 0 N1 hN1
   rwa [this] at h2
  ·unfold zA;simp;omega
  ·exact hQ _ _ hN2
 cases a with
 | some ad=>exact main (by simp)
 | none=>
   by_cases hne:v.map plD=[]
   ·exact main fun _=>hne
   ·exact zNw (z:=3) (c:=c) (es:=v.map plD) (by kernel_rfl) (by simp) hne
theorem zIV (v:List Pl) (hv:v.length<=1073741824) (p:Pl) (a:Option Addr) (c:Nat) (N:Nat) (Q:QT [.sl 3]) (hQ:∀ a' c' N',N<=N'->Own N N' (.sl a' 3 ((v++[p]).map plD) c')->Q a' ((v++[p]).map plD) c' N') :
  ACalls prog 136 [.sl 3] [.sv a 3 (v.map plD) c,.dg 3 (plD p)] N Q:=by
 refine zAk N a _ c _ Q fun _ _ N1 hN1=>?_
 refine zMG v hv a c N1 _ fun c2 N2 hN2 _ _=>⟨⟨rfl,rfl⟩,?_,fun c3=>⟨⟨rfl,rfl⟩,⟨rfl,rfl⟩,fun a3 N3 hN3 hf N4 hN4=>?_⟩⟩
 ·unfold zA;simp;omega
 ·have e:v.map plD++[plD p]=(v++[p]).map plD:=by simp
  rw [e] at hf ⊢
  exact hQ _ _ _ (by omega) ((rr (N1:=N3) (zOC _) hf (oF _)).mono (oF _) hN4)
/-- the parts behind a let's first know its name -/
def vL (k:Int) (nm:ByteArray) (b:Bool) (v:List Pl) (i:Nat):List Pl:=if k=8/\i≠0 then v++[(nm,0,b)] else v
theorem zJK {k:Int} {nm ot:ByteArray} {n0:Int} {t0 t1 r0 r1:D} {a1:Option Addr} {es:List D} {c1:Nat} (v:List Pl) (hv:v.length<=1073741824) (a:Option Addr) (c:Nat) (i:Nat) (b:Bool)
  (hes:k=8->es≠[]) (ih:k=8->wm 66 [.sv a 3 (v.map plD) c,.dg 9 (es.getD 0 default)] b) :
  zPs 138 [.sv a 3 (v.map plD) c,.dg 9 (.ag [.lit (.int .i64 k),.lit (.string nm),.lit (.string ot),.lit (.int .i64 n0),t0,t1,r0,r1,.sl a1 9 es c1]),.int .i64 i] (vL k nm b v i):=fun N Q hQ=>by
 refine rP N a _ c _ i Q fun _ _=>⟨_,rfl,Br.bne (fun hk N1 hN1=>?_) fun hk=>Br.beq (fun hi N2 hN2=>?_) fun hi=>?_⟩
 ·rw [vL,if_neg (by simp [hk])] at hQ;exact hQ _ _ _ hN1
 ·rw [vL,if_neg (by simp;omega)] at hQ;exact hQ _ _ _ hN2
 ·rw [vL,if_pos ⟨hk,by omega⟩] at hQ
  have hne:=mc.2 (hes hk)
  refine ⟨_,rfl,_,_,_,rfl,⟨by omega,by omega⟩,fun N3 hN3=>?_⟩
  refine ih hk N3 _ fun N4 hN4 _ N5 hN5=>?_
  refine zIV v hv (nm,0,b) a c N5 _ fun a2 c2 N6 hN6 _ _ _ N7 hN7=>?_
  exact hQ _ _ _ (by omega)
theorem zB3:∀ (t:Tm) (d:D),t.Is d->t.ok=true->∀ (v:List Pl) (a:Option Addr) (c:Nat),v.length+t.cnt<=1073741824->wm 66 [.sv a 3 (v.map plD) c,.dg 9 d] (t.late (v.map plB)):=by
 refine Tm.ind fun k nm ot n0 ty re l ih d hd hok v a c hc N Q hQ=>?_
 obtain ⟨t0,t1,r0,r1,a1,es,c1,rfl,hh,hlen,hes⟩:=Tm.is_mk.1 hd
 have node:=zX hok
 simp only [Tm.cnt] at hc
 have hvl:(v.map plD).length=v.length:=by simp
 refine uy N a _ c _ Q fun _ _=>?_
 simp only [Tm.late] at hQ
 refine ⟨_,rfl,Br.beq (fun hk=>?_) fun hk=>?_⟩
 ·rw [if_pos hk] at hQ
  have har:=node.ar
  subst hk
  rw [show tq 1 nm=0 from rfl] at har
  have hl0:l=[]:=oR (by omega)
  subst hl0
  refine ⟨_,rfl,fun N1 hN1=>?_⟩
  refine zN0 v a c nm (by omega) N1 _ fun N2 hN2 _ _=>⟨_,rfl,fun N3 hN3=>?_⟩
  exact Qb (hQ _ (by omega)) (by rw [zKj];rfl)
 ·rw [if_neg hk] at hQ
  refine ⟨_,_,_,rfl,?_⟩
  have hlp:k=8->∃ x0 x1,l=[x0,x1]:=fun h8=>by
   have har:=node.ar
   subst h8
   rw [show tq 8 nm=2 from rfl] at har
   obtain ⟨x0,x1,_,_,h,_⟩:=ve hes har
   exact ⟨x0,x1,h⟩
  have hd0:∀ x0 rest,l=x0::rest->x0.Is (es.getD 0 default):=fun x0 rest h=>by
   refine hes.get (i:=0) ?_
   rw [h];rfl
  obtain ⟨b0,hb0⟩:∃ b0,b0=((l.head?.map fun x0=>x0.late (v.map plB)).getD false):=⟨_,rfl⟩
  have hv8:v.length+1<=1073741824\/l=[]:=by
   cases l with
   | nil=>exact .inr rfl
   | cons x xs=>left;simp only [zJ] at hc;have:=x.cnt_pos;omega
  refine up hes hlen (fun i xs=>∀ (N':Nat),N<=N'->(i=0->xs=l)->(∀ N'',N'<=N''->Q (if k=8 then (if i=0 then zBv xs nm (v.map plB) else yU xs ((v++[(nm,0,b0)]).map plB)) else yU xs (v.map plB)) N'') ->
   zr Q N a (v.map plD) c a1 es c1 es.length i (.ag [.lit (.int .i64 k),.lit (.string nm),.lit (.string ot),.lit (.int .i64 n0),t0,t1,r0,r1,.sl a1 9 es c1]) N') ?_ ?_ N (oF _) (fun _=>rfl) (by simpa using hQ)
  ·intro i hlt _ N' hN' h0 hQ'
   refine xU _ _ _ _ _ _ _ _ _ _ _ _ ?_
   repeat' first|with_reducible intro _|simp only[hlt,Y1,Y2,Y3,Y4]|with_reducible refine X ?_ ?_|refine⟨_,_,_,rfl,?_⟩|refine⟨_,rfl,?_⟩|refine And.intro (by first|omega|trivial|(show _=_;rfl)|(with_reducible constructor)<;>first|omega|trivial|rfl) ?_|fail
   exact Qb (hQ' _ (by omega)) (by simp [yU,zBv])
  ·intro i x xs hat _ ih2 N' hN' h0 hQ'
   have hb:=hat.b
   have hxc:=zP hat.m
   refine xU _ _ _ _ _ _ _ _ _ _ _ _ ?_
   have hins:=zJK (k:=k) (nm:=nm) (ot:=ot) (n0:=n0) (t0:=t0) (t1:=t1) (r0:=r0) (r1:=r1) (a1:=a1) (es:=es) (c1:=c1) v (by omega) a c i b0 (fun h8 hc=>by
    have:=hes.len;obtain ⟨x0,x1,hl⟩:=hlp h8;rw [hc,hl] at this;simp at this) (fun h8=>by
    obtain ⟨x0,x1,hl⟩:=hlp h8
    have hx0:x0∈l:=by rw [hl];simp
    have hcx:=zP hx0
    have hbe:b0=x0.late (v.map plB):=by rw [hb0,hl];rfl
    rw [hbe]
    exact ih x0 hx0 _ (hd0 x0 [x1] hl) (node.sub _ hx0) v a c (by omega))
   have hvl8:(vL k nm b0 v i).length+x.cnt<=1073741824:=by
    unfold vL
    split<;>first | (simp;omega) | omega
   repeat' first|with_reducible intro _|simp only[hat.lt,hat.w,oG,Y1,Y2,Y3,Y4]|with_reducible refine X ?_ ?_|refine⟨_,_,_,rfl,?_⟩|refine⟨_,rfl,?_⟩|refine And.intro (by first|omega|trivial|(show _=_;rfl)|(with_reducible constructor)<;>first|omega|trivial|rfl) ?_|refine hins _ _ ?_|refine (ih x hat.m _ hat.r (node.sub x hat.m) (vL k nm b0 v i) _ _ hvl8) _ _ ?_|fail
   ·rename_i h _ _
    refine Qb (hQ' _ (by omega)) ?_
    unfold vL at h
    by_cases hk8:k=8
    ·by_cases hi:i=0
     ·rw [if_neg (by simp [hi])] at h;simp [hk8,hi,zBv,h]
     ·rw [if_pos ⟨hk8,hi⟩] at h;rw [if_pos hk8,if_neg hi,yU,h];rfl
    ·rw [if_neg (by simp [hk8])] at h;simp [hk8,yU,h]
   ·rename_i h
    refine ih2 _ (by omega) (fun hc=>by omega) fun N'' h2=>Qb (hQ' N'' (by omega)) ?_
    unfold vL at h
    by_cases hk8:k=8
    ·by_cases hi:i=0
     ·rw [if_neg (by simp [hi])] at h
      have hlx:=h0 hi
      have hbe:b0=false:=by rw [hb0,<-hlx];simpa using h
      simp [hk8,hi,zBv,h,hbe,plB]
     ·rw [if_pos ⟨hk8,hi⟩] at h
      rw [if_pos hk8,if_neg hi,if_pos hk8,if_neg (by omega),yU,h];rfl
    ·rw [if_neg (by simp [hk8])] at h;simp [hk8,yU,h]
end Go.Proofs.YtkdjhkfiolhkiaaGreat
