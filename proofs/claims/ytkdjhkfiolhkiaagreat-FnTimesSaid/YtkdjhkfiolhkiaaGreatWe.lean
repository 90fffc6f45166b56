/- Which parts of a body come late, one by one: lists of truth values; the reference and the program. -/
import Derived.Test.YtkdjhkfiolhkiaaGreatWp
import Derived.Test.YtkdjhkfiolhkiaaGreatWm
set_option linter.unusedVariables false
set_option linter.unusedSimpArgs false
namespace Go.Proofs.YtkdjhkfiolhkiaaGreat
open Go Go.Proofs Go.Proofs.Tryz Go.IntWalk
def zm (l:List Bool):List D:=l.map fun b=>.lit (.bool b)
theorem vS (l:List Bool):(zm l).length=l.length:=by simp [zm]
theorem zBG (l m:List Bool):zm l++zm m=zm (l++m):=by simp [zm]
theorem te:∀ l:List Bool,zD (zm l)=[]
 | []=>rfl
 | s::l=>by simp only [zm,o4,zD,D.foot,oT];exact te l
theorem zDH:∀ l:List Bool,xQ (zm l)
 | []=>trivial
 | s::l=>⟨trivial,zDH l⟩
theorem zDQ {N N':Nat} (l:List Bool):OwnL N N' (zm l):=⟨by rw [te];simp,zDH l,by rw [te];simp,by rw [te];simp⟩
theorem pD:∀ l:List Bool,All2 (fun b d=>d=.lit (.bool b)) l (zm l)
 | []=>rfl
 | s::l=>⟨_,_,rfl,rfl,pD l⟩
mutual
def Tm.times:Tm->List Bd->List Bool
 | .mk k nm ot n ty re l,v=>(Tm.mk k nm ot n ty re l).late v::(if k=8 then zIH l nm v else zJt l v)
def zJt:List Tm->List Bd->List Bool
 | [],_=>[]
 | t::ts,v=>t.times v++zJt ts v
def zIH:List Tm->ByteArray->List Bd->List Bool
 | [],_,_=>[]
 | t::ts,nm,v=>t.times v++zJt ts (v++[(nm,t.late v)])
end
mutual
theorem Tm.times_len:∀ (t:Tm) (v:List Bd),(t.times v).length=t.sz
 | .mk k nm ot n ty re l,v=>by
   simp only [Tm.times,Tm.sz,oJ]
   have h1:=zGS l v;have h2:=zNB l nm v
   split<;>omega
theorem zGS:∀ (l:List Tm) (v:List Bd),(zJt l v).length=tG l
 | [],_=>rfl
 | t::ts,v=>by simp only [zJt,tG,oI];rw [t.times_len v,zGS ts v]
theorem zNB:∀ (l:List Tm) (nm:ByteArray) (v:List Bd),(zIH l nm v).length=tG l
 | [],_,_=>rfl
 | t::ts,nm,v=>by simp only [zIH,tG,oI];rw [t.times_len v,zGS ts]
end
/-- returns these truth values in memory of its own -/
def zNq (f:FuncId) (args:List PV) (l:List Bool):Prop:=∀ (N:Nat) (Q:QT [.sl 0]),(∀ a c N',N<=N'->Own N N' (.sl a 0 (zm l) c)->Q a (zm l) c N')->ACalls prog f [.sl 0] args N Q
/-- what is still to come ahead of part i -/
def zAN (k:Int) (nm:ByteArray) (b0:Bool) (v:List Bd) (i:Nat) (xs:List Tm):List Bool:=if k=8 then (if i=0 then zIH xs nm v else zJt xs (v++[(nm,b0)])) else zJt xs v
theorem zFG {k:Int} {nm:ByteArray} {b0:Bool} {v:List Bd} {i:Nat}:zAN k nm b0 v i []=[]:=by
 unfold zAN;split
 ·split<;>rfl
 ·rfl
theorem zCW {k:Int} {nm:ByteArray} {b0:Bool} {v:List Bd} {i:Nat} {x:Tm} {xs:List Tm} (h0:i=0->b0=x.late v) :
  zAN k nm b0 v i (x::xs)=x.times (if k=8/\i≠0 then v++[(nm,b0)] else v)++zAN k nm b0 v (i+1) xs:=by
 unfold zAN
 by_cases hk:k=8
 ·by_cases hi:i=0
  ·rw [if_pos hk,if_pos hi,if_neg (by simp [hi]),if_pos hk,if_neg (by omega),zIH,h0 hi]
  ·rw [if_pos hk,if_neg hi,if_pos ⟨hk,hi⟩,if_pos hk,if_neg (by omega),zJt]
 ·rw [if_neg hk,if_neg (by simp [hk]),if_neg hk,zJt]
theorem zEm {k:Int} {nm ot:ByteArray} {n:Int} {ty re:Ty} {l:List Tm} {b0:Bool} {v:List Bd}:(Tm.mk k nm ot n ty re l).times v=[(Tm.mk k nm ot n ty re l).late v]++zAN k nm b0 v 0 l:=by
 simp only [Tm.times,zAN,mL];rfl
theorem zKq:∀ (t:Tm) (d:D),t.Is d->t.ok=true->∀ (v:List Bd) (a:Option Addr) (c:Nat),v.length+t.cnt<=1073741824->zNq 71 [.dg 9 d,.sv a 2 (v.map bdD) c] (t.times v):=by
 refine Tm.ind fun k nm ot n0 ty re l ih d hd hok v a c hc N Q hQ=>?_
 have hlate:=zDZ _ d hd hok v a c hc
 have hsz:=(Tm.mk k nm ot n0 ty re l).times_len v
 have hszc:=(Tm.mk k nm ot n0 ty re l).sz_cnt
 obtain ⟨t0,t1,r0,r1,a1,es,c1,rfl,hh,hlen,hes⟩:=Tm.is_mk.1 hd
 have node:=zk hok
 simp only [Tm.cnt] at hc hszc
 have hlp:k=8->∃ x0 x1,l=[x0,x1]/\x0.Is (es.getD 0 default)/\es.length=2:=fun h8=>by
  have har:=node.ar
  subst h8
  rw [show zAv 8 nm=2 from rfl] at har
  obtain ⟨x0,x1,d0,d1,h,he,h0,_⟩:=sS hes har
  exact ⟨x0,x1,h,by rw [he];exact h0,by rw [he];rfl⟩
 obtain ⟨b0,hb0⟩:∃ b0,b0=((l.head?.map fun x0=>x0.late v).getD false):=⟨_,rfl⟩
 have htop:=zEm (k:=k) (nm:=nm) (ot:=ot) (n:=n0) (ty:=ty) (re:=re) (l:=l) (b0:=b0) (v:=v)
 refine zDO N _ a _ c Q fun _ _ N1 hN1=>hlate N1 _ fun N2 hN2 _=>?_
 have key:=up hes hlen (fun i xs=>∀ (done:List Bool) (q N':Nat),N<=N'->(i=0->xs=l)->(∀ y∈xs,y∈l)->done++zAN k nm b0 v i xs=(Tm.mk k nm ot n0 ty re l).times v ->
  yF Q N a (v.map bdD) c (zm done).length q i (.ag [.lit (.int .i64 k),.lit (.string nm),.lit (.string ot),.lit (.int .i64 n0),t0,t1,r0,r1,.sl a1 9 es c1]) (zm done) q N') ?_ ?_
 ·exact key [_] 1 N2 (by omega) (fun _=>rfl) (fun y h=>h) htop.symm
 ·intro i hlt _ done q N' hN' _ _ hdn
  rw [zFG,nH] at hdn
  subst hdn
  refine u4 _ _ _ _ _ _ _ _ _ _ _ _ ?_
  repeat' first|with_reducible intro _|simp only[hlt,Y1,Y2,Y3,Y4]|with_reducible refine X ?_ ?_|refine⟨_,_,_,rfl,?_⟩|refine⟨_,rfl,?_⟩|refine And.intro (by first|omega|trivial|(show _=_;rfl)|(with_reducible constructor)<;>first|omega|trivial|rfl) ?_|fail
  rename_i a9 N11 hN11 hf N12 hN12
  exact hQ _ _ _ (by omega) ((uL (N1:=N11) (zDQ _) hf (oE _)).mono (oE _) hN12)
 ·intro i x xs hat _ ih2 done q N' hN' h0 hsub hdn
  have hb:=hat.b
  have hxc:=zO hat.m
  rw [zCW (fun hi=>by rw [hb0,<-h0 hi];rfl),<-nG] at hdn
  have hlen2:=mW List.length hdn
  simp only [oI] at hlen2
  have hap:∀ w:List Bool,w.length<=x.sz->zA (zm done) (zm w) 1:=fun w hw=>by
   have:=x.sz_cnt
   unfold zA;rw [oI,vS,vS];omega
  refine u4 _ _ _ _ _ _ _ _ _ _ _ _ ?_
  by_cases h8:k=8/\i≠0
  ·obtain ⟨h8,hi0⟩:=h8
   obtain ⟨x0,x1,hl2,hx0,hes2⟩:=hlp h8
   have hx0l:x0∈l:=by rw [hl2];simp
   have hi1:i=1:=by omega
   have hv1:v.length+1+x.cnt<=1073741824:=by omega
   have hc0:=zO hx0l
   have hbe:b0=x0.late v:=by rw [hb0,hl2];rfl
   rw [if_pos ⟨h8,hi0⟩] at hdn
   subst hi1
   subst h8
   have hxl:=(x.times_len (v++[(nm,b0)]))
   have e1:((((1:Nat):Int))==1)=true:=rfl
   have hwith:=zHa v (by omega) a c nm (x0.late v)
   rw [<-hbe] at hwith
   have hl0:=zDZ x0 _ hx0 (node.sub _ hx0l) v a c (by omega)
   rw [<-hbe] at hl0
   repeat' first|with_reducible intro _|simp only[hat.lt,hat.w,oH,beq_self_eq_true,e1,Y1,Y2,Y3,Y4]|with_reducible refine X ?_ ?_|refine⟨_,_,_,rfl,?_⟩|refine⟨_,rfl,?_⟩|refine And.intro (by first|omega|trivial|(show _=_;rfl)|(with_reducible constructor)<;>first|omega|trivial|rfl) ?_|refine hl0 _ _ ?_|refine hwith _ _ ?_|refine (ih x hat.m _ hat.r (node.sub x hat.m) (v++[(nm,b0)]) _ _ (by simp;omega)) _ _ ?_|fail
   refine ⟨hap _ (by omega),fun c5=>?_⟩
   rw [zBG]
   exact ih2 _ _ _ (by omega) (fun h=>by omega) (fun y hy=>hsub y (oi _ hy)) hdn
  ·rw [if_neg h8] at hdn
   have hxl:=(x.times_len v)
   repeat' first|with_reducible intro _|simp only[hat.lt,hat.w,oH,Y1,Y2,Y3,Y4]|with_reducible refine X ?_ ?_|refine⟨_,_,_,rfl,?_⟩|refine⟨_,rfl,?_⟩|refine And.intro (by first|omega|trivial|(show _=_;rfl)|(with_reducible constructor)<;>first|omega|trivial|rfl) ?_|refine (ih x hat.m _ hat.r (node.sub x hat.m) v a c (by omega)) _ _ ?_|fail
   all_goals first
    | exact absurd ⟨by assumption,by omega⟩ h8
    | (refine ⟨hap _ (by omega),fun c5=>?_⟩
       rw [zBG]
       exact ih2 _ _ _ (by omega) (fun h=>by omega) (fun y hy=>hsub y (oi _ hy)) hdn)
theorem zRj:∀ (t:Tm) (d:D),t.Is d->t.ok=true->∀ (v:List Pl) (a:Option Addr) (c:Nat),v.length+t.cnt<=1073741824->zNq 67 [.sv a 3 (v.map plD) c,.dg 9 d] (t.times (v.map plB)):=by
 refine Tm.ind fun k nm ot n0 ty re l ih d hd hok v a c hc N Q hQ=>?_
 have hlate:=qW _ d hd hok v a c hc
 have hsz:=(Tm.mk k nm ot n0 ty re l).times_len (v.map plB)
 have hszc:=(Tm.mk k nm ot n0 ty re l).sz_cnt
 obtain ⟨t0,t1,r0,r1,a1,es,c1,rfl,hh,hlen,hes⟩:=Tm.is_mk.1 hd
 have node:=zk hok
 simp only [Tm.cnt] at hc hszc
 have hlp:k=8->∃ x0 x1,l=[x0,x1]/\x0.Is (es.getD 0 default)/\es.length=2:=fun h8=>by
  have har:=node.ar
  subst h8
  rw [show zAv 8 nm=2 from rfl] at har
  obtain ⟨x0,x1,d0,d1,h,he,h0,_⟩:=sS hes har
  exact ⟨x0,x1,h,by rw [he];exact h0,by rw [he];rfl⟩
 obtain ⟨b0,hb0⟩:∃ b0,b0=((l.head?.map fun x0=>x0.late (v.map plB)).getD false):=⟨_,rfl⟩
 have htop:=zEm (k:=k) (nm:=nm) (ot:=ot) (n:=n0) (ty:=ty) (re:=re) (l:=l) (b0:=b0) (v:=v.map plB)
 refine zBD N a _ c _ Q fun _ _ N1 hN1=>hlate N1 _ fun N2 hN2 _=>⟨_,_,_,rfl,?_⟩
 have key:=up hes hlen (fun i xs=>∀ (done:List Bool) (q N':Nat),N<=N'->(i=0->xs=l)->done++zAN k nm b0 (v.map plB) i xs=(Tm.mk k nm ot n0 ty re l).times (v.map plB) ->
  yp Q N a (v.map plD) c (zm done).length q a1 es c1 es.length i (.ag [.lit (.int .i64 k),.lit (.string nm),.lit (.string ot),.lit (.int .i64 n0),t0,t1,r0,r1,.sl a1 9 es c1]) (zm done) q N') ?_ ?_
 ·exact key [_] 1 N2 (by omega) (fun _=>rfl) htop.symm
 ·intro i hlt _ done q N' hN' _ hdn
  rw [zFG,nH] at hdn
  subst hdn
  refine uC _ _ _ _ _ _ _ _ _ _ _ _ _ _ _ _ ?_
  repeat' first|with_reducible intro _|simp only[hlt,Y1,Y2,Y3,Y4]|with_reducible refine X ?_ ?_|refine⟨_,_,_,rfl,?_⟩|refine⟨_,rfl,?_⟩|refine And.intro (by first|omega|trivial|(show _=_;rfl)|(with_reducible constructor)<;>first|omega|trivial|rfl) ?_|fail
  rename_i a9 N11 hN11 hf N12 hN12
  exact hQ _ _ _ (by omega) ((uL (N1:=N11) (zDQ _) hf (oE _)).mono (oE _) hN12)
 ·intro i x xs hat _ ih2 done q N' hN' h0 hdn
  have hb:=hat.b
  have hxc:=zO hat.m
  rw [zCW (fun hi=>by rw [hb0,<-h0 hi];rfl),<-nG] at hdn
  have hlen2:=mW List.length hdn
  simp only [oI] at hlen2
  have hap:∀ w:List Bool,w.length<=x.sz->zA (zm done) (zm w) 1:=fun w hw=>by
   have:=x.sz_cnt
   unfold zA;rw [oI,vS,vS];omega
  have hins:=zJ2 (k:=k) (nm:=nm) (ot:=ot) (n0:=n0) (t0:=t0) (t1:=t1) (r0:=r0) (r1:=r1) (a1:=a1) (es:=es) (c1:=c1) v (by omega) a c i b0 (fun h8 hc=>by
   obtain ⟨x0,x1,_,_,hl⟩:=hlp h8;rw [hc] at hl;simp at hl) (fun h8=>by
   obtain ⟨x0,x1,hl,hx0,_⟩:=hlp h8
   have hx0l:x0∈l:=by rw [hl];simp
   have hcx:=zO hx0l
   have hbe:b0=x0.late (v.map plB):=by rw [hb0,hl];rfl
   rw [hbe]
   exact qW x0 _ hx0 (node.sub _ hx0l) v a c (by omega))
  have hi8:(xm k nm b0 v i).map plB=if k=8/\i≠0 then v.map plB++[(nm,b0)] else v.map plB:=by
   unfold xm;split<;>simp [plB]
  rw [<-hi8] at hdn
  have hxl:=x.times_len ((xm k nm b0 v i).map plB)
  have hvl8:(xm k nm b0 v i).length+x.cnt<=1073741824:=by
   unfold xm
   split<;>first | (simp;omega) | omega
  refine uC _ _ _ _ _ _ _ _ _ _ _ _ _ _ _ _ ?_
  repeat' first|with_reducible intro _|simp only[hat.lt,hat.w,oH,Y1,Y2,Y3,Y4]|with_reducible refine X ?_ ?_|refine⟨_,_,_,rfl,?_⟩|refine⟨_,rfl,?_⟩|refine And.intro (by first|omega|trivial|(show _=_;rfl)|(with_reducible constructor)<;>first|omega|trivial|rfl) ?_|refine hins _ _ ?_|refine (ih x hat.m _ hat.r (node.sub x hat.m) (xm k nm b0 v i) _ _ hvl8) _ _ ?_|fail
  refine ⟨hap _ (by omega),fun c5=>?_⟩
  rw [zBG]
  exact ih2 _ _ _ (by omega) (fun h=>by omega) hdn
def yf (g:List Pm) (e:Tm):List Bool:=if (zR g e).isSome then e.times (xI g) else []
theorem qj (g:List Pm) (e:Tm):(yf g e).length<=e.cnt:=by
 unfold yf
 split
 ·rw [e.times_len];exact e.sz_cnt
 ·simp
theorem zGk {N N':Nat}:Own N N' (.sl none 0 (zm []) 0):=⟨by simp [D.foot,zm,zD],⟨by simp,trivial⟩,by simp [D.foot,zm,zD],by simp [D.foot,zm,zD]⟩
theorem qA {g:List Pm} {es:List D} (h:Pms g es) (hg:g.length<=536870000) {e:Tm} {d:D} (he:e.Is d) (hc:e.cnt<=536870000) (a:Option Addr) (c:Nat):zNq 13 [.sv a 4 es c,.dg 9 d] (yf g e):=fun N Q hQ=>by
 refine zD1 N a es c d Q fun _ _ N1 hN1=>?_
 refine xD h (by omega) he hc a c N1 _ fun x N2 hN2 _ _ _=>Br.not (fun hb=>?_) fun hb N5 hN5=>?_
 ·rw [yf,if_neg (by simp [hb])] at hQ
  exact ⟨⟨rfl,rfl⟩,⟨rfl,rfl⟩,fun a3 N3 hN3 hf N4 hN4=>hQ _ _ _ (by omega) ((uL (N1:=N3) (zDQ []) hf (oE _)).mono (oE _) hN4)⟩
 ·rw [yf,if_pos hb] at hQ
  refine zKe h (by omega) a c N5 _ fun a2 c2 N6 hN6 _ _ N7 hN7=>?_
  obtain ⟨_,hv,_⟩:=vz hb
  refine zKq e d he (zLX hv) (xI g) a2 c2 (by rw [zCt];omega) N7 _ fun a4 c4 N8 hN8 own _ _ N9 hN9=>?_
  exact hQ _ _ _ (by omega) (own.mono (by omega) hN9)
theorem rz {g:List Pm} {es:List D} (h:Pms g es) (hg:g.length<=536870000) (hc2:∀ x∈g,x.ty.cnt<=1073741824) {e:Tm} {d:D} (he:e.Is d) (hc:e.cnt<=1048576000 / 2) (a:Option Addr) (c:Nat) :
  zNq 10 [.sv a 4 es c,.dg 9 d] (yf g e):=fun N Q hQ=>by
 refine zEH N a es c d Q fun _ _ N1 hN1=>?_
 refine wD h (by omega) hc2 he hc a c N1 _ fun x N2 hN2 _ _ _ _=>Br.not (fun hb N3 hN3=>?_) fun hb N4 hN4=>?_
 ·rw [yf,if_neg (by simp [hb])] at hQ
  exact hQ _ _ _ (by omega) zGk
 ·rw [yf,if_pos hb] at hQ
  refine zKE h (by omega) a c N4 _ fun a2 c2 N5 hN5 _ _ N6 hN6=>?_
  obtain ⟨_,hv,_⟩:=vz hb
  refine zRj e d he (zLX hv) (zJp g) a2 c2 (by rw [zCF];omega) N6 _ fun a4 c4 N7 hN7 own _ _ N8 hN8=>?_
  rw [zKa] at own ⊢
  exact hQ _ _ _ (by omega) (own.mono (by omega) hN8)
def pw:List Bool->Nat
 | []=>0
 | b::l=>(if b then 1 else 0)+pw l
theorem zFp:∀ l:List Bool,pw l<=l.length
 | []=>oE _
 | b::l=>by simp only [pw,oJ];have:=zFp l;split<;>omega
theorem zM4 (b:Bool):ru 73 [.bool b] ((if b then 1 else 0:Nat):Int):=fun N Q hQ=>zIJ N b Q (Br.of (fun h N1 hN1=>Qi (hQ _ hN1) (by rw [h];rfl)) fun h N1 hN1=>Qi (hQ _ hN1) (by rw [h];rfl))
theorem zRg (b:Bool):ru 72 [.bool b] ((if b then 1 else 0:Nat):Int):=fun N Q hQ=>zKv N b Q (Br.of (fun h N1 hN1=>Qi (hQ _ hN1) (by rw [h];rfl)) fun h N1 hN1=>Qi (hQ _ hN1) (by rw [h];rfl))
theorem qe {g:List Pm} {es:List D} (h:Pms g es) (hg:g.length<=536870000) {e:Tm} {d:D} (he:e.Is d) (hc:e.cnt<=536870000) (a:Option Addr) (c:Nat):ru 15 [.sv a 4 es c,.dg 9 d] (pw (yf g e)):=fun N Q hQ=>by
 have hl:=qj g e
 refine qX N a es c d Q fun _ _ N1 hN1=>?_
 refine qA h hg he hc a c N1 _ fun a2 c2 N2 hN2 _ _ _=>?_
 generalize yf g e=o at *
 have ho:=zFp o
 refine up (pD o) (by rw [vS];omega) (fun i xs=>∀ (m:Nat) (N':Nat),N<=N'->m+pw xs=pw o->yO Q N m a2 (zm o) c2 i N') ?_ ?_ 0 N2 (by omega) (by simp)
 ·intro i hlt _ m N' hN' hm
  refine w4 _ _ _ _ _ _ _ _ ?_
  repeat' first|with_reducible intro _|simp only[hlt,Y1,Y2,Y3,Y4]|with_reducible refine X ?_ ?_|refine⟨_,_,_,rfl,?_⟩|refine⟨_,rfl,?_⟩|refine And.intro (by first|omega|trivial|(show _=_;rfl)|(with_reducible constructor)<;>first|omega|trivial|rfl) ?_|fail
  exact Qi (hQ _ (by omega)) (by simp only [pw] at hm;omega)
 ·intro i x xs hat _ ih2 m N' hN' hm
  have hb:=hat.b
  simp only [pw] at hm
  refine w4 _ _ _ _ _ _ _ _ ?_
  have hd:=hat.r
  repeat' first|with_reducible intro _|simp only[hat.lt,hat.w,oH,hd,Y1,Y2,Y3,Y4]|with_reducible refine X ?_ ?_|refine⟨_,_,_,rfl,?_⟩|refine⟨_,rfl,?_⟩|refine And.intro (by first|omega|trivial|(show _=_;rfl)|(with_reducible constructor)<;>first|omega|trivial|rfl) ?_|refine (zM4 _) _ _ ?_|fail
  rw [i64_in _ (by split<;>omega)]
  have key:=fun N'' (h:N<=N'')=>ih2 (m+if x=true then 1 else 0) N'' h (by omega)
  simp only [Int.natCast_add] at key
  exact key _ (by omega)
theorem xn {g:List Pm} {es:List D} (h:Pms g es) (hg:g.length<=536870000) (hc2:∀ x∈g,x.ty.cnt<=1073741824) {e:Tm} {d:D} (he:e.Is d) (hc:e.cnt<=1048576000 / 2) (a:Option Addr) (c:Nat) :
  ru 14 [.sv a 4 es c,.dg 9 d] (pw (yf g e)):=fun N Q hQ=>by
 have hl:=qj g e
 refine qm N a es c d Q fun _ _ N1 hN1=>?_
 refine rz h hg hc2 he hc a c N1 _ fun a2 c2 N2 hN2 _ _ _=>?_
 generalize yf g e=o at *
 have ho:=zFp o
 refine up (pD o) (by rw [vS];omega) (fun i xs=>∀ (m:Nat) (N':Nat),N<=N'->m+pw xs=pw o->yL Q N m a2 (zm o) c2 (zm o).length i N') ?_ ?_ 0 N2 (by omega) (by simp)
 ·intro i hlt _ m N' hN' hm
  refine w6 _ _ _ _ _ _ _ _ _ ?_
  repeat' first|with_reducible intro _|simp only[hlt,Y1,Y2,Y3,Y4]|with_reducible refine X ?_ ?_|refine⟨_,_,_,rfl,?_⟩|refine⟨_,rfl,?_⟩|refine And.intro (by first|omega|trivial|(show _=_;rfl)|(with_reducible constructor)<;>first|omega|trivial|rfl) ?_|fail
  exact Qi (hQ _ (by omega)) (by simp only [pw] at hm;omega)
 ·intro i x xs hat _ ih2 m N' hN' hm
  have hb:=hat.b
  simp only [pw] at hm
  refine w6 _ _ _ _ _ _ _ _ _ ?_
  have hd:=hat.r
  repeat' first|with_reducible intro _|simp only[hat.lt,hat.w,oH,hd,Y1,Y2,Y3,Y4]|with_reducible refine X ?_ ?_|refine⟨_,_,_,rfl,?_⟩|refine⟨_,rfl,?_⟩|refine And.intro (by first|omega|trivial|(show _=_;rfl)|(with_reducible constructor)<;>first|omega|trivial|rfl) ?_|refine (zRg _) _ _ ?_|fail
  rw [i64_in _ (by split<;>omega)]
  have key:=fun N'' (h:N<=N'')=>ih2 (m+if x=true then 1 else 0) N'' h (by omega)
  simp only [Int.natCast_add] at key
  exact key _ (by omega)
/-- a name and its number -/
abbrev Nb:=ByteArray × Int
def rl (nm:ByteArray) (v:List Nb):Option Int:=(v.reverse.find? fun p=>decide (p.1=nm)).map (·.2)
theorem rW {nm:ByteArray} {v:List Nb} {b:Nb}:rl nm (v++[b])=if b.1=nm then some b.2 else rl nm v:=by
 unfold rl
 rw [md]
 by_cases h:b.1=nm<;>simp [h]
def red (n:Int):Int:=n % 10007
def bI (b:Bool):Int:=if b then 1 else 0
def wW (s:ByteArray) (a b:Int):Int × Bool:=
 if inB a 0 10006=true then (if inB b 0 10006=true then
  (if s=bytes [43] then (red (a+b),true) else if s=bytes [45] then (red (a - b),true) else if s=bytes [42] then (red (a*b),true)
  else if s=bytes [61] then (bI (a==b),true) else if s=bytes [60] then (bI (decide (a<b)),true)
  else if s=bytes [38] then (bI (a==1&&b==1),true) else if s=bytes [124] then (bI (a==1||b==1),true)
  else if s=bytes [33] then (bI (a==0),true) else (0,false)) else (0,false)) else (0,false)
mutual
def Tm.ev:Tm->List Nb->Int
 | .mk k nm _ n _ _ l,v=>if k=1 then (rl nm v).getD n else if k=4 then (wW nm (zHM l 0 v) (zHM l 1 v)).1 else if k=5 then zHM l (2 - zHM l 0 v).toNat v
   else if k=8 then zHM l 1 (v++[(nm,zHM l 0 v)]) else n
def zHM:List Tm->Nat->List Nb->Int
 | [],_,_=>0
 | t::_,0,v=>t.ev v
 | _::ts,i+1,v=>zHM ts i v
end
def zCJ (t:Ty) (n:Int):Bool:=if t.k=2 then inB n 0 1 else inB n 0 10006
theorem zEJ (b:Bool):0<=bI b/\bI b<=1:=by cases b<;>decide
theorem zNA (n:Int):0<=red n/\red n<=10006:=by unfold red;omega
theorem zLB (s:ByteArray) (a b:Int):0<=(wW s a b).1/\(wW s a b).1<=10006:=by
 have h1:=zNA (a+b);have h2:=zNA (a - b);have h3:=zNA (a*b)
 have h4:=zEJ (a==b);have h5:=zEJ (decide (a<b));have h6:=zEJ (a==1&&b==1);have h7:=zEJ (a==1||b==1);have h8:=zEJ (a==0)
 unfold wW
 (repeat' split)<;>constructor<;>first | omega | (simp only;omega)
theorem zIT {s:ByteArray} (n1:¬s=bytes [43]) (n2:¬s=bytes [45]) (n3:¬s=bytes [42]) (a b:Int):0<=(wW s a b).1/\(wW s a b).1<=1:=by
 have h4:=zEJ (a==b);have h5:=zEJ (decide (a<b));have h6:=zEJ (a==1&&b==1);have h7:=zEJ (a==1||b==1);have h8:=zEJ (a==0)
 unfold wW
 rw [if_neg n1,if_neg n2,if_neg n3]
 (repeat' split)<;>constructor<;>first | omega | (simp only;omega)
/-- numbers for the names of a typing -/
structure Fit (v:List Nb) (g:List Tg):Prop where
 len:v.length=g.length
 at_:∀ (i:Nat) (x:Tg) (y:Nb),g[i]?=some x->v[i]?=some y->x.nm=y.1/\zCJ x.ty y.2=true
theorem Fit.snoc {v:List Nb} {g:List Tg} (h:Fit v g) {x:Tg} {y:Nb} (h1:x.nm=y.1) (h2:zCJ x.ty y.2=true):Fit (v++[y]) (g++[x]):=by
 refine ⟨by simp [h.len],fun i a b ha hb=>?_⟩
 by_cases hi:i<g.length
 ·rw [oL hi] at ha
  rw [oL (by have:=h.len;omega)] at hb
  exact h.at_ i a b ha hb
 ·rw [oO (by omega)] at ha
  rw [oO (by have:=h.len;omega),h.len] at hb
  cases hj:i - g.length with
  | zero=>rw [hj] at ha hb;simp at ha hb;subst ha;subst hb;exact ⟨h1,h2⟩
  | succ j=>rw [hj] at ha;simp at ha
theorem zJ6 {v:List Nb} {g:List Tg} (h:Fit v g) (s:ByteArray):∀ n:Nat,n<=g.length->0<=wH g s n->∃ m,rl s (v.take n)=some m/\zCJ (g.getD (wH g s n).toNat tg0).ty m=true
 | 0,_,h0=>by simp [wH] at h0
 | n+1,hn,h0=>by
   have hlt:n<v.length:=by have:=h.len;omega
   have hlg:n<g.length:=by omega
   have hv:v[n]?=some v[n]:=oD hlt
   have hg:g[n]?=some g[n]:=oD hlg
   have hgd:g.getD n tg0=g[n]:=by simp [oA,hg]
   obtain ⟨e1,e2⟩:=h.at_ n _ _ hg hv
   rw [ya hv,rW]
   simp only [wH,hgd] at h0 ⊢
   by_cases hs:g[n].nm=s
   ·rw [if_pos (by rw [<-e1];exact hs),if_pos hs]
    exact ⟨_,rfl,by rw [oH,hgd];exact e2⟩
   ·rw [if_neg (by rw [<-e1];exact hs)]
    rw [if_neg hs] at h0 ⊢
    exact zJ6 h s n (by omega) h0
theorem zPg {v:List Nb} {g:List Tg} (h:Fit v g) {s:ByteArray} {t:Ty} (ht:vA g s 0=some t):∃ m,rl s v=some m/\zCJ t m=true:=by
 unfold vA at ht
 split at ht
 ·cases ht
 ·rename_i h0
  split at ht
  ·cases ht
   have:=zJ6 h s g.length (oE _) (by unfold zU at h0;omega)
   rw [<-h.len,List.take_length] at this
   have e:wH g s v.length=zU g s:=by rw [h.len];rfl
   rw [e] at this
   exact this
  ·cases ht
theorem xz {x:Tm} {ts:List Tm} {g:List Tg} {n:Int} {us:List Ty} (h:zM (x::ts) g n=some us):∃ u vs,x.type g n=some u/\zM ts g n=some vs/\us=u::vs:=by
 simp only [zM] at h
 split at h
 ·rename_i u hu
  split at h
  ·rename_i vs hvs
   cases h
   exact ⟨u,vs,hu,hvs,rfl⟩
  ·cases h
 ·cases h
theorem zIk {n:Int} {t:Ty} (ht:t.k=2) (h:zCJ t n=true):n=0\/n=1:=by
 unfold zCJ at h
 rw [if_pos ht,yI] at h
 omega
theorem zJn {n:Int} {t:Ty} (h:0<=n/\n<=(if t.k=2 then 1 else 10006)):zCJ t n=true:=by
 unfold zCJ
 split at h<;>rename_i hk
 ·rw [if_pos hk,yI];omega
 ·rw [if_neg hk,yI];omega
theorem zJT:∀ (t:Tm),t.ok=true->t.isB=true->∀ (g:List Tg) (v:List Nb),Fit v g->∀ u,t.type g 0=some u->zCJ u (t.ev v)=true:=by
 refine Tm.ind fun k nm ot n ty re l ih hok hb g v hf u hu=>?_
 have node:=zk hok
 simp only [Tm.isB,oK,zCc,na,yI,mB] at hb
 obtain ⟨hbl,hk⟩:=hb
 have ihl:∀ x∈l,∀ g v,Fit v g->∀ u,x.type g 0=some u->zCJ u (x.ev v)=true:=fun x hx=>ih x hx (node.sub x hx) (rd hbl hx)
 have har:=node.ar
 have hfo:=node.f
 simp only [yK,oK] at hfo
 have hin:=hfo.2.2.2.2.1
 rw [yI] at hin
 simp only [Tm.type] at hu
 obtain ⟨hu,hval⟩:=pW hu
 simp only [Tm.ev]
 by_cases h1:k=1
 ·rw [if_pos h1] at hu ⊢
  obtain ⟨m,e1,e2⟩:=zPg hf hu
  rw [e1];exact e2
 rw [if_neg h1] at hu ⊢
 by_cases h4:k=4
 ·subst h4
  rw [if_neg (by omega),if_neg (by omega),if_neg (by omega),if_neg (by omega),if_neg (by omega),if_neg (by omega)] at hu
  rw [if_pos rfl]
  split at hu
  ·rename_i ts hts
   unfold yd at hu
   rw [if_pos rfl] at hu
   unfold zPC at hu
   split at hu
   ·cases hu
    refine zJn ?_
    have hin:=zLB nm (zHM l 0 v) (zHM l 1 v)
    split
    ·rename_i h2
     unfold zBd at h2
     by_cases c1:nm=bytes [43]
     ·simp [c1,tInt,Ty.k] at h2
     by_cases c2:nm=bytes [45]
     ·simp [c1,c2,tInt,Ty.k] at h2
     by_cases c3:nm=bytes [42]
     ·simp [c1,c2,c3,tInt,Ty.k] at h2
     exact zIT c1 c2 c3 _ _
    ·exact hin
   ·cases hu
  ·cases hu
 rw [if_neg h4]
 by_cases h5:k=5
 ·subst h5
  rw [if_neg (by omega),if_neg (by omega),if_neg (by omega),if_neg (by omega),if_neg (by omega),if_neg (by omega)] at hu
  rw [if_pos rfl]
  rw [show zAv 5 nm=3 from rfl] at har
  match l,har with
  | [x0,x1,x2],_=>
    split at hu
    ·rename_i ts hts
     obtain ⟨u0,us0,e0,h6,e3⟩:=xz hts
     obtain ⟨u1,us1,e1,h7,e4⟩:=xz h6
     obtain ⟨u2,us2,e2,h8,e5⟩:=xz h7
     subst e5;subst e4;subst e3
     unfold yd at hu
     rw [if_neg (by omega),if_pos rfl] at hu
     split at hu
     ·rename_i hc
      simp only [mC,me,rU] at hc hu
      cases hu
      have hc0:=zIk hc.1 (ihl x0 (by simp) g v hf _ e0)
      have ev0:zHM [x0,x1,x2] 0 v=x0.ev v:=rfl
      rw [ev0]
      rcases hc0 with hc0 | hc0
      ·rw [hc0];rw [hc.2];exact ihl x2 (by simp) g v hf _ e2
      ·rw [hc0];exact ihl x1 (by simp) g v hf _ e1
     ·cases hu
    ·cases hu
  | [],h=>simp at h
  | [_],h=>simp at h
  | [_,_],h=>simp at h
  | _::_::_::_::_,h=>simp at h;omega
 rw [if_neg h5]
 by_cases h8:k=8
 ·subst h8
  rw [if_neg (by omega),if_neg (by omega),if_neg (by omega),if_pos rfl] at hu
  rw [if_pos rfl]
  rw [show zAv 8 nm=2 from rfl] at har
  match l,har with
  | [x0,x1],_=>
    simp only [wj] at hu
    split at hu
    ·rename_i a ha
     exact ihl x1 (by simp) _ _ (hf.snoc rfl (ihl x0 (by simp) g v hf _ ha)) _ hu
    ·cases hu
  | [],h=>simp at h
  | [_],h=>simp at h
  | _::_::_::_,h=>simp at h;omega
 rw [if_neg h8]
 have hk23:k=2\/k=3:=by omega
 rcases hk23 with rfl | rfl
 ·rw [if_pos rfl] at hu;cases hu
  refine zJn ?_
  simpa [tInt,Ty.k] using hin
 ·rw [if_neg (by omega),if_pos rfl] at hu;cases hu
  refine zJn ?_
  simpa [tBool,Ty.k] using hin
theorem zQb {a b:Int} (ha:0<=a/\a<=10006) (hb:0<=b/\b<=10006):0<=a*b/\a*b<=100120036:=by
 refine ⟨Int.mul_nonneg ha.1 hb.1,?_⟩
 have h1:a*b<=10006*b:=Int.mul_le_mul_of_nonneg_right ha.2 hb.1
 omega
theorem zOD (n:Int):(if Int.tmod n 10007<0 then Int.tmod n 10007+10007 else Int.tmod n 10007)=red n:=by
 unfold red
 by_cases h:0<=n
 ·rw [mK h,if_neg (by omega)]
 ·obtain ⟨m,rfl⟩:∃ m,n = -m:=⟨-n,by omega⟩
  rw [Int.neg_tmod,mK (by omega)]
  split<;>omega
theorem zQ2 (n:Int) : -10007<Int.tmod n 10007/\Int.tmod n 10007<10007:=by
 by_cases h:0<=n
 ·rw [mK h];omega
 ·obtain ⟨m,rfl⟩:∃ m,n = -m:=⟨-n,by omega⟩
  rw [Int.neg_tmod,mK (by omega)]
  omega
theorem zHI (n:Int):ru 194 [.int .i64 n] (red n):=fun N Q hQ=>by
 have hb:=zQ2 n
 have hr:=zOD n
 refine zFv N n Q ⟨by omega,Br.dec (fun h N1 hN1=>?_) fun h N2 hN2=>?_⟩
 ·rw [i64_in _ (by omega)]
  rw [if_pos h] at hr
  exact Qi (hQ _ hN1) hr.symm
 ·rw [if_neg h] at hr
  exact Qi (hQ _ hN2) hr.symm
/-- returns this number and this truth value -/
def zQY (f:FuncId) (args:List PV) (r:Int × Bool):Prop:=∀ (N:Nat) (Q:QT [.int .i64,.bool]),(∀ N',N<=N'->Q r.1 r.2 N')->ACalls prog f [.int .i64,.bool] args N Q
theorem Qp {Q:QT [.int .i64,.bool]} {a b:Int × Bool} {N:Nat} (h:Q a.1 a.2 N) (e:a=b):Q b.1 b.2 N:=e ▸ h
theorem zN9 (b:Bool):ru 73 [.bool b] (bI b):=fun N Q hQ=>zM4 b N Q fun N' h=>Qi (hQ N' h) (by cases b<;>rfl)
theorem qT (s:ByteArray) (a b:Int):zQY 142 [.str s,.int .i64 a,.int .i64 b] (wW s a b):=fun N Q hQ=>by
 refine zDz N s a b Q fun N1 hN1=>xq _ _ _ N1 _ fun N2 hN2 _=>?_
 by_cases ha:inB a 0 10006=true
 rotate_left
 ·have ha:inB a 0 10006=false:=by simpa using ha
  rw [ha]
  simp only [mr,qf]
  have e:wW s a b=(0,false):=by unfold wW;rw [if_neg (by rw [ha];decide)]
  exact fun N3 hN3=>Qp (b:=(0,false)) (hQ N3 (by omega)) e
 rw [ha]
 simp only [mg,pC]
 intro N4 hN4
 refine xq _ _ _ N4 _ fun N5 hN5 _=>?_
 by_cases hb:inB b 0 10006=true
 rotate_left
 ·have hb:inB b 0 10006=false:=by simpa using hb
  rw [hb]
  simp only [mr,qf]
  have e:wW s a b=(0,false):=by unfold wW;rw [if_pos ha,if_neg (by rw [hb];decide)]
  exact fun N3 hN3=>Qp (b:=(0,false)) (hQ N3 (by omega)) e
 rw [hb]
 simp only [mg,pC]
 have hai:=yI.1 ha
 have hbi:=yI.1 hb
 have hm:=zQb hai hbi
 rw [i64_in (a+b) (by omega),i64_in (a - b) (by omega),i64_in (a*b) (by omega)]
 have fin:∀ (x:Int) (y:Bool) (N':Nat),N<=N'->wW s a b=(x,y)->Q x y N':=fun x y N' h e=>Qp (b:=(x,y)) (hQ N' h) e
 unfold wW at fin
 rw [if_pos ha,if_pos hb] at fin
 clear hQ
 repeat' first|with_reducible intro _|simp only[Y1,Y2,Y3,Y4]|with_reducible refine X ?_ ?_|refine⟨_,_,_,rfl,?_⟩|refine⟨_,rfl,?_⟩|refine And.intro (by first|omega|trivial|(show _=_;rfl)|(with_reducible constructor)<;>first|omega|trivial|rfl) ?_|refine (zHI _) _ _ ?_|refine (zN9 _) _ _ ?_|fail
 all_goals
  refine fin _ _ _ (by omega) ?_
  (repeat' split)<;>first | rfl | contradiction | (simp_all;done) | (congr 1;rw [show (a==1)=false by simpa using ‹¬a=1›];rfl)
theorem zEL {t:Ty} {d:D} (hd:t.Is d) (n:Int):w9 74 [.dg 2 d,.int .i64 n] (zCJ t n):=fun N Q hQ=>by
 cases t with
 | mk k l=>
 obtain ⟨a,es,c,rfl,hlen,hes⟩:=Ty.is_mk.1 hd
 refine zEa N _ n Q fun _=>⟨_,rfl,Br.beq (fun h N1 hN1=>?_) fun h N4 hN4=>?_⟩
 ·refine xq _ _ _ N1 _ fun N2 hN2 _ N3 hN3=>Qb (hQ _ (by omega)) ?_
  unfold zCJ;rw [show (Ty.mk k l).k=k from rfl,if_pos h]
 ·refine xq _ _ _ N4 _ fun N2 hN2 _ N3 hN3=>Qb (hQ _ (by omega)) ?_
  unfold zCJ;rw [show (Ty.mk k l).k=k from rfl,if_neg h]
def nbD (b:Nb):D:=.ag [.lit (.string b.1),.lit (.int .i64 b.2)]
theorem zQ4 {v:List Nb} {i:Nat} {b:Nb} (h:v[i]?=some b):(v.map nbD).getD i default=nbD b:=by simp [oA,h]
theorem zEu:∀ {l:List Tm} {g:List Tg} {n:Int} {ts:List Ty},zM l g n=some ts->∀ x∈l,∃ u,x.type g n=some u
 | y::ys,g,n,ts,h,x,hx=>by
   obtain ⟨u,vs,h1,h2,_⟩:=xz h
   rcases oG.1 hx with rfl | hx
   ·exact ⟨u,h1⟩
   ·exact zEu h2 x hx
theorem zEl {k:Int} {nm ot:ByteArray} {n m:Int} {ty re:Ty} {l:List Tm} {g:List Tg} {u:Ty} (h:(Tm.mk k nm ot n ty re l).type g m=some u) (hk:k=4\/k=5):∃ ts,zM l g m=some ts/\yd k nm ts=some u:=by
 simp only [Tm.type] at h
 obtain ⟨h,_⟩:=pW h
 rw [if_neg (by omega),if_neg (by omega),if_neg (by omega),if_neg (by omega),if_neg (by omega),if_neg (by omega),if_neg (by omega)] at h
 split at h
 ·exact ⟨_,by assumption,h⟩
 ·cases h
theorem zOm {nm ot:ByteArray} {n m:Int} {ty re:Ty} {x0 x1:Tm} {g:List Tg} {u:Ty} (h:(Tm.mk 8 nm ot n ty re [x0,x1]).type g m=some u):∃ a,x0.type g m=some a/\x1.type (g++[⟨nm,a,m⟩]) m=some u:=by
 simp only [Tm.type] at h
 obtain ⟨h,_⟩:=pW h
 rw [if_neg (by omega),if_neg (by omega),if_neg (by omega),if_neg (by omega)] at h
 simp only [mL,wj] at h
 split at h
 ·exact ⟨_,by assumption,h⟩
 ·cases h
theorem zQG (s:ByteArray):zHK s=0\/zHK s=1\/zHK s=2:=by unfold zHK;(repeat' split)<;>simp
/-- an operation's parts: one or two -/
theorem zNc {nm ot:ByteArray} {n:Int} {ty re:Ty} {l:List Tm} {es:List D} (h:(Tm.mk 4 nm ot n ty re l).ok=true) (hes:All2 Tm.Is l es):(∃ x0 d0,l=[x0]/\es=[d0]/\x0.Is d0)\/∃ x0 x1 d0 d1,l=[x0,x1]/\es=[d0,d1]/\x0.Is d0/\x1.Is d1:=by
 have node:=zk h
 have har:=node.ar
 have hf:=node.f
 simp only [yK,zAe,oK] at hf
 have hn:=hf.2.2.2.2.2
 simp only [mL,oK,nD] at hn
 rw [show zAv 4 nm=zHK nm from rfl] at har
 have ho:=zQG nm
 match l,es,hes with
 | [x0],_,⟨d0,ds,e1,h0,e2⟩=>subst e2;subst e1;exact .inl ⟨x0,d0,rfl,rfl,h0⟩
 | [x0,x1],_,⟨d0,ds,e1,h0,d1,ds2,e2,h1,e3⟩=>subst e3;subst e2;subst e1;exact .inr ⟨x0,x1,d0,d1,rfl,rfl,h0,h1⟩
 | [],_,_=>simp at har;omega
 | _::_::_::_,_,_=>simp at har;omega
theorem zME:∀ (t:Tm) (d:D),t.Is d->t.ok=true->t.isB=true->∀ (g:List Tg) (u:Ty),t.type g 0=some u->∀ (v:List Nb),Fit v g->∀ (a:Option Addr) (c:Nat),v.length+t.cnt<=1073741824 ->
  ru 75 [.dg 9 d,.sv a 2 (v.map nbD) c] (t.ev v):=by
 refine Tm.ind fun k nm ot n0 ty re l ih d hd hok hb g u hu v hf a c hc N Q hQ=>?_
 obtain ⟨t0,t1,r0,r1,a1,es,c1,rfl,hh,hlen,hes⟩:=Tm.is_mk.1 hd
 have node:=zk hok
 have hb2:=hb
 simp only [Tm.isB,oK,zCc,na,yI,mB] at hb2
 obtain ⟨hbl,hk⟩:=hb2
 simp only [Tm.cnt] at hc
 have hvl:(v.map nbD).length=v.length:=by simp
 have ihl:∀ x∈l,∀ d,x.Is d->∀ g u,x.type g 0=some u->∀ v,Fit v g->∀ a c,v.length+x.cnt<=1073741824->ru 75 [.dg 9 d,.sv a 2 (v.map nbD) c] (x.ev v):=fun x hx d hd=>ih x hx d hd (node.sub x hx) (rd hbl hx)
 refine zDq N _ a _ c Q fun _ _=>⟨_,rfl,Br.beq (fun h1=>?_) fun h1=>Br.beq (fun h4=>?_) fun h4=>Br.beq (fun h5=>?_) fun h5=>Br.beq (fun h8=>?_) fun h8=>?_⟩
 ·-- a name
  simp only [Tm.ev] at hQ
  rw [if_pos h1] at hQ
  have look:∀ (i:Nat),i<=v.length->∀ N1,N<=N1->(∀ N',N1<=N'->Q ((rl nm (v.take i)).getD n0) N')->xe Q N a (v.map nbD) c ((i:Int) - 1) (.ag [.lit (.int .i64 k),.lit (.string nm),.lit (.string ot),.lit (.int .i64 n0),t0,t1,r0,r1,.sl a1 9 es c1]) N1:=by
   intro i
   induction i with
   | zero=>
     intro hi N1 hN1 hQ1
     refine t4 _ _ _ _ _ _ _ _ ?_
     have e:decide (((0:Nat):Int) - 1≥0)=false:=by simp
     repeat' first|with_reducible intro _|simp only[e,Y1,Y2,Y3,Y4]|with_reducible refine X ?_ ?_|refine⟨_,_,_,rfl,?_⟩|refine⟨_,rfl,?_⟩|refine And.intro (by first|omega|trivial|(show _=_;rfl)|(with_reducible constructor)<;>first|omega|trivial|rfl) ?_|fail
     exact Qi (hQ1 _ (by omega)) rfl
   | succ i ihi=>
     intro hi N1 hN1 hQ1
     have hlt:i<v.length:=by omega
     have hg:v[i]?=some v[i]:=oD hlt
     have hgd:=zQ4 hg
     refine t4 _ _ _ _ _ _ _ _ ?_
     have e0:(((i+1:Nat):Int) - 1)=(i:Int):=by omega
     have e:decide ((i:Int)≥0)=true:=ny (by omega)
     have ew:IntKind.i64.wrap ((i:Int) - 1)=(i:Int) - 1:=i64_in _ (by omega)
     rw [e0]
     rw [ya hg,rW] at hQ1
     repeat' first|with_reducible intro _|simp only[e,ew,oH,hgd,nbD,mL,eq_self,Y1,Y2,Y3,Y4]|with_reducible refine X ?_ ?_|refine⟨_,_,_,rfl,?_⟩|refine⟨_,rfl,?_⟩|refine And.intro (by first|omega|trivial|(show _=_;rfl)|(with_reducible constructor)<;>first|omega|trivial|rfl) ?_|fail
     ·rename_i hs _ _
      exact Qi (hQ1 _ (by omega)) (by rw [if_pos hs];rfl)
     ·rename_i hs
      exact ihi (by omega) N1 (by omega) fun N' h=>Qi (hQ1 N' h) (by rw [if_neg hs])
  rw [hvl,i64_in _ (by omega)]
  exact look v.length (oE _) N (oE _) (by rw [List.take_length];exact hQ)
 ·-- an operation
  simp only [Tm.ev] at hQ
  rw [if_neg h1,if_pos h4] at hQ
  subst h4
  obtain ⟨ts,hts,_⟩:=zEl hu (.inl rfl)
  have htm:=zEu hts
  rcases zNc hok hes with ⟨x0,d0,rfl,rfl,i0⟩ | ⟨x0,x1,d0,d1,rfl,rfl,i0,i1⟩
  ·obtain ⟨u0,hu0⟩:=htm x0 (by simp)
   simp only [yG] at hc
   have c0:=ihl x0 (by simp) d0 i0 g u0 hu0 v hf a c (by omega)
   have hap:=qT nm (x0.ev v) 0
   have e1:(([d0]:List D).length:Int)=1:=rfl
   repeat' first|with_reducible intro _|simp only[mC,oJ,oN,Y1,Y2,Y3,Y4]|with_reducible refine X ?_ ?_|refine⟨_,_,_,rfl,?_⟩|refine⟨_,rfl,?_⟩|refine And.intro (by first|omega|trivial|(show _=_;rfl)|(with_reducible constructor)<;>first|omega|trivial|rfl) ?_|refine c0 _ _ ?_|refine hap _ _ ?_|fail
   all_goals first
    | exact Qi (hQ _ (by omega)) rfl
    | (rename_i h _ _;simp at h)
  ·obtain ⟨u0,hu0⟩:=htm x0 (by simp)
   obtain ⟨u1,hu1⟩:=htm x1 (by simp)
   simp only [yG] at hc
   have c0:=ihl x0 (by simp) d0 i0 g u0 hu0 v hf a c (by omega)
   have c1:=ihl x1 (by simp) d1 i1 g u1 hu1 v hf a c (by omega)
   have hap:=qT nm (x0.ev v) (x1.ev v)
   repeat' first|with_reducible intro _|simp only[mC,me,oJ,oN,Y1,Y2,Y3,Y4]|with_reducible refine X ?_ ?_|refine⟨_,_,_,rfl,?_⟩|refine⟨_,rfl,?_⟩|refine And.intro (by first|omega|trivial|(show _=_;rfl)|(with_reducible constructor)<;>first|omega|trivial|rfl) ?_|refine c0 _ _ ?_|refine c1 _ _ ?_|refine hap _ _ ?_|fail
   all_goals first
    | exact Qi (hQ _ (by omega)) rfl
    | (rename_i h _ _;simp at h)
 ·-- a condition
  have hfit:=zJT
  simp only [Tm.ev] at hQ
  rw [if_neg h1,if_neg h4,if_pos h5] at hQ
  subst h5
  obtain ⟨ts,hts,hfm⟩:=zEl hu (.inr rfl)
  obtain ⟨x0,x1,x2,d0,d1,d2,rfl,rfl,i0,i1,i2⟩:=zI7 hes (node.ar.trans rfl)
  obtain ⟨u0,us0,e0,q6,e3⟩:=xz hts
  obtain ⟨u1,us1,e1,q7,e4⟩:=xz q6
  obtain ⟨u2,us2,e2,q8,e5⟩:=xz q7
  subst e5;subst e4;subst e3
  simp only [yG] at hc
  have c0:=ihl x0 (by simp) d0 i0 g u0 e0 v hf a c (by omega)
  have c1:=ihl x1 (by simp) d1 i1 g u1 e1 v hf a c (by omega)
  have c2:=ihl x2 (by simp) d2 i2 g u2 e2 v hf a c (by omega)
  have hu0:u0.k=2:=by
   unfold yd at hfm
   rw [if_neg (by omega),if_pos rfl] at hfm
   split at hfm
   ·rename_i hcc;exact hcc.1
   ·cases hfm
  have hv:=zIk hu0 (zJT x0 (node.sub _ (by simp)) (rd hbl (by simp)) g v hf u0 e0)
  refine ⟨_,_,_,rfl,_,_,_,rfl,⟨by omega,by simp⟩,fun N11 hN11=>c0 N11 _ fun N12 hN12 _=>?_⟩
  have ev0:zHM [x0,x1,x2] 0 v=x0.ev v:=rfl
  rw [ev0] at hQ
  rcases hv with hv | hv
  ·rw [hv] at hQ ⊢
   rw [show IntKind.i64.wrap (2 - 0)=2 from rfl]
   refine ⟨⟨by omega,by simp⟩,fun N13 hN13=>c2 N13 _ fun N14 hN14 _ N15 hN15=>hQ _ (by omega)⟩
  ·rw [hv] at hQ ⊢
   rw [show IntKind.i64.wrap (2 - 1)=1 from rfl]
   refine ⟨⟨by omega,by simp⟩,fun N13 hN13=>c1 N13 _ fun N14 hN14 _ N15 hN15=>hQ _ (by omega)⟩
 ·-- a let
  simp only [Tm.ev] at hQ
  rw [if_neg h1,if_neg h4,if_neg h5,if_pos h8] at hQ
  subst h8
  obtain ⟨x0,x1,d0,d1,rfl,rfl,i0,i1⟩:=sS hes (node.ar.trans rfl)
  obtain ⟨u0,e0,e1⟩:=zOm hu
  simp only [yG] at hc
  have hp0:=x0.cnt_pos
  have c0:=ihl x0 (by simp) d0 i0 g u0 e0 v hf a c (by omega)
  have hf2:=hf.snoc (x:=⟨nm,u0,0⟩) (y:=(nm,x0.ev v)) rfl (zJT x0 (node.sub _ (by simp)) (rd hbl (by simp)) g v hf u0 e0)
  have es1:([]++v.map nbD)++[D.ag [.lit (.string nm),.lit (.int .i64 (x0.ev v))]]=(v++[(nm,x0.ev v)]).map nbD:=by simp [nbD]
  refine ⟨⟨rfl,rfl⟩,by unfold zA;simp;omega,fun c5=>⟨_,_,_,rfl,⟨by omega,by simp⟩,_,rfl,_,_,_,rfl,⟨by omega,by simp⟩,fun N16 hN16=>c0 N16 _ fun N17 hN17 _=>⟨⟨rfl,rfl⟩,by unfold zA;simp;omega,fun c8=>⟨⟨rfl,rfl⟩,fun a7 _ _ N18 hN18 _=>?_⟩⟩⟩⟩
  rw [es1]
  refine ihl x1 (by simp) d1 i1 _ u e1 _ hf2 a7 c8 (by simp;omega) N18 _ fun N19 hN19 _ N20 hN20=>?_
  exact hQ _ (by omega)
 ·simp only [Tm.ev] at hQ
  rw [if_neg h1,if_neg h4,if_neg h5,if_neg h8] at hQ
  exact ⟨_,rfl,fun N21 hN21=>hQ _ hN21⟩
def plN (p:Pl):Nb:=(p.1,p.2.1)
def yj (l:List Int):List D:=l.map fun n=>.lit (.int .i64 n)
theorem v6 (l:List Int):(yj l).length=l.length:=by simp [yj]
theorem zMr {l:List Int} {i:Nat} {b:Int} (h:l[i]?=some b):(yj l).getD i default=.lit (.int .i64 b):=by simp [yj,oA,oF,h]
def v3:List Pm->List Int->Bool
 | [],_=>true
 | p::g,[]=>true
 | p::g,n::ns=>zCJ p.ty n&&v3 g ns
def yC:List Pm->List Int->List Nb
 | p::g,n::ns=>(p.nm,n)::yC g ns
 | _,_=>[]
theorem tP:∀ {g:List Pm} {ns:List Int},ns.length=g.length->(yC g ns).length=g.length
 | [],[],_=>rfl
 | p::g,n::ns,h=>by simp only [yC,oJ] at h ⊢;rw [tP (by omega)]
 | [],_::_,h=>by simp at h
 | _::_,[],h=>by simp at h
theorem qk:∀ {g:List Pm} {ns:List Int} {i:Nat} {p:Pm} {n:Int},g[i]?=some p->ns[i]?=some n->(yC g ns)[i]?=some (p.nm,n)
 | q::g,m::ns,0,p,n,h,h2=>by simp at h h2;subst h;subst h2;rfl
 | q::g,m::ns,i+1,p,n,h,h2=>by simp only [yC,o8] at h h2 ⊢;exact qk h h2
 | [],_,i,p,n,h,h2=>by simp at h
 | _::_,[],i,p,n,h,h2=>by simp at h2
theorem zBB:∀ {g:List Pm} {ns:List Int} {i:Nat} {p:Pm} {n:Int},v3 g ns=true->g[i]?=some p->ns[i]?=some n->zCJ p.ty n=true
 | q::g,m::ns,0,p,n,h0,h,h2=>by
   simp only [v3,oK] at h0
   simp at h h2;subst h;subst h2;exact h0.1
 | q::g,m::ns,i+1,p,n,h0,h,h2=>by
   simp only [v3,oK] at h0
   simp only [o8] at h h2
   exact zBB h0.2 h h2
 | [],_,i,p,n,h0,h,h2=>by simp at h
 | _::_,[],i,p,n,h0,h,h2=>by simp at h2
theorem zMd {g:List Pm} {ns:List Int} (hl:ns.length=g.length) (h:v3 g ns=true):Fit (yC g ns) (yc g):=by
 refine ⟨by rw [tP hl,vm],fun i x y hx hy=>?_⟩
 have hlt:i<g.length:=by have:=(oB.1 hy).1;rw [tP hl] at this;exact this
 have hp:g[i]?=some g[i]:=oD hlt
 have hn:ns[i]?=some (ns[i]'(by omega)):=oD (by omega)
 rw [qk hp hn] at hy
 rw [yc,oF,hp] at hx
 cases hx;cases hy
 exact ⟨rfl,zBB h hp hn⟩
def wi (g:List Pm) (e:Tm) (ns:List Int):Int × Bool:=if (zR g e).isSome=true then (if ns.length=g.length then (if v3 g ns=true then (e.ev (yC g ns),true) else (0,false)) else (0,false)) else (0,false)
theorem zJM {g:List Pm} {e:Tm} (h:(zR g e).isSome=true):∃ u,e.type (yc g) 0=some u:=by
 unfold zR at h
 split at h
 ·exact mf.1 h
 ·cases h
theorem sy {g:List Pm} {es:List D} (h:Pms g es) (hg:g.length<=536870000) {e:Tm} {d:D} (he:e.Is d) (hc:e.cnt<=536870000) (ns:List Int) (hn:ns.length<=1073741824) (a a2:Option Addr) (c c2:Nat) :
  zQY 19 [.sv a 4 es c,.dg 9 d,.sv a2 0 (yj ns) c2] (wi g e ns):=fun N Q hQ=>by
 have hl:=h.all.len
 have hnl:=v6 ns
 refine zDX N a es c d a2 _ c2 Q fun _ _ _ N1 hN1=>?_
 refine xD h (by omega) he hc a c N1 _ fun x N2 hN2 _ _ _=>Br.not (fun hb N3 hN3=>?_) fun hb=>Br.bne (fun hne N4 hN4=>?_) fun heq=>?_
 ·have e1:wi g e ns=(0,false):=by unfold wi;rw [if_neg (by simp [hb])]
  exact Qp (b:=(0,false)) (hQ N3 (by omega)) e1
 ·have e1:wi g e ns=(0,false):=by unfold wi;rw [if_pos hb,if_neg (by omega)]
  exact Qp (b:=(0,false)) (hQ N4 (by omega)) e1
 ·have hnn:ns.length=g.length:=by omega
  obtain ⟨_,hv,hbb⟩:=vz hb
  obtain ⟨u,hu⟩:=zJM hb
  have hnl2:=tP hnn
  have hev:∀ r,v3 g ns=r->wi g e ns=if r=true then (e.ev (yC g ns),true) else (0,false):=fun r hr=>by unfold wi;rw [if_pos hb,if_pos hnn,hr]
  have key:=up h.all h.len (fun i xs=>∀ (q N':Nat),N<=N'->(v3 g ns=v3 xs (ns.drop i))->xK Q N a es c a2 (yj ns) c2 (((yC g ns).take i).map nbD).length q i d (((yC g ns).take i).map nbD) q N') ?_ ?_
  ·exact key 0 N2 (by omega) rfl
  ·intro i hlt hi q N' hN' hfa
   refine uv _ _ _ _ _ _ _ _ _ _ _ _ _ _ _ ?_
   rw [hlt]
   have hft:v3 g ns=true:=by rw [hfa];rfl
   have e1:=hev true hft
   rw [if_pos rfl] at e1
   rw [oe (by omega)]
   refine ⟨⟨rfl,rfl⟩,fun a4 _ _ N4 hN4 _=>?_⟩
   refine zME e d he (zLX hv) hbb (yc g) u hu _ (zMd hnn hft) a4 q (by omega) N4 _ fun N5 hN5 _ N6 hN6=>?_
   exact Qp (b:=(e.ev (yC g ns),true)) (hQ N6 (by omega)) e1
  ·intro i x xs hat hxs ih2 q N' hN' hfa
   have hb2:=hat.b
   have hlt:i<ns.length:=by omega
   have hni:ns[i]?=some ns[i]:=oD hlt
   have hng:=zMr hni
   obtain ⟨t0,t1,hd',hnm,hty⟩:=hat.r
   have hnames:=qk hat.g hni
   have hdr:ns.drop i=ns[i]::ns.drop (i+1):=by rw [mS]
   rw [hdr] at hfa
   simp only [v3] at hfa
   refine uv _ _ _ _ _ _ _ _ _ _ _ _ _ _ _ ?_
   have hsn:((yC g ns).take i).map nbD++[D.ag [.lit (.string x.nm),.lit (.int .i64 ns[i])]]=((yC g ns).take (i+1)).map nbD:=by rw [ya hnames,nP];rfl
   have hml2:(((yC g ns).take (i+1)).map nbD).length<=i+1:=by rw [nO,o0];omega
   have hfit:=zEL hty ns[i]
   repeat' first|with_reducible intro _|simp only[hat.lt,hat.w,oH,hd',hng,mL,eq_self,Y1,Y2,Y3,Y4]|with_reducible refine X ?_ ?_|refine⟨_,_,_,rfl,?_⟩|refine⟨_,rfl,?_⟩|refine And.intro (by first|omega|trivial|(show _=_;rfl)|(with_reducible constructor)<;>first|omega|trivial|rfl) ?_|refine hfit _ _ ?_|fail
   ·have e1:=hev false (by rw [hfa];rename_i hx _ _;rw [hx];rfl)
    exact Qp (b:=(0,false)) (hQ _ (by omega)) e1
   ·refine ⟨by unfold zA;rw [hsn];omega,fun c1=>?_⟩
    rw [hsn]
    refine ih2 _ _ (by omega) ?_
    rename_i hx
    rw [hfa,hx,Bool.true_and]
end Go.Proofs.YtkdjhkfiolhkiaaGreat
