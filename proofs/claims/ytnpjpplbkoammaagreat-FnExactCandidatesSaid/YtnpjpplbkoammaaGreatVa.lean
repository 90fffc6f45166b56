/- Data as plain trees, and what the laws' first look at them (their size) comes to. -/
import Derived.IntWalk
import Derived.Test.YtnpjpplbkoammaaGreatKa
set_option linter.unusedVariables false
namespace Go.Proofs.YtnpjpplbkoammaaGreat
open Go Go.Proofs Go.Proofs.Tryz Go.IntWalk
inductive Ty where
 | mk (k:Int) (l:List Ty)
mutual
/-- data that reads as this type -/
def Ty.Is:Ty→D→Prop
 | .mk k l,d=>∃ a es c,d=.ag [.lit (.int .i64 k),.sl a 2 es c]∧es.length≤4611686018427387904∧TysIs l es
def TysIs:List Ty→List D→Prop
 | [],es=>es=[]
 | t::ts,es=>∃ d ds,es=d::ds∧t.Is d∧TysIs ts ds
end
theorem TysIs.len:∀ {ts:List Ty} {es:List D},TysIs ts es→es.length=ts.length
 | [],es,h=>by simp [TysIs] at h;subst h;rfl
 | t::ts,es,h=>by
   simp only [TysIs] at h
   obtain ⟨d,ds,rfl,_,h⟩:=h
   simp [TysIs.len h]
mutual
def zGQ:Ty→Int→Int
 | .mk _ l,n=>if n - l.length<0 then -1 else zKP l (n - l.length)
def zKP:List Ty→Int→Int
 | [],n=>n
 | t::ts,n=>if zGQ t n<0 then -1 else zKP ts (zGQ t n)
end
theorem Br.of {v:Bool} {A B:Prop} (ht:v=true→A) (hf:v=false→B):Br v A B:=by
 cases v
 ·exact hf rfl
 ·exact ht rfl
theorem sc {pre ds:List D} {d:D}:(pre++d::ds).getD pre.length default=d:=by
 simp [List.getD_eq_getElem?_getD]
mutual
theorem zJo:∀ (t:Ty) (n:Int),0≤n→zGQ t n = -1∨(0≤zGQ t n∧zGQ t n≤n)
 | .mk _ l,n,h=>by
   simp only [zGQ]
   split
   ·exact .inl rfl
   ·rcases zMx l (n - l.length) (by omega) with h | h
    ·exact .inl h
    ·exact .inr (by omega)
theorem zMx:∀ (l:List Ty) (n:Int),0≤n→zKP l n = -1∨(0≤zKP l n∧zKP l n≤n)
 | [],n,h=>.inr (by simp [zKP,h])
 | t :: ts,n,h=>by
   simp only [zKP]
   split
   ·exact .inl rfl
   ·rcases zJo t n h with h1 | h1
    ·omega
    ·rcases zMx ts (zGQ t n) (by omega) with h2 | h2
     ·exact .inl h2
     ·exact .inr (by omega)
end
mutual
theorem zK1:∀ (t:Ty) (d:D),t.Is d→∀ (n:Int),0≤n→n≤1048576→∀ (N:Nat) (Q:QT [.int .i64]),(∀ N',N≤N'→Q (zGQ t n) N')→ACalls prog 18 [.int .i64] [.dg 2 d,.int .i64 n] N Q
 | .mk k l,d,hd,n,h0,h1,N,Q,hQ=>by
   simp only [Ty.Is] at hd
   obtain ⟨a,es,c,rfl,hlen,hts⟩:=hd
   refine zGz N _ n Q fun _=>⟨a,es,c,rfl,fun N1 hN1=>?_⟩
   refine zNL l es hts hlen a c n h0 h1 N1 _ fun N2 hN2 _=>?_
   have hQ':=hQ
   simp only [zGQ] at hQ'
   refine Br.of (fun hc N' hN'=>?_) fun hc N' hN'=>hQ' N' (by omega)
   have hneg:=of_decide_eq_true hc
   have:=hQ' N' (by omega)
   rcases zJo (.mk k l) n h0 with h | h
   ·simp only [zGQ] at h
    rwa [h] at this
   ·simp only [zGQ] at h
    omega
theorem zNL:∀ (l:List Ty) (es:List D),TysIs l es→es.length≤4611686018427387904→∀ (a:Option Addr) (c:Nat) (n:Int),0≤n→n≤1048576→∀ (N:Nat) (Q:QT [.int .i64]),
  (∀ N',N≤N'→Q (if n - l.length<0 then -1 else zKP l (n - l.length)) N')→ACalls prog 45 [.int .i64] [.sv a 2 es c,.int .i64 n] N Q
 | l,es,hes,hlen,a,c,n,h0,h1,N,Q,hQ=>by
   have hl:=hes.len
   refine zFg N a es c n Q fun _=>?_
   rw [i64_in _ (by omega),hl]
   refine Br.of (fun hc N' hN'=>?_) fun hc=>?_
   ·have:=of_decide_eq_true hc
    have:=hQ N' hN'
    rwa [if_pos (by omega)] at this
   ·have hneg:¬(n - l.length<0):=of_decide_eq_false hc
    have hgo:=zPd l es hes [] es rfl hlen a c (n - l.length) (by omega) (by omega) N Q (fun N' hN'=>by have:=hQ N' hN';rwa [if_neg hneg] at this) N (Nat.le_refl _)
    exact hgo
theorem zPd:∀ (l:List Ty) (rest:List D),TysIs l rest→∀ (pre es:List D),es=pre++rest→es.length≤4611686018427387904→∀ (a:Option Addr) (c:Nat) (n:Int),0≤n→n≤1048576→∀ (N:Nat) (Q:QT [.int .i64]),
  (∀ N',N≤N'→Q (zKP l n) N')→∀ N',N≤N'→wg Q N a es c n pre.length N'
 | [],rest,hr,pre,es,he,hlen,a,c,n,h0,h1,N,Q,hQ,N',hN'=>by
   simp [TysIs] at hr
   subst hr
   rw [List.append_nil] at he
   subst he
   refine rD Q N a es c n es.length N' (Br.of (fun hc=>?_) fun _ N2 hN2=>hQ N2 (by omega))
   have:=of_decide_eq_true hc
   omega
 | t::ts,rest,hr,pre,es,he,hlen,a,c,n,h0,h1,N,Q,hQ,N',hN'=>by
   simp only [TysIs] at hr
   obtain ⟨d,ds,rfl,hd,hds⟩:=hr
   subst he
   have hlt:(pre.length:Int)<((pre++d::ds).length:Int):=by simp;omega
   refine rD Q N a _ c n pre.length N' (Br.of (fun _=>⟨⟨by omega,hlt⟩,fun N1 hN1=>?_⟩) fun hc=>absurd hlt (of_decide_eq_false hc))
   rw [Int.toNat_natCast,sc]
   refine zK1 t d hd n h0 h1 N1 _ fun N2 hN2 _=>?_
   rw [i64_in _ (by simp at hlt hlen;omega)]
   have hQ':=hQ
   simp only [zKP] at hQ'
   refine Br.of (fun hc N3 hN3=>?_) fun hc=>?_
   ·have hneg:=of_decide_eq_true hc
    have:=hQ' N3 (by omega)
    rwa [if_pos hneg] at this
   ·have hneg:¬(zGQ t n<0):=of_decide_eq_false hc
    have hle:zGQ t n≤n:=by rcases zJo t n h0 with h | h<;>omega
    have:=zPd ts ds hds (pre++[d]) (pre++d::ds) (by simp) hlen a c (zGQ t n) (by omega) (by omega) N Q (fun N3 hN3=>by have:=hQ' N3 hN3;rwa [if_neg hneg] at this) N2 (by omega)
    have e1:((pre++[d]).length:Int)=(pre.length:Int)+1:=by simp
    rw [e1] at this
    exact this
end
/-- lies in blocks of its own, made between two moments -/
structure OwnL (N N':Nat) (es:List D):Prop where
 nd:(zB es).Nodup
 fl:xd es
 lo:∀ b∈zB es,N≤b
 hi:∀ b∈zB es,b<N'
structure Own (N N':Nat) (d:D):Prop where
 nd:d.foot.Nodup
 fl:d.Flat0
 lo:∀ b∈d.foot,N≤b
 hi:∀ b∈d.foot,b<N'
theorem Own.mono {N1 N2 M1 M2:Nat} {d:D} (h:Own N1 N2 d) (h1:M1≤N1) (h2:N2≤M2):Own M1 M2 d:=⟨h.nd,h.fl,fun b hb=>Nat.le_trans h1 (h.lo b hb),fun b hb=>Nat.lt_of_lt_of_le (h.hi b hb) h2⟩
theorem OwnL.mono {N1 N2 M1 M2:Nat} {es:List D} (h:OwnL N1 N2 es) (h1:M1≤N1) (h2:N2≤M2):OwnL M1 M2 es:=⟨h.nd,h.fl,fun b hb=>Nat.le_trans h1 (h.lo b hb),fun b hb=>Nat.lt_of_lt_of_le (h.hi b hb) h2⟩
theorem sX {N N':Nat}:OwnL N N' []:=⟨by simp [zB],trivial,by simp [zB],by simp [zB]⟩
theorem xv:∀ {a b:List D},xd a→xd b→xd (a++b)
 | [],b,_,h=>h
 | x::a,b,h1,h2=>⟨h1.1,xv h1.2 h2⟩
theorem yB {N N1 N2:Nat} {es fs:List D} (h1:OwnL N N1 es) (h2:OwnL N1 N2 fs) (hN:N≤N1) (hN2:N1≤N2):OwnL N N2 (es++fs):=by
 refine ⟨?_,xv h1.fl h2.fl,fun b hb=>?_,fun b hb=>?_⟩
 ·rw [zF,List.nodup_append]
  refine ⟨h1.nd,h2.nd,fun x hx y hy hxy=>?_⟩
  have:=h1.hi x hx;have:=h2.lo y hy;omega
 ·rw [zF] at hb
  rcases List.mem_append.1 hb with hb | hb
  ·exact h1.lo b hb
  ·have:=h2.lo b hb;omega
 ·rw [zF] at hb
  rcases List.mem_append.1 hb with hb | hb
  ·have:=h1.hi b hb;omega
  ·exact h2.hi b hb
theorem yG {N N':Nat} {d:D} (h:Own N N' d):OwnL N N' [d]:=⟨by simpa [zB] using h.nd,⟨h.fl,trivial⟩,by simpa [zB] using h.lo,by simpa [zB] using h.hi⟩
theorem wA {N N':Nat} {x:Value} {es:List D} (h:OwnL N N' es):OwnL N N' (.lit x::es):=⟨by simpa [zB,D.foot] using h.nd,⟨trivial,h.fl⟩,by simpa [zB,D.foot] using h.lo,by simpa [zB,D.foot] using h.hi⟩
theorem zA1 {N N':Nat} {cs:List D} (h:OwnL N N' cs):Own N N' (.ag cs):=⟨by simpa only [D.foot] using h.nd,h.fl,by simpa only [D.foot] using h.lo,by simpa only [D.foot] using h.hi⟩
theorem rP {N N1 N3:Nat} {a:Option Addr} {z c:Nat} {es ds:List D} (h:OwnL N N1 es) (hf:Fresh N N3 a (.ag es::ds)) (hN:N1≤N3):Own N N3 (.sl a z es c):=by
 cases a with
 | none=>exact ⟨by simpa only [D.foot] using h.nd,⟨by simp,h.fl⟩,by simpa only [D.foot] using h.lo,fun b hb=>by simp only [D.foot] at hb;have:=h.hi b hb;omega⟩
 | some ad=>
   have hap:=hf.ap ad rfl (.ag es) (by simp)
   simp only [D.foot] at hap
   have hsub:∀ b∈(D.sl (some ad) z es c).foot,b=ad.block∨b∈zB es:=fun b hb=>by
    simp only [D.foot] at hb
    split at hb
    ·simp at hb
    ·exact List.mem_cons.1 hb
   refine ⟨?_,⟨fun ad' h'=>by cases h';exact hf.off ad rfl,h.fl⟩,fun b hb=>?_,fun b hb=>?_⟩
   ·simp only [D.foot]
    split
    ·exact List.nodup_nil
    ·exact List.nodup_cons.2 ⟨hap,h.nd⟩
   ·rcases hsub b hb with rfl | hb
    ·exact hf.lo ad rfl
    ·exact h.lo b hb
   ·rcases hsub b hb with rfl | hb
    ·exact hf.hi ad rfl
    ·have:=h.hi b hb;omega
mutual
/-- few enough for a copy -/
def Ty.Sm:Ty→Prop
 | .mk _ l=>l.length≤1073741824∧zMe l
def zMe:List Ty→Prop
 | []=>True
 | t::ts=>t.Sm∧zMe ts
end
theorem TysIs.snoc:∀ {ts:List Ty} {es:List D} {t:Ty} {d:D},TysIs ts es→t.Is d→TysIs (ts++[t]) (es++[d])
 | [],es,t,d,h,h2=>by simp [TysIs] at h;subst h;exact ⟨d,[],rfl,h2,rfl⟩
 | u::ts,es,t,d,h,h2=>by
   simp only [TysIs] at h
   obtain ⟨x,ds,rfl,h3,h4⟩:=h
   exact ⟨x,ds++[d],rfl,h3,TysIs.snoc h4 h2⟩
theorem zCQ {done junk:List D} {x y:D}:(done++y::junk).set done.length x=done++x::junk:=by simp
mutual
theorem zKq:∀ (t:Ty) (d:D),t.Is d→t.Sm→∀ (N:Nat) (Q:QT [.ag 2]),(∀ d' N',N≤N'→t.Is d'→Own N N' d'→Q d' N')→ACalls prog 28 [.ag 2] [.dg 2 d] N Q
 | .mk k l,d,hd,hs,N,Q,hQ=>by
   simp only [Ty.Is] at hd
   obtain ⟨a,es,c,rfl,hlen,hts⟩:=hd
   refine zHU N _ Q fun _=>⟨k,rfl,a,es,c,rfl,fun N1 hN1=>zMi l es hts hlen hs.1 hs.2 a c N1 _ fun a' es' c' N2 hN2 h1 h2 h3 _ _ N3 hN3=>?_⟩
   exact hQ _ N3 (by omega) ⟨a',es',c',rfl,h2,h1⟩ (zA1 (wA (yG (h3.mono hN1 hN3))))
theorem zMi:∀ (l:List Ty) (es:List D),TysIs l es→es.length≤4611686018427387904→l.length≤1073741824→zMe l→∀ (a:Option Addr) (c:Nat) (N:Nat) (Q:QT [.sl 2]),
  (∀ a' es' c' N',N≤N'→TysIs l es'→es'.length≤4611686018427387904→Own N N' (.sl a' 2 es' c')→Q a' es' c' N')→ACalls prog 55 [.sl 2] [.sv a 2 es c] N Q
 | l,es,hes,hlen,hll,hs,a,c,N,Q,hQ=>by
   have hl:=hes.len
   refine zFI N a es c Q fun _=>⟨⟨by omega,by omega,by omega,by omega⟩,?_⟩
   rw [Int.toNat_natCast]
   have:=zPc l es hes hs [] [] [] (by simp [TysIs]) rfl (by simpa using hlen) a c N Q (by simpa using hQ) es.length N (List.replicate es.length (.ag [.lit (.int .i64 0),.sl none 2 [] 0])) (Nat.le_refl _) sX (by simp)
   simpa using this
theorem zPc:∀ (l:List Ty) (rest:List D),TysIs l rest→zMe l→∀ (tdone:List Ty) (pre done:List D),TysIs tdone done→done.length=pre.length→(pre++rest).length≤4611686018427387904→∀ (a:Option Addr) (c N:Nat) (Q:QT [.sl 2]),
  (∀ a' es' c' N',N≤N'→TysIs (tdone++l) es'→es'.length≤4611686018427387904→Own N N' (.sl a' 2 es' c')→Q a' es' c' N')→∀ (q N1:Nat) (junk:List D),N≤N1→OwnL N N1 done→junk.length=rest.length →
  wY Q N a (pre++rest) c (pre++rest).length q pre.length (done++junk) q N1
 | [],rest,hr,_,tdone,pre,done,hd,hdl,hlen,a,c,N,Q,hQ,q,N1,junk,hN1,hown,hj=>by
   simp [TysIs] at hr
   subst hr
   have:junk=[]:=List.eq_nil_of_length_eq_zero (by simpa using hj)
   subst this
   rw [List.append_nil] at *
   rw [List.append_nil]
   refine rI _ _ _ _ _ _ _ _ _ _ _ (Br.of (fun hc=>?_) fun _=>?_)
   ·have:=of_decide_eq_true hc;omega
   ·exact ⟨⟨hdl.symm,rfl⟩,⟨hdl.symm,rfl⟩,⟨hdl.symm,rfl⟩,fun a' N3 hN3 hf N4 hN4=>hQ a' done q N4 (by omega) hd (by omega) ((rP hown hf hN3).mono (Nat.le_refl _) hN4)⟩
 | t :: ts,rest,hr,hs,tdone,pre,done,hd,hdl,hlen,a,c,N,Q,hQ,q,N1,junk,hN1,hown,hj=>by
   simp only [TysIs] at hr
   obtain ⟨d,ds,rfl,hdi,hds⟩:=hr
   cases junk with
   | nil=>simp at hj
   | cons y junk=>
     have hlt:(pre.length:Int)<((pre++d::ds).length:Int):=by simp;omega
     have hlt2:pre.length<(done++y::junk).length:=by simp;omega
     refine rI _ _ _ _ _ _ _ _ _ _ _ (Br.of (fun _=>⟨⟨by omega,hlt⟩,fun N2 hN2=>?_⟩) fun hc=>absurd hlt (of_decide_eq_false hc))
     rw [Int.toNat_natCast,sc]
     refine zKq t d hdi hs.1 N2 _ fun x N3 hN3 hx hxo _ _=>?_
     rw [Nat.zero_add]
     refine ⟨⟨by omega,hlt,hlt2⟩,hlt2,?_⟩
     rw [i64_in _ (by simp at hlt hlen;omega),←hdl,zCQ]
     have:=zPc ts ds hds hs.2 (tdone++[t]) (pre++[d]) (done++[x]) (hd.snoc hx) (by simp [hdl]) (by simpa using hlen) a c N Q (by simpa using hQ) q N3 junk (by omega)
      (yB (hown.mono (Nat.le_refl _) hN2) (yG hxo) (by omega) hN3) (by simpa using hj)
     have e1:((pre++[d]).length:Int)=(done.length:Int)+1:=by simp [hdl]
     rw [e1] at this
     simpa using this
end
mutual
def Ty.cnt:Ty→Nat
 | .mk _ l=>1+zO l
def zO:List Ty→Nat
 | []=>0
 | t::ts=>t.cnt+zO ts
end
mutual
def zLW:Ty→Int→Ty × Int
 | .mk _ l,k=>(.mk k (za l (k+1)).1,(za l (k+1)).2)
def za:List Ty→Int→List Ty × Int
 | [],k=>([],k)
 | t::ts,k=>((zLW t k).1::(za ts (zLW t k).2).1,(za ts (zLW t k).2).2)
end
mutual
theorem zRG:∀ (t:Ty) (k:Int),(zLW t k).2=k+t.cnt
 | .mk _ l,k=>by simp only [zLW,Ty.cnt,wz l (k+1)];omega
theorem wz:∀ (l:List Ty) (k:Int),(za l k).2=k+zO l
 | [],k=>by simp [za,zO]
 | t::ts,k=>by simp only [za,zO,wz ts,zRG t k];omega
end
theorem zJv {P:Program} {f:FuncId} {z c:Nat} {es:List D} {k:Int} {N:Nat} {R:D→Int→Nat→Prop} (hc:zt P f=true) (hne:es≠[]):MC P f (.sl none z es c) k N R:=
 ⟨hc,fun w0 _ _ _ hH _=>by cases hH;exact absurd rfl hne⟩
theorem qA {done ds:List D} {d d':D} (h:(zB (done++d::ds)).Nodup) (hf:d'.foot=d.foot):(zB (done++d'::ds)).Nodup:=by
 simpa only [zF,zB,hf] using h
theorem zB5 {done ds:List D} {d d':D} (hf:d'.foot=d.foot):zB (done++d'::ds)=zB (done++d::ds):=by
 simp only [zF,zB,hf]
theorem sV {a:Option Addr} {z c:Nat} {es es':List D} (hl:es'.length=es.length) (hf:zB es'=zB es):(D.sl a z es' c).foot=(D.sl a z es c).foot:=by
 cases a with
 | none=>simp only [D.foot,hf]
 | some ad=>
   have:es'.isEmpty=es.isEmpty:=by
    cases es<;>cases es'<;>simp at hl ⊢
   simp only [D.foot,hf,this]
mutual
theorem ui:∀ (l:List Ty) (es:List D),TysIs l es→∀ (a:Option Addr) (c:Nat),Tree (.sl a 2 es c)→es.length≤4611686018427387904→∀ (k:Int),0≤k→k+zO l≤4611686018427387904→∀ (N:Nat) (R:D→Int→Nat→Prop),
  (∀ es' N',N≤N'→TysIs (za l k).1 es'→zB es'=zB es→es'.length=es.length→R (.sl a 2 es' c) (za l k).2 N')→MC prog 42 (.sl a 2 es c) k N R
 | l, es,hes,a,c,htree,hlen,k,hk,hk2,N,R,hR=>by
   by_cases hne:es=[]
   ·subst hne
    have hl:l=[]:=by have:=hes.len;simp at this;exact List.eq_nil_of_length_eq_zero this.symm
    subst hl
    refine zM9 (zCf N a [] c k _ fun _=>zAz _ _ _ _ _ _ _ _ (Br.of (fun hc=>?_) fun _ N2 hN2=>?_))
    ·simp at hc
    ·exact hR [] N2 hN2 (by simp [za,TysIs]) rfl rfl
   ·cases a with
    | none=>exact zJv (by kernel_rfl) hne
    | some ad=>
      refine zCh N ad es c k R (fun k' x N'=>N≤N'∧∃ es',x=.ag es'∧es'.length=es.length∧zB es'=zB es∧TysIs (za l k).1 es'∧k'=(za l k).2) htree hne (by unfold maxLen;omega) (fun t=>?_) ?_
      ·have hnd:=htree.nd
       have hfoot:(D.sl (some ad) 2 es c).foot=ad.block::zB es:=by simp [D.foot,hne]
       have hsub:∀ b∈zB es,b∈(D.sl (some ad) 2 es c).foot:=fun b hb=>by rw [hfoot];simp [hb]
       rw [hfoot] at hnd
       have:=zKg l es hes [] [] (by simp [TysIs]) es rfl (List.nodup_cons.1 hnd).2 htree.fl.2 hlen (D.sl (some ad) 2 es c).foot hsub ad.block N es.length c t k hk hk2 (za l k).1 (za l k).2 (by simp) rfl es.length N (Nat.le_refl _)
       simpa using this
      ·rintro k' x N' ⟨hN',es',rfl,h1,h2,h3,rfl⟩
       exact ⟨es',rfl,h1,h2,hR es' N' hN' h3 h2 h1⟩
theorem zKg:∀ (l:List Ty) (rest:List D),TysIs l rest→∀ (ldone:List Ty) (done:List D),TysIs ldone done→∀ (es:List D),zB (done++rest)=zB es→(zB (done++rest)).Nodup→xd rest→(done++rest).length≤4611686018427387904 →
  ∀ (T:List Nat),(∀ b∈zB es,b∈T)→∀ (b0 N m c t:Nat) (k:Int),0≤k→k+zO l≤4611686018427387904→∀ (L:List Ty) (K:Int),L=ldone++(za l k).1→K=(za l k).2→∀ (q N1:Nat),N≤N1→m=(done++rest).length →
  yo T b0 (fun k' x N'=>N≤N'∧∃ es',x=.ag es'∧es'.length=m∧zB es'=zB es∧TysIs L es'∧k'=K) N m c k done.length t (done++rest) q N1
 | [],rest,hr,ldone,done,hd,es,hf,hnd,hfl,hlen,T,hT,b0,N,m,c,t,k,hk,hk2,L,K,hL,hK,q,N1,hN1,hm=>by
   simp [TysIs] at hr
   subst hr
   rw [List.append_nil] at *
   refine vf _ _ _ _ _ _ _ _ _ _ _ _ (Br.of (fun hc=>?_) fun _=>⟨rfl,fun N3 hN3=>⟨by omega,done,rfl,hm.symm,hf,?_,?_⟩⟩)
   ·have:=of_decide_eq_true hc;omega
   ·rw [hL];simpa [za] using hd
   ·rw [hK];simp [za]
 | .mk kk lt::ts,rest,hr,ldone,done,hd,es,hf,hnd,hfl,hlen,T,hT,b0,N,m,c,t,k,hk,hk2,L,K,hL,hK,q,N1,hN1,hm=>by
   simp only [TysIs] at hr
   obtain ⟨d,ds,rfl,hdi,hds⟩:=hr
   simp only [Ty.Is] at hdi
   obtain ⟨a1,es1,c1,rfl,hlen1,hts⟩:=hdi
   simp only [zO,Ty.cnt] at hk2
   have hlt:(done.length:Int)<(m:Int):=by rw [hm];simp;omega
   have hlt2:∀ d:D,done.length<(done++d::ds).length:=fun d=>by simp
   have hfs:∀ x:Value,(D.ag [.lit x,.sl a1 2 es1 c1]).foot=(D.ag [.lit (.int .i64 kk),.sl a1 2 es1 c1]).foot:=fun x=>by simp only [D.foot,zB]
   have hsub:∀ b∈(D.sl a1 2 es1 c1).foot,b∈zB (done++D.ag [.lit (.int .i64 kk),.sl a1 2 es1 c1]::ds):=fun b hb=>by
    rw [zF]
    refine List.mem_append_right _ ?_
    simp only [zB,D.foot] at hb ⊢
    simp [hb]
   have hnd1:(D.sl a1 2 es1 c1).foot.Nodup:=by
    rw [zF,List.nodup_append] at hnd
    have:=hnd.2.1
    simp only [zB] at this
    rw [List.nodup_append] at this
    have:=this.1
    simpa only [D.foot,zB,List.nil_append,List.append_nil] using this
   have hfl1:(D.sl a1 2 es1 c1).Flat0:=hfl.1.2.1
   have hp0:yc 0 [(D.lit (.int .i64 k))] (D.cells (.ag [.lit (.int .i64 kk),.sl a1 2 es1 c1]))=[.lit (.int .i64 k),.sl a1 2 es1 c1]:=rfl
   refine vf _ _ _ _ _ _ _ _ _ _ _ _ (Br.of (fun _=>?_) fun hc=>absurd hlt (of_decide_eq_false hc))
   rw [Int.toNat_natCast,Nat.zero_add,sc,hp0,zCQ,sc]
   refine ⟨⟨by omega,hlt,hlt2 _⟩,hlt2 _,⟨by omega,hlt,hlt2 _⟩,hlt2 _,a1,es1,c1,rfl,⟨hnd1,hfl1⟩,⟨fun b hb=>hT b (hf ▸ hsub b hb)⟩,hlt2 _,by simp [D.cells],rfl,⟨qA hnd (hfs _)⟩,⟨by simp⟩,fun N2 hN2=>?_⟩
   rw [i64_in (k+1) (by omega)]
   refine ui lt es1 hts a1 c1 ⟨hnd1,hfl1⟩ hlen1 (k+1) (by omega) (by omega) N2 _ fun es1' N3 hN3 h1 h2 h3 _=>?_
   rw [zCQ,i64_in _ (by rw [hm] at hlt;simp at hlt hlen;omega)]
   have hp1:yc 1 [D.sl a1 2 es1' c1] (D.cells (.ag [.lit (.int .i64 k),.sl a1 2 es1 c1]))=[.lit (.int .i64 k),.sl a1 2 es1' c1]:=rfl
   rw [hp1]
   have hfx:(D.ag [.lit (.int .i64 k),.sl a1 2 es1' c1]).foot=(D.ag [.lit (.int .i64 kk),.sl a1 2 es1 c1]).foot:=by
    have:=sV (a:=a1) (z:=2) (c:=c1) h3 h2
    simp only [D.foot,zB] at this ⊢
    rw [this]
   have hk3:=wz lt (k+1)
   have:=zKg ts ds hds (ldone++[.mk k (za lt (k+1)).1]) (done++[.ag [.lit (.int .i64 k),.sl a1 2 es1' c1]]) (hd.snoc (t:=.mk k (za lt (k+1)).1) (by simp only [Ty.Is];exact ⟨a1,es1',c1,rfl,by omega,h1⟩)) es
    (by rw [List.append_assoc,List.singleton_append,zB5 hfx];exact hf) (by rw [List.append_assoc,List.singleton_append];exact qA hnd hfx) hfl.2 (by simpa using hlen) T hT b0 N m c t (za lt (k+1)).2
    (by omega) (by rw [hk3];omega) L K (by rw [hL];simp [za,zLW]) (by rw [hK];simp [za,zLW]) q N3 (by omega) (by rw [hm];simp)
   have e1:((done++[D.ag [.lit (.int .i64 k),.sl a1 2 es1' c1]]).length:Int)=(done.length:Int)+1:=by simp
   rw [e1] at this
   simpa using this
end
mutual
def uu:Ty→Ty→Bool
 | .mk k l,.mk k' l'=>k==k'&&vq l l'
def vq:List Ty→List Ty→Bool
 | [],[]=>true
 | t::ts,u::us=>uu t u&&vq ts us
 | _,_=>false
end
mutual
theorem sW:∀ (t u:Ty),uu t u=true↔t=u
 | .mk k l,.mk k' l'=>by simp [uu,zIT l l']
theorem zIT:∀ (l m:List Ty),vq l m=true↔l=m
 | [],[]=>by simp [vq]
 | t::ts,u::us=>by simp [vq,sW t u,zIT ts us]
 | [],u::us=>by simp [vq]
 | t::ts,[]=>by simp [vq]
end
theorem zA5:∀ {l m:List Ty},l.length≠m.length→vq l m=false
 | [],[],h=>absurd rfl h
 | t::ts,u::us,h=>by simp only [vq,zA5 (l:=ts) (m:=us) (by simpa using h),Bool.and_false]
 | [],u::us,_=>rfl
 | t::ts,[],_=>rfl
mutual
theorem zK8:∀ (t u:Ty) (d e:D),t.Is d→u.Is e→∀ (N:Nat) (Q:QT [.bool]),(∀ N',N≤N'→Q (uu t u) N')→ACalls prog 40 [.bool] [.dg 2 d,.dg 2 e] N Q
 | .mk k l,.mk k' l',d,e,hd,he,N,Q,hQ=>by
   simp only [Ty.Is] at hd he
   obtain ⟨a,es,c,rfl,h1,h2⟩:=hd
   obtain ⟨a',es',c',rfl,h1',h2'⟩:=he
   simp only [uu] at hQ
   refine zG3 N _ _ Q fun _ _=>⟨k,rfl,k',rfl,Br.of (fun hc N' hN'=>?_) fun hc=>⟨a,es,c,rfl,a',es',c',rfl,fun N1 hN1=>?_⟩⟩
   ·have:=hQ N' hN'
    have hk:(k==k')=false:=by simpa using hc
    rwa [hk,Bool.false_and] at this
   ·have hk:(k==k')=true:=by simpa using hc
    rw [hk] at hQ
    refine zNE l l' es es' h2 h2' h1 h1' a c a' c' N1 _ fun N2 hN2 _=>Br.of (fun hb N' hN'=>?_) fun hb N' hN'=>?_
    ·have:=hQ N' (by omega)
     have hb':vq l l'=false:=by simpa using hb
     rwa [hb'] at this
    ·have:=hQ N' (by omega)
     have hb':vq l l'=true:=by simpa using hb
     rwa [hb'] at this
theorem zNE:∀ (l m:List Ty) (es fs:List D),TysIs l es→TysIs m fs→es.length≤4611686018427387904→fs.length≤4611686018427387904→∀ (a:Option Addr) (c:Nat) (b:Option Addr) (c' N:Nat) (Q:QT [.bool]),
  (∀ N',N≤N'→Q (vq l m) N')→ACalls prog 69 [.bool] [.sv a 2 es c,.sv b 2 fs c'] N Q
 | l,m,es,fs,he,hf,h1,h2,a,c,b,c',N,Q,hQ=>by
   have hl:=he.len
   have hm:=hf.len
   refine zE5 N a es c b fs c' Q fun _ _=>Br.of (fun hc N' hN'=>?_) fun hc=>?_
   ·have:=hQ N' hN'
    rwa [zA5 (by simp at hc;omega)] at this
   ·have:=zPl l m es fs he hf [] [] (by simp at hc;omega) rfl (by simpa using h1) a c b c' N Q hQ N (Nat.le_refl _)
    simpa using this
theorem zPl:∀ (l m:List Ty) (es fs:List D),TysIs l es→TysIs m fs→∀ (pre qre:List D),l.length=m.length→pre.length=qre.length→(pre++es).length≤4611686018427387904→∀ (a:Option Addr) (c:Nat) (b:Option Addr) (c' N:Nat) (Q:QT [.bool]),
  (∀ N',N≤N'→Q (vq l m) N')→∀ N1,N≤N1→wd Q N a (pre++es) c b (qre++fs) c' pre.length N1
 | [],[],es,fs,he,hf,pre,qre,_,hp,h1,a,c,b,c',N,Q,hQ,N1,hN1=>by
   simp [TysIs] at he hf
   subst he;subst hf
   refine rN _ _ _ _ _ _ _ _ _ _ (Br.of (fun hc=>?_) fun _ N2 hN2=>by have:=hQ N2 (by omega);rwa [vq] at this)
   have:=of_decide_eq_true hc
   simp at this
 | t::ts,u::us,es,fs,he,hf,pre,qre,hlm,hp,h1,a,c,b,c',N,Q,hQ,N1,hN1=>by
   simp only [TysIs] at he hf
   obtain ⟨d,ds,rfl,hd,hds⟩:=he
   obtain ⟨x,xs,rfl,hx,hxs⟩:=hf
   have hlt:(pre.length:Int)<((pre++d::ds).length:Int):=by simp;omega
   have hlt2:(pre.length:Int)<((qre++x::xs).length:Int):=by simp;omega
   refine rN _ _ _ _ _ _ _ _ _ _ (Br.of (fun _=>⟨⟨by omega,hlt⟩,⟨by omega,hlt2⟩,fun N2 hN2=>?_⟩) fun hc=>absurd hlt (of_decide_eq_false hc))
   have e0:(qre++x::xs).getD pre.length default=x:=by rw [hp];exact sc
   rw [Int.toNat_natCast,sc,e0]
   simp only [vq] at hQ
   refine zK8 t u d x hd hx N2 _ fun N3 hN3 _=>Br.of (fun hb N' hN'=>?_) fun hb=>?_
   ·have:=hQ N' (by omega)
    have hb':uu t u=false:=by simpa using hb
    rwa [hb',Bool.false_and] at this
   ·have hb':uu t u=true:=by simpa using hb
    rw [hb'] at hQ
    rw [i64_in _ (by simp at hlt h1;omega)]
    have:=zPl ts us ds xs hds hxs (pre++[d]) (qre++[x]) (by simpa using hlm) (by simp [hp]) (by simpa using h1) a c b c' N Q (by simpa using hQ) N3 (by omega)
    have e1:((pre++[d]).length:Int)=(pre.length:Int)+1:=by simp
    rw [e1] at this
    simpa using this
 | [],u::us,es,fs,he,hf,pre,qre,hlm,_,_,_,_,_,_,_,_,_,_,_=>by simp at hlm
 | t::ts,[],es,fs,he,hf,pre,qre,hlm,_,_,_,_,_,_,_,_,_,_,_=>by simp at hlm
end
mutual
/-- what the laws' second look at marked types comes to -/
def zRg:Ty→Int→Int
 | .mk _ l,k=>rW l k
def rW:List Ty→Int→Int
 | [],k=>k
 | .mk kk l::ts,k=>if kk≠k then -1 else if rW l (k+1)<0 then -1 else rW ts (rW l (k+1))
end
mutual
theorem zSQ:∀ (t:Ty) (k:Int),0≤k→rW [(zLW t k).1] k=(zLW t k).2
 | .mk _ l,k,hk=>by
   have h1:=zLC l (k+1) (by omega)
   have h2:=wz l (k+1)
   simp only [zLW,rW,h1]
   rw [if_neg (by simp),if_neg (by omega)]
theorem zLC:∀ (l:List Ty) (k:Int),0≤k→rW (za l k).1 k=(za l k).2
 | [],k,_=>by simp [za,rW]
 | .mk kk l::ts,k,hk=>by
   have h1:=zLC l (k+1) (by omega)
   have h2:=wz l (k+1)
   have h3:=zLC ts (za l (k+1)).2 (by omega)
   simp only [za,zLW,rW,h1,h3]
   rw [if_neg (by simp),if_neg (by omega)]
end
theorem zMZ {A B:Prop}:Br true A B=A:=rfl
theorem zKt {A B:Prop}:Br false A B=B:=rfl
theorem Br.not {v:Bool} {A B:Prop} (ht:v=false→A) (hf:v=true→B):Br (!v) A B:=by
 cases v
 ·exact ht rfl
 ·exact hf rfl
theorem Br.dec {p:Prop} [Decidable p] {A B:Prop} (ht:p→A) (hf:¬p→B):Br (decide p) A B:=Br.of (fun h=>ht (of_decide_eq_true h)) fun h=>hf (of_decide_eq_false h)
theorem Br.ndec {p:Prop} [Decidable p] {A B:Prop} (ht:¬p→A) (hf:p→B):Br (!(decide p)) A B:=Br.not (fun h=>ht (of_decide_eq_false h)) fun h=>hf (of_decide_eq_true h)
theorem Br.beq {a b:Int} {A B:Prop} (ht:a=b→A) (hf:¬a=b→B):Br (a==b) A B:=Br.of (fun h=>ht (by simpa using h)) fun h=>hf (by simpa using h)
theorem Br.nbeq {a b:Int} {A B:Prop} (ht:¬a=b→A) (hf:a=b→B):Br (!(a==b)) A B:=Br.not (fun h=>ht (by simpa using h)) fun h=>hf (by simpa using h)
theorem Br.bne {a b:Int} {A B:Prop} (ht:¬a=b→A) (hf:a=b→B):Br (bne a b) A B:=Br.of (fun h=>ht (by simpa using h)) fun h=>hf (by simpa using h)
theorem zM1 {s t:ByteArray} (h:s.toList=t.toList):s=t:=by
 rw [ByteArray.toList_eq,ByteArray.toList_eq] at h
 cases s;cases t
 simpa using h
theorem zDA {s t:ByteArray}:(s.toList==t.toList)=decide (s=t):=by
 by_cases h:s=t
 ·simp [h]
 ·have:¬s.toList=t.toList:=fun hc=>h (zM1 hc)
  simp [h,this]
theorem Br.str {s t:ByteArray} {A B:Prop} (ht:s=t→A) (hf:¬s=t→B):Br (s.toList==t.toList) A B:=by rw [zDA];exact Br.dec ht hf
theorem Br.nstr {s t:ByteArray} {A B:Prop} (ht:¬s=t→A) (hf:s=t→B):Br (!(s.toList==t.toList)) A B:=by rw [zDA];exact Br.ndec ht hf
/-- returns this truth value -/
def vE (f:FuncId) (args:List PV) (b:Bool):Prop:=∀ (N:Nat) (Q:QT [.bool]),(∀ N',N≤N'→Q b N')→ACalls prog f [.bool] args N Q
/-- returns this number -/
def pe (f:FuncId) (args:List PV) (n:Int):Prop:=∀ (N:Nat) (Q:QT [.int .i64]),(∀ N',N≤N'→Q n N')→ACalls prog f [.int .i64] args N Q
theorem Qi {Q:QT [.int .i64]} {n m:Int} {N:Nat} (h:Q n N) (e:n=m):Q m N:=e ▸ h
theorem Qb {Q:QT [.bool]} {n m:Bool} {N:Nat} (h:Q n N) (e:n=m):Q m N:=e ▸ h
def All2 {α:Type} (R:α→D→Prop):List α→List D→Prop
 | [],es=>es=[]
 | t::ts,es=>∃ d ds,es=d::ds∧R t d∧All2 R ts ds
theorem All2.len {α:Type} {R:α→D→Prop}:∀ {l:List α} {es:List D},All2 R l es→es.length=l.length
 | [],es,h=>by cases h;rfl
 | t::ts,es,⟨d,ds,he,_,h⟩=>by subst he;simp [h.len]
theorem All2.get {α:Type} {R:α→D→Prop}:∀ {l:List α} {es:List D} {i:Nat} {x:α},All2 R l es→l[i]?=some x→R x (es.getD i default)
 | [],es,i,x,h,hx=>by simp at hx
 | t::ts,es,i,x,⟨d,ds,he,h1,h2⟩,hx=>by
   subst he
   cases i with
   | zero=>simp at hx;subst hx;simpa [List.getD_eq_getElem?_getD] using h1
   | succ i=>simpa [List.getD_eq_getElem?_getD] using h2.get (by simpa using hx)
theorem All2.snoc {α:Type} {R:α→D→Prop}:∀ {l:List α} {es:List D} {t:α} {d:D},All2 R l es→R t d→All2 R (l++[t]) (es++[d])
 | [],es,t,d,h,h2=>by cases h;exact ⟨d,[],rfl,h2,rfl⟩
 | u::ts,es,t,d,⟨x,ds,he,h3,h4⟩,h2=>by subst he;exact ⟨x,ds++[d],rfl,h3,h4.snoc h2⟩
theorem All2.app {α:Type} {R:α→D→Prop}:∀ {l m:List α} {es fs:List D},All2 R l es→All2 R m fs→All2 R (l++m) (es++fs)
 | [],m,es,fs,h,h2=>by cases h;exact h2
 | u::ts,m,es,fs,⟨x,ds,he,h3,h4⟩,h2=>by subst he;exact ⟨x,ds++fs,rfl,h3,h4.app h2⟩
theorem All2.mono {α:Type} {R S:α→D→Prop} (hRS:∀ x d,R x d→S x d):∀ {l:List α} {es:List D},All2 R l es→All2 S l es
 | [],es,h=>h
 | u::ts,es,⟨x,ds,he,h3,h4⟩=>⟨x,ds,he,hRS _ _ h3,h4.mono hRS⟩
/-- the loop stands at this one -/
structure At {α:Type} (R:α→D→Prop) (l:List α) (es:List D) (i:Nat) (x:α):Prop where
 lt:decide ((i:Int)<(es.length:Int))=true
 b:(0:Int)≤(i:Int)∧(i:Int)<(es.length:Int)
 w:IntKind.i64.wrap ((i:Int)+1)=((i+1:Nat):Int)
 r:R x (es.getD i default)
 m:x∈l
 g:l[i]?=some x
theorem up {α:Type} {R:α→D→Prop} {l:List α} {es:List D} (h:All2 R l es) (hlen:es.length≤4611686018427387904) (P:Nat→List α→Prop)
  (hnil:∀ n:Nat,decide ((n:Int)<(es.length:Int))=false→n=es.length→P n []) (hcons:∀ (i:Nat) x xs,At R l es i x→l.drop (i+1)=xs→P (i+1) xs→P i (x::xs)):P 0 l:=by
 have hl:=h.len
 have key:∀ (rest pre:List α),l=pre++rest→P pre.length rest:=by
  intro rest
  induction rest with
  | nil=>
    intro pre hp
    rw [List.append_nil] at hp
    subst hp
    exact hnil _ (by simp [hl]) hl.symm
  | cons x xs ih=>
    intro pre hp
    have hi:l[pre.length]?=some x:=by rw [hp];simp
    have hlt:pre.length<l.length:=(List.getElem?_eq_some_iff.1 hi).1
    have hx:=h.get hi
    refine hcons pre.length x xs ⟨decide_eq_true (by omega),⟨by omega,by omega⟩,?_,hx,by rw [hp];simp,hi⟩ (by rw [hp];simp) ?_
    ·rw [i64_in _ (by omega)];simp
    ·have:=ih (pre++[x]) (by rw [hp];simp)
     simpa using this
 exact key l [] rfl
theorem tO:∀ {l:List Ty} {es:List D},TysIs l es→All2 Ty.Is l es
 | [],es,h=>by simp only [TysIs] at h;exact h
 | t::ts,es,h=>by
   simp only [TysIs] at h
   obtain ⟨d,ds,h1,h2,h3⟩:=h
   exact ⟨d,ds,h1,h2,tO h3⟩
theorem zC8:∀ {l:List Ty} {es:List D},All2 Ty.Is l es→TysIs l es
 | [],es,h=>by simp only [TysIs];exact h
 | t::ts,es,⟨d,ds,h1,h2,h3⟩=>by
   simp only [TysIs]
   exact ⟨d,ds,h1,h2,zC8 h3⟩
def Ty.k:Ty→Int
 | .mk k _=>k
def Ty.as:Ty→List Ty
 | .mk _ l=>l
theorem Ty.is_mk {k:Int} {l:List Ty} {d:D}:(Ty.mk k l).Is d↔∃ a es c,d=.ag [.lit (.int .i64 k),.sl a 2 es c]∧es.length≤4611686018427387904∧All2 Ty.Is l es:=by
 simp only [Ty.Is]
 exact ⟨fun ⟨a,es,c,h1,h2,h3⟩=>⟨a,es,c,h1,h2,tO h3⟩,fun ⟨a,es,c,h1,h2,h3⟩=>⟨a,es,c,h1,h2,zC8 h3⟩⟩
theorem Ty.ind {P:Ty→Prop} (h:∀ k l,(∀ t∈l,P t)→P (.mk k l)):∀ t,P t:=fun t=>
 Ty.rec (motive_1:=P) (motive_2:=fun l=>∀ t∈l,P t) (fun k l ih=>h k l ih) (by simp) (fun t l h1 h2 u hu=>by
  rcases List.mem_cons.1 hu with rfl | hu
  ·exact h1
  ·exact h2 u hu) t
theorem X1 {p:Prop} [Decidable p] {A B:Prop} (ht:¬p→A) (hf:p→B):Br (!(decide p)) A B:=Br.ndec ht hf
theorem X2 {s t:ByteArray} {A B:Prop} (ht:¬s=t→A) (hf:s=t→B):Br (!(s.toList==t.toList)) A B:=Br.nstr ht hf
theorem X3 {a b:Int} {A B:Prop} (ht:¬a=b→A) (hf:a=b→B):Br (!(a==b)) A B:=Br.nbeq ht hf
theorem X4 {v:Bool} {A B:Prop} (ht:v=false→A) (hf:v=true→B):Br (!v) A B:=Br.not ht hf
theorem X5 {p:Prop} [Decidable p] {A B:Prop} (ht:p→A) (hf:¬p→B):Br (decide p) A B:=Br.dec ht hf
theorem X6 {s t:ByteArray} {A B:Prop} (ht:s=t→A) (hf:¬s=t→B):Br (s.toList==t.toList) A B:=Br.str ht hf
theorem X7 {a b:Int} {A B:Prop} (ht:a=b→A) (hf:¬a=b→B):Br (a==b) A B:=Br.beq ht hf
theorem X8 {a b:Int} {A B:Prop} (ht:¬a=b→A) (hf:a=b→B):Br (bne a b) A B:=Br.bne ht hf
theorem X9 {v:Bool} {A B:Prop} (ht:v=true→A) (hf:v=false→B):Br v A B:=Br.of ht hf
theorem Y1:(!true)=false:=rfl
theorem Y2:(!false)=true:=rfl
theorem Y3 {A B:Prop}:Br true A B=A:=rfl
theorem Y4 {A B:Prop}:Br false A B=B:=rfl
end Go.Proofs.YtnpjpplbkoammaaGreat
