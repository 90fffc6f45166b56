/- The text of a mark. -/
import Derived.Test.YtnpjpplbkoammaaGreatVv
set_option linter.unusedVariables false
set_option linter.unusedSimpArgs false
namespace Go.Proofs.YtnpjpplbkoammaaGreat
open Go Go.Proofs Go.Proofs.Tryz Go.IntWalk
def zPX:Nat→Int→ByteArray→ByteArray
 | 0,_,s=>s
 | n+1,k,s=>if k>0 then zPX n (IntKind.i64.wrap (Int.tdiv k 10)) (bytesOf [IntKind.u8.wrap (IntKind.i64.wrap (48+Int.tmod k 10))]++s) else s
/-- the text of a mark -/
def sS (k:Int):ByteArray:=if k≤0 then bytes [109,48] else bytes [109]++zPX k.toNat k (bytes [])
theorem sd (k:Int) (h0:0≤k) (h1:k≤4611686018427387904):∀ (N:Nat) (Q:QT [.str]),(∀ N',N≤N'→Q (sS k) N')→ACalls prog 41 [.str] [.int .i64 k] N Q:=fun N Q hQ=>by
 have key:∀ (n:Nat) (k:Int) (s:ByteArray) (N':Nat),k.toNat≤n→0≤k→(s.size:Int)+k≤4611686018427387904→N≤N'→(∀ N'',N'≤N''→Q (bytes [109]++zPX n k s) N'')→xB Q N k s N':=by
  intro n
  induction n with
  | zero=>
    intro k s N' hn hk hs hN' hQ'
    refine x9 _ _ _ _ _ (Br.dec (fun h=>?_) fun _=>⟨by omega,fun N1 hN1=>hQ' _ (by omega)⟩)
    omega
  | succ n ih=>
    intro k s N' hn hk hs hN' hQ'
    refine x9 _ _ _ _ _ (Br.dec (fun h=>?_) fun h=>⟨by omega,fun N1 hN1=>by have:=hQ' N1 (by omega);rwa [zPX,if_neg h] at this⟩)
    rw [zPX,if_pos h] at hQ'
    have hd:Int.tdiv k 10=k / 10:=Int.tdiv_eq_ediv_of_nonneg hk
    refine ⟨by decide,by simp,[_],rfl,?_,by decide,?_⟩
    ·show 1+s.size≤_
     omega
    ·rw [hd,i64_in _ (by omega)]
     rw [hd,i64_in _ (by omega)] at hQ'
     refine ih _ _ _ (by omega) (by omega) ?_ hN' hQ'
     rw [ByteArray.size_append]
     show ((1+s.size:Nat):Int)+_≤_
     omega
 refine rq N k Q (Br.dec (fun h N1 hN1=>by have:=hQ N1 hN1;rwa [sS,if_pos h] at this) fun h=>?_)
 rw [sS,if_neg h] at hQ
 exact key k.toNat k _ N (Nat.le_refl _) h0 (by show ((0:Nat):Int)+_≤_;omega) (Nat.le_refl _) fun N'' h2=>hQ N'' h2
theorem zI9:∀ (n:Nat) (k:Int) (s:ByteArray),(zPX n k s).size≤n+s.size
 | 0,k,s=>by simp [zPX]
 | n+1,k,s=>by
   rw [zPX]
   split
   ·refine Nat.le_trans (zI9 n _ _) ?_
    rw [ByteArray.size_append]
    have:(bytesOf [IntKind.u8.wrap (IntKind.i64.wrap (48+Int.tmod k 10))]).size=1:=rfl
    omega
   ·omega
theorem zF5 (k:Int):(sS k).size≤k.toNat+2:=by
 unfold sS
 split
 ·show 2≤_;omega
 ·rw [ByteArray.size_append]
  have:=zI9 k.toNat k (bytes [])
  have e:(bytes []).size=0:=rfl
  have e2:(bytes [109]).size=1:=rfl
  omega
def yw:List Tm→Int→List Tm × Int
 | [],k=>([],k)
 | .mk _ _ _ _ ty re l::ts,k=>
   (.mk k (sS (k+1)) (sS (k+1+1)) (k+1+1+1) (.mk (k+1+1+1+1) (za ty.as (k+1+1+1+1+1)).1) (.mk (za ty.as (k+1+1+1+1+1)).2 (za re.as ((za ty.as (k+1+1+1+1+1)).2+1)).1)
     (yw l (za re.as ((za ty.as (k+1+1+1+1+1)).2+1)).2).1 ::
    (yw ts (yw l (za re.as ((za ty.as (k+1+1+1+1+1)).2+1)).2).2).1,(yw ts (yw l (za re.as ((za ty.as (k+1+1+1+1+1)).2+1)).2).2).2)
theorem zB8:∀ (l:List Tm) (k:Int),k≤(yw l k).2∧(yw l k).2≤k+4*yM l
 | [],k=>by simp [yw,yM]
 | .mk _ _ _ _ (.mk tk tl) (.mk rk rl) l::ts,k=>by
   simp only [yw,yM,Tm.cnt,Ty.cnt,Ty.as,wz]
   have h1:=zB8 l (k+1+1+1+1+1+zO tl+1+zO rl)
   have h2:=zB8 ts (yw l (k+1+1+1+1+1+zO tl+1+zO rl)).2
   omega
theorem zI4:∀ (l:List Tm) (k:Int),(yw l k).1.length=l.length
 | [],k=>by simp only [yw]
 | .mk _ _ _ _ ty re l::ts,k=>by simp only [yw,List.length_cons,zI4 ts]
set_option maxHeartbeats 4000000
set_option maxRecDepth 100000
mutual
theorem rd:∀ (l:List Tm) (es:List D),zCx l es→∀ (a:Option Addr) (c:Nat),Tree (.sl a 9 es c)→es.length≤4611686018427387904→∀ (k:Int),0≤k→k+4*yM l≤4611686018427387904→∀ (N:Nat) (R:D→Int→Nat→Prop),
  (∀ es' N',N≤N'→zCx (yw l k).1 es'→zB es'=zB es→es'.length=es.length→R (.sl a 9 es' c) (yw l k).2 N')→MC prog 15 (.sl a 9 es c) k N R
 | l, es,hes,a,c,htree,hlen,k,hk,hk2,N,R,hR=>by
   by_cases hne:es=[]
   ·subst hne
    have hl:l=[]:=by have:=(uF.1 hes).len;simp at this;exact List.eq_nil_of_length_eq_zero this.symm
    subst hl
    refine zM9 (zCo N a [] c k _ fun _=>zAS _ _ _ _ _ _ _ _ (Br.of (fun hc=>?_) fun _ N2 hN2=>?_))
    ·simp at hc
    ·have:=hR [] N2 hN2 (by simp [yw,zCx]) rfl rfl
     simpa only [yw] using this
   ·cases a with
    | none=>exact zJv (by kernel_rfl) hne
    | some ad=>
      have hnd:=htree.nd
      have hfoot:(D.sl (some ad) 9 es c).foot=ad.block::zB es:=by simp [D.foot,hne]
      rw [hfoot] at hnd
      refine zC5 N ad es c k R (fun k' x N'=>N≤N'∧∃ es',x=.ag es'∧es'.length=es.length∧zB es'=zB es∧All2 Tm.Is (yw l k).1 es'∧k'=(yw l k).2) htree hne (by unfold maxLen;omega) (fun t=>?_) ?_
      ·have:=zIS l es hes [] [] rfl es rfl (List.nodup_cons.1 hnd).2 htree.fl.2 hlen (D.sl (some ad) 9 es c).foot (fun b hb=>by rw [hfoot];simp [hb]) ad.block N es.length c t k hk hk2 (yw l k).1 (yw l k).2 (by simp) rfl es.length N (Nat.le_refl _) rfl
       simpa using this
      ·rintro k' x N' ⟨hN',es',rfl,h1,h2,h3,rfl⟩
       exact ⟨es',rfl,h1,h2,hR es' N' hN' (uF.2 h3) h2 h1⟩
theorem zIS:∀ (l:List Tm) (rest:List D),zCx l rest→∀ (pl:List Tm) (done:List D),All2 Tm.Is pl done→∀ (es:List D),zB (done++rest)=zB es→(zB (done++rest)).Nodup→xd rest→(done++rest).length≤4611686018427387904 →
  ∀ (T:List Nat),(∀ b∈zB es,b∈T)→∀ (b0 N m c t:Nat) (k:Int),0≤k→k+4*yM l≤4611686018427387904→∀ (L:List Tm) (K:Int),L=pl++(yw l k).1→K=(yw l k).2→∀ (q N1:Nat),N≤N1→m=(done++rest).length →
  yL T b0 (fun k' x N'=>N≤N'∧∃ es',x=.ag es'∧es'.length=m∧zB es'=zB es∧All2 Tm.Is L es'∧k'=K) N m c k done.length t (done++rest) q N1
 | [],rest,hr,pl,done,hd,es,hf,hnd,hfl,hlen,T,hT,b0,N,m,c,t,k,hk,hK2,L,K,hL,hK,q,N1,hN1,hm=>by
   simp only [zCx] at hr
   subst hr
   rw [List.append_nil] at *
   refine vk _ _ _ _ _ _ _ _ _ _ _ _ ?_
   refine Br.of (fun hc=>?_) fun _=>⟨rfl,fun N3 hN3=>⟨by omega,done,rfl,hm.symm,hf,by rw [hL];simpa [yw] using hd,by rw [hK];simp [yw]⟩⟩
   have:=of_decide_eq_true hc;omega
 | .mk kk nm ot nn ty re la::ts,rest,hr,pl,done,hd,es,hf,hnd,hfl,hlen,T,hT,b0,N,m,c,t,k,hk,hK2,L,K,hL,hK,q,N1,hN1,hm=>by
   simp only [zCx] at hr
   obtain ⟨d,ds,rfl,hdi,hds⟩:=hr
   simp only [Tm.Is] at hdi
   obtain ⟨t0,t1,r0,r1,aA,esA,cA,rfl,hh,hlenA,hesA⟩:=hdi
   obtain ⟨kT,lT,aT,esT,cT,rfl,rfl,rfl,hlenT,hesT⟩:=Ty.is_two hh.ty
   obtain ⟨kR,lR,aR,esR,cR,rfl,rfl,rfl,hlenR,hesR⟩:=Ty.is_two hh.re
   simp only [yM,Tm.cnt,Ty.cnt] at hK2
   simp only [yw,Ty.as] at hL hK
   have hlt:(done.length:Int)<(m:Int):=by rw [hm];simp;omega
   have hlt2:∀ d:D,done.length<(done++d::ds).length:=fun d=>by simp
   have B:∀ x:D,(0≤(done.length:Int)∧(done.length:Int)<(m:Int)∧done.length<(done++x::ds).length):=fun x=>⟨by omega,hlt,hlt2 x⟩
   have hfoot:∀ (x0 x1 x2 x3 x4 x6:Value) (eT eR eA:List D),zB eT=zB esT→eT.length=esT.length→zB eR=zB esR→eR.length=esR.length→zB eA=zB esA→eA.length=esA.length →
     (tmD x0 x1 x2 x3 x4 x6 aT eT cT aR eR cR aA eA cA).foot=(tmD (.int .i64 kk) (.string nm) (.string ot) (.int .i64 nn) (.int .i64 kT) (.int .i64 kR) aT esT cT aR esR cR aA esA cA).foot:=fun x0 x1 x2 x3 x4 x6 eT eR eA h1 h2 h3 h4 h5 h6=>by
    rw [zDJ,zDJ,sV h2 h1,sV h4 h3,sV h6 h5]
   have hndE:=zIa (b:=[]) hnd
   have hfE:=@zDJ (.int .i64 kk) (.string nm) (.string ot) (.int .i64 nn) (.int .i64 kT) (.int .i64 kR) aT esT cT aR esR cR aA esA cA
   rw [hfE,List.nodup_append,List.nodup_append] at hndE
   have hT':∀ b∈(tmD (.int .i64 kk) (.string nm) (.string ot) (.int .i64 nn) (.int .i64 kT) (.int .i64 kR) aT esT cT aR esR cR aA esA cA).foot,b∈T:=fun b hb=>hT b (hf ▸ by rw [zF];exact List.mem_append_right _ (by simp only [zB];exact List.mem_append_left _ hb))
   rw [hfE] at hT'
   have hflT:(D.sl aT 2 esT cT).Flat0:=hfl.1.2.2.2.2.2.1
   have hflR:(D.sl aR 2 esR cR).Flat0:=hfl.1.2.2.2.2.2.2.2.1
   have hflA:(D.sl aA 9 esA cA).Flat0:=hfl.1.2.2.2.2.2.2.2.2.1
   have hlT:=hesT;have hlR:=hesR
   refine vk _ _ _ _ _ _ _ _ _ _ _ _ ?_
   rw [i64_in (k+1) (by omega),i64_in (k+1+1) (by omega),i64_in (k+1+1+1) (by omega),i64_in (k+1+1+1+1) (by omega)]
   simp only [Int.toNat_natCast,Nat.zero_add,sc,zCQ,zHM,p90,p91,p92,p93,p94,p95,p96,p97,p98]
   refine Br.of (fun _=>?_) fun hc=>absurd hlt (of_decide_eq_false hc)
   refine ⟨B _,hlt2 _,fun N2 hN2=>?_⟩
   refine sd (k+1) (by omega) (by omega) N2 _ fun N3 hN3 _=>?_
   refine ⟨B _,hlt2 _,fun N4 hN4=>?_⟩
   refine sd (k+1+1) (by omega) (by omega) N4 _ fun N5 hN5 _=>?_
   refine ⟨B _,hlt2 _,B _,hlt2 _,B _,hlt2 _,B _,hlt2 _,aT,esT,cT,rfl,⟨hndE.1,hflT⟩,⟨fun b hb=>hT' b (List.mem_append_left _ hb)⟩,hlt2 _,by simp,rfl,
    ⟨qA hnd (hfoot _ _ _ _ _ _ esT esR esA rfl rfl rfl rfl rfl rfl)⟩,⟨by simp⟩,fun N6 hN6=>?_⟩
   rw [i64_in (k+1+1+1+1+1) (by omega)]
   have hkT:=wz lT (k+1+1+1+1+1)
   refine ui lT esT hesT aT cT ⟨hndE.1,hflT⟩ hlenT (k+1+1+1+1+1) (by omega) (by omega) N6 _ fun esT' N7 hN7 h1 h2 h3 _=>?_
   generalize (za lT (k+1+1+1+1+1)).2=kT' at *
   generalize (za lT (k+1+1+1+1+1)).1=lT' at *
   refine ⟨B _,hlt2 _,B _,hlt2 _,aR,esR,cR,rfl,⟨hndE.2.1.1,hflR⟩,⟨fun b hb=>hT' b (List.mem_append_right _ (List.mem_append_left _ hb))⟩,hlt2 _,by simp,rfl,
    ⟨qA hnd (hfoot _ _ _ _ _ _ esT' esR esA h2 h3 rfl rfl rfl rfl)⟩,⟨by simp⟩,fun N8 hN8=>?_⟩
   rw [i64_in (kT'+1) (by omega)]
   have hkR:=wz lR (kT'+1)
   refine ui lR esR hesR aR cR ⟨hndE.2.1.1,hflR⟩ hlenR (kT'+1) (by omega) (by omega) N8 _ fun esR' N9 hN9 h4 h5 h6 _=>?_
   generalize (za lR (kT'+1)).2=kR' at *
   generalize (za lR (kT'+1)).1=lR' at *
   refine ⟨B _,hlt2 _,aA,esA,cA,rfl,⟨hndE.2.1.2.1,hflA⟩,⟨fun b hb=>hT' b (List.mem_append_right _ (List.mem_append_right _ hb))⟩,hlt2 _,by simp,rfl,
    ⟨qA hnd (hfoot _ _ _ _ _ _ esT' esR' esA h2 h3 h5 h6 rfl rfl)⟩,⟨by simp⟩,fun N10 hN10=>?_⟩
   have hkA:=zB8 la kR'
   refine rd la esA hesA aA cA ⟨hndE.2.1.2.1,hflA⟩ hlenA kR' (by omega) (by omega) N10 _ fun esA' N11 hN11 h7 h8 h9 _=>?_
   generalize (yw la kR').2=k' at *
   generalize (yw la kR').1=la' at *
   rw [i64_in ((done.length:Int)+1) (by rw [hm] at hlt;simp at hlt hlen;omega)]
   have hfx:=hfoot (.int .i64 k) (.string (sS (k+1))) (.string (sS (k+1+1))) (.int .i64 (k+1+1+1)) (.int .i64 (k+1+1+1+1)) (.int .i64 kT') esT' esR' esA' h2 h3 h5 h6 h8 h9
   have hix:(Tm.mk k (sS (k+1)) (sS (k+1+1)) (k+1+1+1) (.mk (k+1+1+1+1) lT') (.mk kT' lR') la').Is (tmD (.int .i64 k) (.string (sS (k+1))) (.string (sS (k+1+1))) (.int .i64 (k+1+1+1)) (.int .i64 (k+1+1+1+1)) (.int .i64 kT') aT esT' cT aR esR' cR aA esA' cA):=by
    simp only [Tm.Is]
    have hs1:=zF5 (k+1)
    have hs2:=zF5 (k+1+1)
    exact ⟨_,_,_,_,_,_,_,rfl,⟨by omega,by omega,Ty.is_mk.2 ⟨_,_,_,rfl,by omega,tO h1⟩,Ty.is_mk.2 ⟨_,_,_,rfl,by omega,tO h4⟩⟩,by omega,h7⟩
   generalize hx:tmD (.int .i64 k) (.string (sS (k+1))) (.string (sS (k+1+1))) (.int .i64 (k+1+1+1)) (.int .i64 (k+1+1+1+1)) (.int .i64 kT') aT esT' cT aR esR' cR aA esA' cA=x at *
   have e1:((done++[x]).length:Int)=(done.length:Int)+1:=by simp
   have e2:done++x::ds=(done++[x])++ds:=by simp
   rw [←e1]
   show yL T b0 _ N m c k' _ t (done++tmD (.int .i64 k) (.string (sS (k+1))) (.string (sS (k+1+1))) (.int .i64 (k+1+1+1)) (.int .i64 (k+1+1+1+1)) (.int .i64 kT') aT esT' cT aR esR' cR aA esA' cA::ds) q N11
   rw [hx,e2]
   exact zIS ts ds hds _ (done++[x]) (hd.snoc hix) es (by rw [List.append_assoc,List.singleton_append,zB5 hfx];exact hf) (by rw [List.append_assoc,List.singleton_append];exact qA hnd hfx) hfl.2 (by simpa using hlen) T hT b0 N m c t k'
    (by omega) (by omega) L K (by rw [hL];simp) hK q N11 (by omega) (by rw [hm];simp)
end
/-- a term behind the marks on its parts -/
def Tm.mkd:Tm→Int→Tm
 | .mk kk nm ot n ty re l,k=>.mk kk nm ot n (.mk ty.k (za ty.as k).1) (.mk re.k (za re.as (za ty.as k).2).1) (yw l (za re.as (za ty.as k).2).2).1
def Tm.mkk:Tm→Int→Int
 | .mk kk nm ot n ty re l,k=>(yw l (za re.as (za ty.as k).2).2).2
theorem Tm.mkk_k:∀ (t:Tm) (k:Int),k≤t.mkk k∧t.mkk k≤k+4*t.cnt
 | .mk _ _ _ _ (.mk _ tl) (.mk _ rl) l,k=>by
   have:=zB8 l (k+zO tl+zO rl)
   simp only [Tm.mkk,Tm.cnt,Ty.cnt,Ty.as,wz]
   omega
theorem zKA {t:Tm} {d:D} (hd:t.Is d) (ht:Tree d) (k:Int) (hk:0≤k) (hk2:k+4*t.cnt≤4611686018427387904) (N:Nat) (R:D→Int→Nat→Prop)
  (hR:∀ d' N',N≤N'→(t.mkd k).Is d'→d'.foot=d.foot→d'.cells.map D.cv=d.cells.map D.cv→R d' (t.mkk k) N'):MC prog 14 d k N R:=by
 cases t with
 | mk kk nm ot nn ty re la=>
 obtain ⟨t0,t1,r0,r1,aA,esA,cA,rfl,hh,hlenA,hesA⟩:=Tm.is_mk.1 hd
 obtain ⟨kT,lT,aT,esT,cT,rfl,rfl,rfl,hlenT,hesT⟩:=Ty.is_two hh.ty
 obtain ⟨kR,lR,aR,esR,cR,rfl,rfl,rfl,hlenR,hesR⟩:=Ty.is_two hh.re
 have hfE:=@zDJ (.int .i64 kk) (.string nm) (.string ot) (.int .i64 nn) (.int .i64 kT) (.int .i64 kR) aT esT cT aR esR cR aA esA cA
 have hnd:=ht.nd
 rw [show (D.ag [D.lit (.int .i64 kk),.lit (.string nm),.lit (.string ot),.lit (.int .i64 nn),.lit (.int .i64 kT),.sl aT 2 esT cT,.lit (.int .i64 kR),.sl aR 2 esR cR,.sl aA 9 esA cA]).foot=_ from hfE,List.nodup_append,List.nodup_append] at hnd
 have hfl:=ht.fl
 have hflT:(D.sl aT 2 esT cT).Flat0:=hfl.2.2.2.2.2.1
 have hflR:(D.sl aR 2 esR cR).Flat0:=hfl.2.2.2.2.2.2.2.1
 have hflA:(D.sl aA 9 esA cA).Flat0:=hfl.2.2.2.2.2.2.2.2.1
 simp only [Tm.cnt,Ty.cnt] at hk2
 simp only [Tm.mkd,Tm.mkk,Ty.as,Ty.k] at hR
 have hfoot:∀ (eT eR eA:List D),zB eT=zB esT→eT.length=esT.length→zB eR=zB esR→eR.length=esR.length→zB eA=zB esA→eA.length=esA.length →
   zB [D.lit (.int .i64 kk),.lit (.string nm),.lit (.string ot),.lit (.int .i64 nn),.lit (.int .i64 kT),.sl aT 2 eT cT,.lit (.int .i64 kR),.sl aR 2 eR cR,.sl aA 9 eA cA] =
   zB [D.lit (.int .i64 kk),.lit (.string nm),.lit (.string ot),.lit (.int .i64 nn),.lit (.int .i64 kT),.sl aT 2 esT cT,.lit (.int .i64 kR),.sl aR 2 esR cR,.sl aA 9 esA cA]:=fun eT eR eA h1 h2 h3 h4 h5 h6=>by
  simp only [zB,sV (a:=aT) (z:=2) (c:=cT) h2 h1,sV (a:=aR) (z:=2) (c:=cR) h4 h3,sV (a:=aA) (z:=9) (c:=cA) h6 h5]
 have honce:(zB [D.lit (.int .i64 kk),.lit (.string nm),.lit (.string ot),.lit (.int .i64 nn),.lit (.int .i64 kT),.sl aT 2 esT cT,.lit (.int .i64 kR),.sl aR 2 esR cR,.sl aA 9 esA cA]).Nodup:=by
  have:=ht.nd;simpa only [D.foot] using this
 have hin:∀ b∈(D.sl aT 2 esT cT).foot++((D.sl aR 2 esR cR).foot++(D.sl aA 9 esA cA).foot),b∈(D.ag [D.lit (.int .i64 kk),.lit (.string nm),.lit (.string ot),.lit (.int .i64 nn),.lit (.int .i64 kT),.sl aT 2 esT cT,.lit (.int .i64 kR),.sl aR 2 esR cR,.sl aA 9 esA cA]).foot:=fun b hb=>by
  rw [show (D.ag [D.lit (.int .i64 kk),.lit (.string nm),.lit (.string ot),.lit (.int .i64 nn),.lit (.int .i64 kT),.sl aT 2 esT cT,.lit (.int .i64 kR),.sl aR 2 esR cR,.sl aA 9 esA cA]).foot=_ from hfE];exact hb
 have hf2:∀ (x:Value) (a:Option Addr) (es:List D) (c:Nat),(D.ag [.lit x,.sl a 2 es c]).foot=(D.sl a 2 es c).foot:=fun x a es c=>by simp only [D.foot,zB,List.nil_append,List.append_nil]
 have tT:Tree (.ag [.lit (.int .i64 kT),.sl aT 2 esT cT]):=⟨by rw [hf2];exact hnd.1,trivial,hflT,trivial⟩
 have tR:Tree (.ag [.lit (.int .i64 kR),.sl aR 2 esR cR]):=⟨by rw [hf2];exact hnd.2.1.1,trivial,hflR,trivial⟩
 refine zEh N _ k R (fun k' x N'=>N≤N'∧∃ eT eR eA,x=.ag [D.lit (.int .i64 kk),.lit (.string nm),.lit (.string ot),.lit (.int .i64 nn),.lit (.int .i64 kT),.sl aT 2 eT cT,.lit (.int .i64 kR),.sl aR 2 eR cR,.sl aA 9 eA cA]∧zB eT=zB esT∧eT.length=esT.length∧zB eR=zB esR∧eR.length=esR.length∧zB eA=zB esA∧eA.length=esA.length ∧
   TysIs (za lT k).1 eT∧TysIs (za lR (za lT k).2).1 eR∧zCx (yw la (za lR (za lT k).2).2).1 eA∧k'=(yw la (za lR (za lT k).2).2).2)
  ⟨_,rfl,rfl,by simp [D.isCell];exact ⟨rfl,rfl,rfl,rfl,rfl,rfl⟩⟩ ⟨tT,⟨fun b hb=>hin b (List.mem_append_left _ (by rw [←hf2 (.int .i64 kT)];exact hb))⟩,by simp [D.cells],rfl,⟨honce⟩,⟨by simp⟩,fun N1 hN1=>?_⟩ ?_
 ·have hkT:=wz lT k
  refine zFj hesT hlenT tT k hk (by omega) N1 _ fun eT N2 hN2 h1 h2 h3 _=>?_
  generalize (za lT k).2=k1 at *
  refine ⟨tR,⟨fun b hb=>hin b (List.mem_append_right _ (List.mem_append_left _ (by rw [←hf2 (.int .i64 kR)];exact hb)))⟩,by simp [D.cells,yc],rfl,⟨(hfoot eT esR esA h2 h3 rfl rfl rfl rfl).symm ▸ honce⟩,⟨by simp⟩,fun N3 hN3=>?_⟩
  have hkR:=wz lR k1
  refine zFj hesR hlenR tR k1 (by omega) (by omega) N3 _ fun eR N4 hN4 h4 h5 h6 _=>?_
  generalize (za lR k1).2=k2 at *
  refine ⟨aA,esA,cA,rfl,⟨hnd.2.1.2.1,hflA⟩,⟨fun b hb=>hin b (List.mem_append_right _ (List.mem_append_right _ hb))⟩,by simp [D.cells,yc],rfl,⟨(hfoot eT eR esA h2 h3 h5 h6 rfl rfl).symm ▸ honce⟩,⟨by simp⟩,fun N5 hN5=>?_⟩
  refine rd la esA (uF.2 hesA) aA cA ⟨hnd.2.1.2.1,hflA⟩ hlenA k2 (by omega) (by omega) N5 _ fun eA N6 hN6 h7 h8 h9 _ N7 hN7=>?_
  exact ⟨by omega,eT,eR,eA,rfl,h2,h3,h5,h6,h8,h9,h1,h4,h7,rfl⟩
 ·rintro k' x N' ⟨hN',eT,eR,eA,rfl,h1,h2,h3,h4,h5,h6,g1,g2,g3,rfl⟩
  refine ⟨_,rfl,by simp [D.cv,h2,h4,h6],hfoot eT eR eA h1 h2 h3 h4 h5 h6,hR _ N' hN' ?_ (hfoot eT eR eA h1 h2 h3 h4 h5 h6) (by simp [D.cells,D.cv,h2,h4,h6])⟩
  exact Tm.is_mk.2 ⟨_,_,_,_,_,_,_,rfl,⟨hh.nm,hh.ot,Ty.is_mk.2 ⟨_,_,_,rfl,by omega,tO g1⟩,Ty.is_mk.2 ⟨_,_,_,rfl,by omega,tO g2⟩⟩,by omega,uF.1 g3⟩
theorem zKO {t:Tm} {d:D} (hd:t.Is d) (ht:Tree d) (k:Int) (hk:0≤k) (hk2:k+4*t.cnt≤4611686018427387904) (N:Nat) (R:D→Int→Nat→Prop)
  (hR:∀ d' N',N≤N'→(t.mkd k).Is d'→d'.foot=d.foot→R d' (t.mkk k) N'):MC prog 14 d k N R:=
 zKA hd ht k hk hk2 N R fun d' N' h1 h2 h3 _=>hR d' N' h1 h2 h3
theorem zL9 {t:Tm} {d:D} (hd:t.Is d) (ht:Tree d) (k:Int) (hk:0≤k) (hk2:k+4*t.cnt≤4611686018427387904) (N:Nat) (R:D→Int→Nat→Prop)
  (hR:∀ d' k' N',N≤N'→d'.foot=d.foot→0≤k'→k'≤k+4*t.cnt→R d' k' N'):MC prog 14 d k N R:=
 zKO hd ht k hk hk2 N R fun d' N' h1 _ h2=>by have:=t.mkk_k k;exact hR d' _ N' h1 h2 (by omega) (by omega)
end Go.Proofs.YtnpjpplbkoammaaGreat
