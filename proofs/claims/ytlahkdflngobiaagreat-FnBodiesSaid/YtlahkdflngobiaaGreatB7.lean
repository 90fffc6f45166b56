/- Free names: the program's and the reference's. -/
import Derived.Test.YtlahkdflngobiaaGreatB6
set_option linter.unusedVariables false
set_option linter.unusedSimpArgs false
namespace Go.Proofs.YtlahkdflngobiaaGreat
open Go Go.Proofs Go.Proofs.Tryz Go.IntWalk
mutual
/-- variables -/
def Tm.vc:Tm->Nat
 | .mk k _ _ _ _ _ l=>if k=1 then 1 else vq l
def vq:List Tm->Nat
 | []=>0
 | t::I=>t.vc+vq I
end
theorem zCJ:∀ {l:List Tm} {t:Tm},t∈l->t.vc<=vq l
 | u::us,t,h=>by
   simp only [vq]
   rcases oG.1 h with rfl | h
   ·omega
   ·have:=zCJ h;omega
mutual
theorem Tm.vc_cnt:∀ t:Tm,3*t.vc<=t.cnt
 | .mk k nm ot n ty re l=>by
   have:=Ty.cnt_pos ty
   have:=Ty.cnt_pos re
   have:=zKD l
   simp only [Tm.vc,Tm.cnt]
   split<;>omega
theorem zKD:∀ l:List Tm,3*vq l<=zR l
 | []=>oD _
 | t::I=>by
   have:=Tm.vc_cnt t
   have:=zKD I
   simp only [vq,zR];omega
end
mutual
theorem Tm.fv_len:∀ t:Tm,t.fv.length<=t.vc
 | .mk k nm ot n ty re l=>by
   simp only [Tm.fv,Tm.vc]
   split
   ·simp
   ·have:=zJv l (xW k l.length) (bdN k nm ot l.length) 0 []
    simp at this;omega
theorem zJv:∀ (l:List Tm) (at_:Int) (ns:List ByteArray) (i:Nat) (out:List ByteArray),(zDV l at_ ns i out).length<=out.length+vq l
 | [],_,_,_,out=>by simp [zDV]
 | x::xs,at_,ns,i,out=>by
   simp only [zDV,vq]
   have O:=zJv xs at_ ns (i+1) (zAl out (if (i:Int)=at_ then zFu ns x.fv else x.fv))
   have I:=Tm.fv_len x
   have U:(if (i:Int)=at_ then zFu ns x.fv else x.fv).length<=x.vc:=by
    split
    ·exact oR (mP _ _) I
    ·exact I
   have Y:(zAl out (if (i:Int)=at_ then zFu ns x.fv else x.fv)).length<=out.length+(if (i:Int)=at_ then zFu ns x.fv else x.fv).length:=by
    unfold zAl
    have a1:=zJ3 (dd [] out) (if (i:Int)=at_ then zFu ns x.fv else x.fv)
    have J:=zJ3 [] out
    simp at J;omega
   omega
end
theorem zKC (a b:List ByteArray):(zAl a b).length<=a.length+b.length:=by
 unfold zAl
 have a1:=zJ3 (dd [] a) b
 have I:=zJ3 [] a
 simp at I;omega
theorem zNe (ns l:List ByteArray) (s:ByteArray):(zFu ns l).filter (λx=>decide (x≠s))=zFu (ns++[s]) l:=by
 unfold zFu
 rw [List.filter_filter]
 congr 1
 funext x
 rw [nz]
 simp
 exact And.comm
theorem zHk (l:List ByteArray):zFu [] l=l:=by simp [zFu]
theorem uZ:∀ (t:Tm) (d:D),t.Is d->t.vc<=2199023255552->zT2 173 [.dg 9 d] t.fv:=by
 refine Tm.ind λk nm ot n0 ty re l ih d hd hG N Q hQ=>?_
 obtain ⟨t0,t1,r0,r1,a,es,c,rfl,hh,ak,al⟩:=Tm.is_mk.1 hd
 have hl:=al.len
 simp only [Tm.vc] at hG
 refine zEh N _ Q λ_=>⟨_,rfl,Br.beq (λh1=>⟨_,rfl,⟨rfl,rfl⟩,⟨rfl,rfl⟩,λa1 N1 ax hf N2 am=>?_⟩) λh1 N3 a5=>zBJ (n:=l.length) (by omega) N3 _ λa3 c3 N4 ba _ _ _=>?_⟩
 ·have e:(Tm.mk k nm ot n0 ty re l).fv=[nm]:=by simp [Tm.fv,h1]
  rw [e] at hQ
  exact hQ _ _ _ (by omega) (tl (l:=[nm]) hf am)
 ·have e:(Tm.mk k nm ot n0 ty re l).fv=zDV l (xW k l.length) (bdN k nm ot l.length) 0 []:=by simp [Tm.fv,h1]
  rw [e] at hQ
  rw [if_neg h1] at hG
  have ay:=zER k nm ot l.length
  generalize bdN k nm ot l.length=ns at hQ ay ⊢
  generalize xW k l.length=at_ at hQ ⊢
  generalize hy:(D.ag [.j k,.t nm,.t ot,.j n0,t0,t1,r0,r1,.sl a 9 es c])=y
  have ah:y.cell 8=.sl a 9 es c:=by rw [<-hy];rfl
  have bb:=zW ns
  have inner:∀ (i:Nat) (x:Tm) (out:List ByteArray) (q N1:Nat),N<=N1->out.length<=2199023255552->x.fv.length<=2199023255552 ->
    (∀ c N'',N1<=N''->zx Q N a3 (zC ns) c3 at_ (zC (zAl out (if (i:Int)=at_ then zFu ns x.fv else x.fv))).length c (IntKind.i64.wrap (i+1)) y (zC (zAl out (if (i:Int)=at_ then zFu ns x.fv else x.fv))) c N'') ->
    ∀ O U,Own N N1 (.sl O 0 (zC x.fv) U)->yc Q N a3 (zC ns) c3 at_ (zC out).length q i O (zC x.fv) U 0 y (zC out) q N1:=λi x out q N1 ax ho hx hc O U h7=>by
   have fin:∀ (Y:List ByteArray) (O:Option Addr) (U N':Nat),N1<=N'->Y=(if (i:Int)=at_ then zFu ns x.fv else x.fv) ->
     ((zC out).length=(zC out).length/\q=q)/\∀ ac,ApA ac (zC out)->Off [ac] (.sl O 0 (zC Y) U)->∀ N3,N'<=N3->vI N3 [ac]->ACalls prog 184 [.row 9 0] [.sv ac 0 (zC out) q,.sv O 0 (zC Y) U] N3 (λaa ao N4=>N3<=N4->Off [ac] (D.ag aa)/\(Bel N4 (D.ag aa)->zx Q N a3 (zC ns) c3 at_ aa.length ao (IntKind.i64.wrap (i+1)) y aa ao N4)):=λY O U N' ab J=>⟨⟨rfl,rfl⟩,λa9 _ _ N5 aq a4=>by
    have h5:Y.length<=2199023255552:=by
     rw [J];split
     ·exact oR (mP _ _) hx
     ·exact hx
    refine tq out Y ho h5 a9 O q U N5 _ λc8 N8 az _=>⟨zO8 _,λ_=>?_⟩
    subst J
    exact hc _ _ (by omega)⟩
   refine up (va ns) (by omega) (λj xs=>∀ (Y:List ByteArray) O U N',N1<=N'->Y=zFu (ns.take j) x.fv->((i:Int)≠at_->j=0)->yc Q N a3 (zC ns) c3 at_ (zC out).length q i O (zC Y) U j y (zC out) q N') ?_ ?_ x.fv O U N1 (oD _) (by rw [mv,zHk]) (λ_=>rfl)
   ·intro j ai hj Y O U N' ab J I
    refine tJ _ _ _ _ _ _ _ _ _ _ _ _ _ _ _ _ _ ?_
    rw [ai]
    refine fin Y O U N' ab ?_
    rw [J,oa (by omega)]
    split
    ·rfl
    ·rename_i ae
     have:=I ae
     have:ns=[]:=oW (by omega)
     rw [this,zHk]
   ·intro j s xs I _ aj Y O U N' ab J hj
    have hb:=I.b
    have hr:=I.r
    refine tJ _ _ _ _ _ _ _ _ _ _ _ _ _ _ _ _ _ ?_
    rw [I.lt]
    refine Br.beq (λhe=>⟨⟨by omega,by omega⟩,s,?_,λN2 am=>zHD Y ?_ O U s N2 _ λa8 c8 N8 az _ _ _=>?_⟩) λae=>fin Y O U N' ab ?_
    ·rw [oH,hr]
    ·rw [J];exact oR (mP _ _) hx
    ·rw [I.w]
     refine aj _ _ _ _ (by omega) ?_ (λhc=>absurd he hc)
     rw [J,zNe,zX I.g]
    ·rw [if_neg ae,J,hj ae,mv,zHk]
  refine up al ak (λi xs=>∀ (out:List ByteArray) (q N':Nat),N<=N'->out.length+vq xs<=vq l->zDV xs at_ ns i out=zDV l at_ ns 0 []->zx Q N a3 (zC ns) c3 at_ (zC out).length q i y (zC out) q N') ?_ ?_ [] 0 N4 (by omega) (by simp) rfl
  ·intro i ai hi out q N' ab _ he
   refine tz _ _ _ _ _ _ _ _ _ _ _ _ _ ⟨_,_,_,ah,?_⟩
   rw [ai]
   simp only [zDV] at he
   subst he
   exact ⟨⟨rfl,rfl⟩,⟨rfl,rfl⟩,⟨rfl,rfl⟩,λa1 N5 aq hf N6 au=>hQ _ _ _ (by omega) (tl hf au)⟩
  ·intro i x xs I _ aj out q N' ab a0 he
   have hb:=I.b
   simp only [vq] at a0
   have aw:=Tm.fv_len x
   have bc:=zKC out (if (i:Int)=at_ then zFu ns x.fv else x.fv)
   have bd:(if (i:Int)=at_ then zFu ns x.fv else x.fv).length<=x.vc:=by
    split
    ·exact oR (mP _ _) aw
    ·exact aw
   refine tz _ _ _ _ _ _ _ _ _ _ _ _ _ ⟨_,_,_,ah,?_⟩
   rw [I.lt]
   refine ⟨_,_,_,ah,⟨by omega,by omega⟩,λN5 aq=>?_⟩
   rw [oH]
   refine ih x I.m _ I.r (by omega) N5 _ λa6 c6 N6 au a2 _ _=>inner i x out q N6 (by omega) (by omega) (by omega) (λc N'' h1=>?_) a6 c6 (a2.mono (by omega) (oD _))
   rw [I.w]
   exact aj _ _ _ (by omega) (by omega) (by rw [<-he];rfl)
def zRC (f:FuncId) (args:List PV) (s:ByteArray):Prop:=∀ (N:Nat) (Q:QT [.str]),(∀ N',N<=N'->Q s N')->ACalls prog f [.str] args N Q
theorem Qst {Q:QT [.str]} {a b:ByteArray} {N:Nat} (h:Q a N) (e:a=b):Q b N:=e ▸ h
def zUP (u:Nat):ByteArray:=⟨(Lib.decDigits u).toArray⟩
theorem zK3 (u:Nat) (h:u<=4611686018427387904):Lib.nDigits u<=20:=by
 by_cases I:1<=u
 ·have:=Lib.numDigits_eq u I (by omega);split at this<;>omega
 ·rw [Lib.nDigits_small (by omega)];omega
theorem zN1 (u:Nat):(zUP u).size=Lib.nDigits u:=by
 show (Lib.decDigits u).toArray.size=_
 rw [nB,Lib.decDigits_length]
theorem zDp {a b:ByteArray} (h:a.data.toList=b.data.toList):a=b:=by
 cases a;cases b;simp at h;rw [h]
theorem zRM (a b:ByteArray):(a++b).data.toList=a.data.toList++b.data.toList:=by simp
theorem zP2 (k:Nat):bytes [118]++zUP k=u3 k:=zDp (by rw [zRM];rfl)
theorem zMt (k:Nat) (h:k<=4611686018427387904):(u3 k).size<=21:=by
 have:=zK3 k h
 show (118::Lib.decDigits k).toArray.size<=21
 rw [nB,oJ,Lib.decDigits_length];omega
theorem zPo (m:Nat) (s:ByteArray) (hs:∀ u,u<10->Lib.decDigits u=[UInt8.ofNat (48+u)]):(bytesOf [IntKind.u8.wrap (IntKind.i64.wrap (48+Int.tmod (m:Int) 10))]++s).data.toList=UInt8.ofNat (48+m % 10)::s.data.toList:=by
 rw [zRM]
 have e:IntKind.u8.wrap (IntKind.i64.wrap (48+Int.tmod (m:Int) 10))=((48+m % 10:Nat):Int):=by
  have:Int.tmod (m:Int) 10=((m % 10:Nat):Int):=by rw [np (by omega)];omega
  rw [this,i64_in _ (by omega),IntKind.wrap_u8];omega
 rw [e]
 have I:bytesOf [((48+m % 10:Nat):Int)]=⟨#[UInt8.ofNat (48+m % 10)]⟩:=rfl
 rw [I]
 rfl
theorem zDM (u:Nat) (h:u<=4611686018427387904):zRC 187 [.j u] (zUP u):=λN Q hQ=>by
 have e1:∀ u,u<10->Lib.decDigits u=[UInt8.ofNat (48+u)]:=λu h=>by rw [Lib.decDigits,dif_pos h]
 have e2:∀ u,¬u<10->Lib.decDigits u=Lib.decDigits (u / 10)++[UInt8.ofNat (48+u % 10)]:=λu h=>by rw [Lib.decDigits,dif_neg h]
 refine zCw N u Q (Br.beq (λh0 N1 Y=>?_) λh0=>?_)
 ·have:u=0:=by omega
  subst this
  refine Qst (hQ _ Y) (zDp ?_)
  show Lib.decDigits 0=[48]
  rw [e1 0 (by omega)]
  rfl
 ·rw [mX (by omega)]
  have key:∀ (m:Nat) (s:ByteArray),m<=u->s.size+Lib.nDigits m<=20\/(m=0/\s.size<=20)->(if m=0 then [] else Lib.decDigits m)++s.data.toList=Lib.decDigits u->yd Q N m false s N:=by
   intro m
   induction m using Nat.strongRecOn with
   | _ m ih=>
     intro s hm O he
     refine zBZ _ _ _ _ _ _ ?_
     refine Br.bne (λI=>?_) λI=>?_
     ·have I:m≠0:=by omega
      have ht:Int.tmod (m:Int) 10=((m % 10:Nat):Int):=by rw [np (by omega)];omega
      have hd:Int.tdiv (m:Int) 10=((m / 10:Nat):Int):=by rw [Int.tdiv_eq_ediv_of_nonneg (by omega)];omega
      have O:s.size+Lib.nDigits m<=20:=by rcases O with U | ⟨U,_⟩;exact U;exact absurd U I
      refine ⟨by omega,?_⟩
      rw [mX (by omega)]
      refine ⟨by simp,[IntKind.u8.wrap (IntKind.i64.wrap (48+Int.tmod (m:Int) 10))],rfl,?_,by omega,?_⟩
      ·have:(bytesOf [IntKind.u8.wrap (IntKind.i64.wrap (48+Int.tmod (m:Int) 10))]).size=1:=rfl
       omega
      ·rw [hd,i64_in _ (by omega)]
       refine ih (m / 10) (by omega) _ (by omega) ?_ ?_
       ·have U:(bytesOf [IntKind.u8.wrap (IntKind.i64.wrap (48+Int.tmod (m:Int) 10))]++s).size=1+s.size:=by
         rw [ByteArray.size_append];rfl
        by_cases J:m<10
        ·right
         have:=Lib.nDigits_pos m
         exact ⟨by omega,by omega⟩
        ·left
         have:=Lib.nDigits_big J
         omega
       ·rw [zPo m s e1,<-he,if_neg I]
        by_cases J:m<10
        ·rw [if_pos (by omega),e1 m J,show m % 10=m by omega];rfl
        ·rw [if_neg (by omega),e2 m J];simp
     ·have:m=0:=by omega
      subst this
      refine λN2 aa=>Qst (hQ _ aa) (zDp ?_)
      rw [if_pos rfl] at he
      exact he.symm
  refine key u (bytes []) (oD _) (.inl ?_) ?_
  ·have:=zK3 u h
   show 0+_<=_
   omega
  ·rw [if_neg (by omega)];exact nR _
theorem zMq (l:List ByteArray) (P:Nat->Nat->Prop) (N:Nat) (F:ByteArray->Nat->Prop) (hF:∀ N',N<=N'->F (fresh l) N')
  (step:∀ (k N':Nat),N<=N'->k<=l.length+1->(∀ N'',N'<=N''->u3 k∈l->P (k+1) N'')->(∀ N'',N'<=N''->u3 k∉l->F (u3 k) N'')->P k N'):P 1 N:=by
 have key:∀ (f k:Nat) (N':Nat),N<=N'->1<=k->k+f=l.length+1->(∀ j,1<=j->j<k->u3 j∈l)->rm f k l=rm l.length 1 l->P k N':=by
  intro f
  induction f with
  | zero=>
    intro k N' J aa ab I O
    refine step k N' J (by omega) (λN'' Y U=>?_) λN'' Y U=>?_
    ·exfalso
     have:=zRP l (k+1) (λj h4 h5=>by
      by_cases h6:j=k
      ·subst h6;exact U
      ·exact I j h4 (by omega)) (by omega)
     omega
    ·have:=hF N'' (by omega)
     unfold fresh at this
     rw [<-O] at this
     exact this
  | succ f ih=>
    intro k N' J aa ab I O
    simp only [rm] at O
    refine step k N' J (by omega) (λN'' Y U=>?_) λN'' Y U=>?_
    ·rw [if_pos U] at O
     exact ih (k+1) N'' (by omega) (by omega) (by omega) (λj h4 h5=>by
      by_cases h6:j=k
      ·subst h6;exact U
      ·exact I j h4 (by omega)) O
    ·rw [if_neg U] at O
     have:=hF N'' (by omega)
     unfold fresh at this
     rw [<-O] at this
     exact this
 exact key l.length 1 N (oD _) (oD _) (by omega) (λj Y h2=>by omega) rfl
theorem zDD (l:List ByteArray) (hl:l.length<=8796093022208) (a:Option Addr) (c:Nat):zRC 185 [.sv a 0 (zC l) c] (fresh l):=λN Q O=>by
 refine zCu N a _ c Q λ_=>?_
 refine zMq l (λk N'=>xh Q N a (zC l) c k N') N (λs N'=>Q s N') O λk N' U hk J I=>?_
 have Y:=zK3 k (by omega)
 have aa:=zN1 k
 refine zAK _ _ _ _ _ _ _ λN1 ab=>zDM k (by omega) N1 _ λN2 ac _=>⟨by omega,λN3 ae=>?_⟩
 rw [zP2]
 refine yj l (by omega) a c (u3 k) N3 _ λN4 ah _=>?_
 simp only [zD9]
 refine Br.dec (λh N5 ai=>I _ (by omega) h) λh=>?_
 rw [i64_in _ (by omega)]
 exact J _ (by omega) (mU.1 h)
mutual
/-- variables have no parts -/
def Tm.V:Tm->Prop
 | .mk k _ _ _ _ _ l=>(k=1->l=[])/\zRR l
def zRR:List Tm->Prop
 | []=>True
 | t::I=>t.V/\zRR I
end
theorem tY:∀ {l:List Tm},zRR l↔∀ x∈l,x.V
 | []=>by simp [zRR]
 | t::I=>by simp only [zRR,tY (l:=I),oG,mc]
theorem tU:∀ {l:List Tm} {n:Nat},tf l<=n↔∀ x∈l,x.dp<=n
 | [],n=>by simp [tf]
 | t::I,n=>by simp only [tf,Nat.max_le,tU (l:=I),oG,mc]
theorem Tm.dp_pos (t:Tm):1<=t.dp:=by cases t;simp only [Tm.dp];omega
/-- no greater, no deeper -/
structure LeT (t' t:Tm):Prop where
 c:t'.vc<=t.vc
 d:t'.dp<=t.dp
 v:t.V->t'.V
 g:t.G->t'.G
 s:t'.sz<=t.sz
 n:t'.cnt<=t.cnt
theorem LeT.rfl {t:Tm}:LeT t t:=⟨oD _,oD _,id,id,oD _,oD _⟩
theorem LeT.trans {a b c:Tm} (h:LeT a b) (I:LeT b c):LeT a c:=⟨oR h.c I.c,oR h.d I.d,λJ=>h.v (I.v J),λJ=>h.g (I.g J),oR h.s I.s,oR h.n I.n⟩
theorem zLu:∀ {l' l:List Tm},l'.length=l.length->(∀ (i:Nat) (t' t:Tm),l'[i]?=some t'->l[i]?=some t->LeT t' t)->vq l'<=vq l/\tf l'<=tf l/\(zRR l->zRR l')/\(zL8 l->zL8 l')/\zw l'<=zw l/\zR l'<=zR l
 | [],[],_,_=>⟨oD _,oD _,id,id,oD _,oD _⟩
 | [],_::_,h,_=>by simp at h
 | _::_,[],h,_=>by simp at h
 | t'::O,t::Y,h,U=>by
   obtain ⟨h1,h2,h3,h4,h5,h6⟩:=zLu (l':=O) (l:=Y) (by simpa using h) λi a b ha hb=>U (i+1) a b (by simpa using ha) (by simpa using hb)
   have I:=U 0 t' t (by simp) (by simp)
   have:=I.c
   have:=I.d
   have:=I.s
   have:=I.n
   refine ⟨by simp only [vq];omega,by simp only [tf];omega,λJ=>⟨I.v J.1,h3 J.2⟩,λJ=>⟨I.g J.1,h4 J.2⟩,by simp only [zw];omega,by simp only [zR];omega⟩
theorem zIN {l:List Tm} {g:Tm->Tm} {j:Nat} {v t' t:Tm} {i:Nat} (h:((l.map g).set j v)[i]?=some t') (J:l[i]?=some t):(i=j/\t'=v)\/(i≠j/\t'=g t):=by
 rw [nM] at h
 split at h
 ·rename_i I
  split at h
  ·exact .inl ⟨I.symm,(oT h).symm⟩
  ·cases h
 ·rename_i I
  rw [oF,J] at h
  exact .inr ⟨λhc=>I hc.symm,(oT h).symm⟩
theorem zOE {k:Int} {nm ot J O:ByteArray} {n:Int} {ty re:Ty} {l l':List Tm} (U:k≠1) (h:l'.length=l.length) (Y:∀ (i:Nat) (t' t:Tm),l'[i]?=some t'->l[i]?=some t->LeT t' t):LeT (.mk k J O n ty re l') (.mk k nm ot n ty re l):=by
 obtain ⟨h1,h2,h3,h4,h5,h6⟩:=zLu h Y
 exact ⟨by simp only [Tm.vc,if_neg U];omega,by simp only [Tm.dp];omega,λI=>⟨λhc=>absurd hc U,h3 I.2⟩,λI=>⟨I.1,I.2.1,h ▸ I.2.2.1,h4 I.2.2.2⟩,by simp only [Tm.sz];omega,by simp only [Tm.cnt];omega⟩
theorem zKY {S:Tm->ByteArray->Tm->Tm} (I:∀ t x y,LeT (S t x (zEg y)) t) (k:Int) (n:Nat) (fb:List ByteArray) (x old:ByteArray) (s:ByteArray × ByteArray × Tm):LeT (rn1 S k n fb x old s).2.2 s.2.2:=by
 unfold rn1
 split
 ·split
  ·exact I _ _ _
  ·exact I _ _ _
 ·exact LeT.rfl
theorem sY {S:Tm->ByteArray->Tm->Tm} (I:∀ t x y,LeT (S t x (zEg y)) t) (k:Int) (n:Nat) (fb:List ByteArray) (x:ByteArray):∀ (l:List ByteArray) (s:ByteArray × ByteArray × Tm),LeT (rns S k n fb x l s).2.2 s.2.2
 | [],s=>LeT.rfl
 | old::l,s=>(sY I k n fb x l _).trans (zKY I k n fb x old s)
/-- a name put for a name -/
theorem vn:∀ (f:Nat) (t:Tm) (x y:ByteArray),LeT (t.sub f x (zEg y)) t
 | 0,t,x,y=>by simp only [Tm.sub];exact LeT.rfl
 | f + 1,.mk k nm ot n ty re l,x,y=>by
   have U:=vn f
   simp only [Tm.sub]
   split
   ·rename_i Y
    split
    ·exact ⟨by simp only [zEg,Tm.vc,if_pos Y,mE];exact oD _,by simp only [zEg,Tm.dp,tf];omega,λ_=>⟨λ_=>rfl,trivial⟩,λ_=>by simp [zEg,Tm.G,zL8,Ty.cnt,zJ],by simp only [zEg,Tm.sz,zw];omega,by have:=Ty.cnt_pos ty;have:=Ty.cnt_pos re;simp only [zEg,Tm.cnt,zR,Ty.cnt,zJ];omega⟩
    ·exact LeT.rfl
   ·rename_i Y
    split
    ·refine zOE Y (by simp) λi t' t I J=>?_
     rw [oF,J] at I
     cases I
     exact U t x y
    ·rename_i hb
     obtain ⟨g1,g2⟩:=vL hb
     split
     ·refine zOE Y (by simp) λi t' t I J=>?_
      rcases zIN I J with ⟨h1,O⟩ | ⟨h1,O⟩
      ·rw [h1,zy g1] at J
       rw [O,<-oT J]
       exact LeT.rfl
      ·rw [O];exact U t x y
     ·refine zOE Y (by simp) λi t' t I J=>?_
      rcases zIN I J with ⟨h1,O⟩ | ⟨h1,O⟩
      ·rw [h1,zy g1] at J
       rw [O,<-oT J]
       exact (U _ x y).trans (sY U _ _ _ _ _ _)
      ·rw [O];exact U t x y
/-- what holds of each node of what is put in -/
theorem zRp:∀ (f:Nat) (t:Tm) (x:ByteArray) (b:Tm),t.G->b.G->(t.sub f x b).G
 | 0,t,x,b,h,_=>by simp only [Tm.sub];exact h
 | f + 1,.mk k nm ot n ty re l,x,b,h,U=>by
   have I:=zRp f
   obtain ⟨Y,h2,h3,h4⟩:=h
   have vG:∀ y,(zEg y).G:=λy=>by simp [zEg,Tm.G,zL8,Ty.cnt,zJ]
   simp only [Tm.sub]
   split
   ·split
    ·exact U
    ·exact ⟨Y,h2,h3,h4⟩
   ·split
    ·refine ⟨Y,h2,by simpa using h3,zEQ λy J=>?_⟩
     obtain ⟨z,hz,rfl⟩:=oS.1 J
     exact I z x b (xF h4 hz) U
    ·rename_i aa
     obtain ⟨g1,g2⟩:=vL aa
     have O:=xF h4 (oB (zy g1))
     have key:∀ v:Tm,v.G->zL8 ((l.map λt=>Tm.sub f t x b).set (xW k l.length).toNat v):=λv hv=>zEQ λy J=>by
      rcases nI J with J | rfl
      ·obtain ⟨z,hz,rfl⟩:=oS.1 J
       exact I z x b (xF h4 hz) U
      ·exact hv
     split
     ·exact ⟨Y,h2,by simpa using h3,key _ O⟩
     ·refine ⟨Y,h2,by simpa using h3,key _ (I _ x b ?_ U)⟩
      have r1:∀ (old:ByteArray) (s:ByteArray × ByteArray × Tm),s.2.2.G->(rn1 (Tm.sub f) k l.length b.fv x old s).2.2.G:=λold s hs=>by
       unfold rn1
       split
       ·split
        ·exact I _ _ _ hs (vG _)
        ·exact I _ _ _ hs (vG _)
       ·exact hs
      have rs:∀ (ns:List ByteArray) (s:ByteArray × ByteArray × Tm),s.2.2.G->(rns (Tm.sub f) k l.length b.fv x ns s).2.2.G:=by
       intro ns
       induction ns with
       | nil=>exact λs hs=>hs
       | cons o os ab=>exact λs hs=>ab _ (r1 o s hs)
      exact rs _ _ O
theorem zRk:∀ (f:Nat) (t:Tm) (x:ByteArray) (b:Tm),t.V->b.V->(t.sub f x b).V
 | 0,t,x,b,h,_=>by simp only [Tm.sub];exact h
 | f + 1,.mk k nm ot n ty re l,x,b,h,Y=>by
   have ih:=zRk f
   obtain ⟨h1,J⟩:=h
   have J:=tY.1 J
   simp only [Tm.sub]
   split
   ·split
    ·exact Y
    ·exact ⟨h1,tY.2 J⟩
   ·rename_i hk
    have I:∀ l':List Tm,k=1->l'=[]:=λ_ hc=>absurd hc hk
    split
    ·refine ⟨I _,tY.2 λy O=>?_⟩
     obtain ⟨z,hz,rfl⟩:=oS.1 O
     exact ih z x b (J z hz) Y
    ·rename_i aa
     obtain ⟨g1,g2⟩:=vL aa
     have U:=J _ (oB (zy g1))
     have key:∀ v:Tm,v.V->zRR ((l.map λt=>Tm.sub f t x b).set (xW k l.length).toNat v):=λv hv=>tY.2 λy O=>by
      rcases nI O with O | rfl
      ·obtain ⟨z,hz,rfl⟩:=oS.1 O
       exact ih z x b (J z hz) Y
      ·exact hv
     split
     ·exact ⟨I _,key _ U⟩
     ·exact ⟨I _,key _ (ih _ x b ((sY (vn f) _ _ _ _ _ _).v U) Y)⟩
theorem zDo {g:Tm->Tm} {m:Nat}:∀ {l:List Tm},(∀ t∈l,(g t).vc<=t.vc*m)->vq (l.map g)<=vq l*m
 | [],_=>by simp [vq]
 | t::l,h=>by
   have J:=zDo (l:=l) λx I=>h x (by simp [I])
   have O:=h t (by simp)
   simp only [od,vq,nE]
   omega
theorem zFE {g:Tm->Tm} {m:Nat} {v:Tm}:∀ {l:List Tm} {j:Nat},(∀ t∈l,(g t).vc<=t.vc*m)->(∀ t,l[j]?=some t->v.vc<=t.vc*m)->vq ((l.map g).set j v)<=vq l*m
 | [],_,_,_=>by simp [vq]
 | t::l,0,h,J=>by
   have O:=zDo (l:=l) λx I=>h x (by simp [I])
   have U:=J t rfl
   simp only [od,mH,vq,nE]
   omega
 | t::l,j+1,h,J=>by
   have O:=zFE (l:=l) (j:=j) (v:=v) (λx I=>h x (by simp [I])) λx I=>J x (by simpa using I)
   have U:=h t (by simp)
   simp only [od,mQ,vq,nE]
   omega
/-- how many variables: each may become what is put in -/
theorem zRN:∀ (f:Nat) (t:Tm) (x:ByteArray) (b:Tm),(t.sub f x b).vc<=t.vc*(b.vc+1)
 | 0,t,x,b=>by simp only [Tm.sub];exact mI _ (by omega)
 | f + 1,.mk k nm ot n ty re l,x,b=>by
   have O:=zRN f
   simp only [Tm.sub]
   split
   ·rename_i I
    split
    ·simp only [Tm.vc,if_pos I];omega
    ·exact mI _ (by omega)
   ·rename_i I
    split
    ·simp only [Tm.vc,if_neg I]
     exact zDo λt _=>O t x b
    ·rename_i U
     obtain ⟨Y,g2⟩:=vL U
     split
     ·simp only [Tm.vc,if_neg I]
      refine zFE (λt _=>O t x b) λt J=>?_
      rw [zy Y] at J
      rw [<-oT J]
      exact mI _ (by omega)
     ·simp only [Tm.vc,if_neg I]
      refine zFE (λt _=>O t x b) λt J=>?_
      rw [zy Y] at J
      rw [<-oT J]
      exact oR (O _ x b) (oc _ (sY (vn f) _ _ _ _ _ _).c)
/-- not too great to be copied, its free names to be listed -/
structure Tm.Z (t:Tm):Prop where
 g:t.G
 c:t.vc<=2199023255552
 v:t.V
theorem Tm.Z.mem {k:Int} {nm ot:ByteArray} {n:Int} {ty re:Ty} {l:List Tm} (h:(Tm.mk k nm ot n ty re l).Z):∀ y∈l,y.Z:=λy I=>by
 have hc:=h.c
 have:=zCJ I
 simp only [Tm.vc] at hc
 split at hc
 ·rename_i J
  rw [h.v.1 J] at I
  simp at I
 ·exact ⟨xF h.g.2.2.2 I,by omega,tY.1 h.v.2 y I⟩
theorem LeT.z {t' t:Tm} (h:LeT t' t) (I:t.Z):t'.Z:=⟨h.g I.g,oR h.c I.c,h.v I.v⟩
theorem zTr (s:ByteArray):(zEg s).Z:=⟨by simp [zEg,Tm.G,zL8,Ty.cnt,zJ],by simp only [zEg,Tm.vc,mE];omega,λ_=>rfl,trivial⟩
end Go.Proofs.YtlahkdflngobiaaGreat
