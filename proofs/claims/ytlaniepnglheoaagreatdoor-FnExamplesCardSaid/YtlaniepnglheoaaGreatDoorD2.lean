/- The names of states. -/
import Derived.Test.YtlaniepnglheoaaGreatDoorA9
import Derived.Test.YtlaniepnglheoaaGreatDoorKd
import Derived.Test.YtlaniepnglheoaaGreatDoorA5
import Derived.Test.YtlaniepnglheoaaGreatDoorB2
import Derived.Test.YtlaniepnglheoaaGreatDoorB6
import Derived.Test.YtlaniepnglheoaaGreatDoorC1
import Derived.Test.YtlaniepnglheoaaGreatDoorA1
import Derived.Test.YtlaniepnglheoaaGreatDoorC5
import Derived.Test.YtlaniepnglheoaaGreatDoorKe
import Derived.Test.YtlaniepnglheoaaGreatDoorJh
import Derived.ProofKit
import Derived.ReadAgain
import Derived.ChangeSame
import Derived.Test.YtlaniepnglheoaaGreatDoorRows
import Derived.SizedLaws
import Derived.Lib.LaidTab
import Derived.Lib.ItoaNum
import Derived.Stop.LaidErr
import Derived.LaidMore
import Derived.OpenShut
import Derived.MakeChecks
import Derived.Lib.Space
import Derived.Look8
import Derived.Lay
import Derived.Test.YtlaniepnglheoaaGreatDoorCards
import Derived.Test.YtlaniepnglheoaaGreatDoorTie
import Derived.SevenTiedAt
set_option linter.unusedVariables false
set_option linter.unusedSimpArgs false
set_option maxRecDepth 100000
namespace Go.Proofs.YtlaniepnglheoaaGreatDoor
open Go Go.Proofs Go.Proofs.Tryz Go.IntWalk
def stats:List aG:=[bytes [98,97,100],bytes [100,111,110,101],bytes [102,117,101,108],bytes [108,97,114,103,101],bytes [115,116,117,99,107]]
def LL (k:Int):aG:=if inB k 0 4=true then stats.getD k.toNat (bytes [])else bytes [63]
theorem UN {k:Int}(I:0<=k)(J:k<=4):(zA stats).getD (0+k.toNat) default=D.t (stats.getD k.toNat (bytes [])):=by
 have hl:k.toNat<stats.length:=by show _<5;omega
 rw[nI];unfold zA;rw[oA,oA,oF,oH hl];rfl
theorem Dy (k:Int):xX 28 [.j k] (LL k):=λN Q I=>Eb N k Q λN1 U=>zm k 0 4 N1 _ λN2 Y _=>Br.not (λJ N3 O=>by rw[LL,if_neg (by rw[J];simp)]at I;exact I _ aA) λJ=>by rw[LL,if_pos J]at I;have hb:=yE.1 J;exact⟨⟨aA,aA,aA⟩,aA,_,UN hb.1 hb.2,λN3 O=>I _ aA⟩
theorem D1 (k:Int):xX 20 [.j k] (LL k):=λN Q I=>Ej N k Q λN1 U=>xb k 0 4 N1 _ λN2 Y _=>Br.not (λJ N3 O=>by rw[LL,if_neg (by rw[J];simp)]at I;exact I _ aA) λJ=>by rw[LL,if_pos J]at I;have hb:=yE.1 J;exact⟨⟨aA,aA,aA⟩,aA,_,UN hb.1 hb.2,λN3 O=>I _ aA⟩
end Go.Proofs.YtlaniepnglheoaaGreatDoor
set_option maxRecDepth 100000
namespace Go.Proofs.YtlaniepnglheoaaGreatDoor
open Go Go.Proofs Go.Proofs.Tryz Go.IntWalk
def Tm.isP (t:Tm):Bool:=(ui [] t 0).isSome&&t.vd
theorem FN (t:Tm)(d:D)(hd:t.Is d)(hc:t.cnt<=524288000):uE 25 [.dg 9 d] t.isP:=λN Q J=>by
 refine Fa N d Q λ_ N1 O=>CV (g:=[]) ⟨aB,rfl⟩ aB hd aA none 0 0 N1 _ λx N2 U _ _ _ _=>Br.of (λh N3 I=>sN t d hd aA N3 _ λN4 Y _ N5 aa=>?_) λh N3 I=>?_
 ·have:=J N5 aA;rw[Tm.isP,h,Bool.true_and]at this;exact this
 ·have:=J N3 aA;rw[Tm.isP,h,Bool.false_and]at this;exact this
theorem qR (t:Tm)(d:D)(hd:t.Is d)(hc:t.cnt<=524288000):uE 16 [.dg 9 d] t.isP:=λN Q J=>by
 refine Fm N d Q λ_=>⟨⟨rfl,rfl⟩,λa N0 O _ N1 U=>CY (g:=[]) ⟨aB,rfl⟩ aB hd aA a 0 0 N1 _ λx N2 Y _ _ _=>Br.of (λh N3 I=>sP t d hd aA N3 _ λN4 aa _ N5 ab=>?_) λh N3 I=>?_⟩
 ·have:=J N5 aA;rw[Tm.isP,h,Bool.true_and]at this;exact this
 ·have:=J N3 aA;rw[Tm.isP,h,Bool.false_and]at this;exact this
end Go.Proofs.YtlaniepnglheoaaGreatDoor
set_option maxRecDepth 100000
namespace Go.Proofs.YtlaniepnglheoaaGreatDoor
open Go Go.Proofs Go.Proofs.Tryz Go.IntWalk
def rtx (t:Tm):aG:=
 if(xF t 200).1=1 then EU ((ui [] t 0).getD tZero)++bytes [32,61,32]++WR (xF t 200).2.1++bytes [32]++Rx (xF t 200).2.2
 else EU ((ui [] t 0).getD tZero)++bytes [32]++LL (xF t 200).1
/-- .. or "bad" -/
def rtv (b:Bool) (o:Tm):aG:=if(b&&o.isP)=true then rtx o else bytes [98,97,100]
theorem Hs {t:Tm}(h:t.isP=true):((ui [] t 0).getD tZero).valid=true:=by
 unfold Tm.isP at h;rw[oL]at h;obtain⟨u,I⟩:=mq.1 h.1;rw[I,nA];unfold ui at I;split at I
 ·exact Tm.type_valid I
 ·cases I
theorem Ym (b:Bool)(o:Tm):0<(rtv b o).size:=by
 unfold rtv rtx;have I:(bytes [32]).size=1:=rfl;split
 ·split
  ·simp only[oE,I];omega
  ·simp only[oE,I];omega
 ·show 0<3;omega
end Go.Proofs.YtlaniepnglheoaaGreatDoor
set_option maxRecDepth 100000
namespace Go.Proofs.YtlaniepnglheoaaGreatDoor
open Go Go.Proofs Go.Proofs.Tryz Go.IntWalk
theorem PR.ex (s:aG):∃ b o,PR s b o:=by
 by_cases h:∃ t:Tm,t.vd=true/\t.tx=s
 ·obtain⟨t,I,e⟩:=h;exact⟨true,t,⟨λ_=>⟨I,e⟩,λh=>by cases h⟩⟩
 ·exact⟨false,_,⟨λh=>(by cases h),λ_=>⟨rfl,λt I e=>h ⟨t,I,e⟩⟩⟩⟩
theorem rG {t:Ty}(I:t.valid=true){d:D}(hd:t.Is d):xX 19 [.dg 2 d] (EU t):=λN Q O=>by have h:=yP I;have J:=yL t d hd aA;rw[I]at J;exact Eh N d Q λ_ N1 U=>J N1 _ λN2 Y _=>Br.not (λh=>by cases h) λ_ N3 aa=>F8 h.1 aA hd N3 _ λN4 ab _ N5 ac=>O _ aA
theorem NM (k:Int):(LL k).size<=5:=by
 unfold LL;split
 ·rename_i h;have hb:=yE.1 h;have:k=0\/k=1\/k=2\/k=3\/k=4:=aA
  rcases this with rfl | rfl | rfl | rfl | rfl<;>decide
 ·decide
theorem zAT {t:Tm}(I:t.isP=true):(EU ((ui [] t 0).getD tZero)).size<=90:=by
 have h:=yP (Hs I)
 have:=yj h.1
 omega
theorem Rj {t:Tm}(hc:t.cnt<=4000000)(h:(xF t 200).1=1):(WR (xF t 200).2.1).size<=200000:=by
 have I:=WG hc h;rw[WR,if_pos I.1]
 have:=PK _ I.1
 omega
theorem zAP (t:Tm):(Rx (xF t 200).2.2).size<=20:=by
 have:=PB t 200 aD
 rw[Cg];exact EJ _ aA
theorem rs3:(bytes [32,61,32]).size=3:=rfl
theorem rs1:(bytes [32]).size=1:=rfl
theorem BP {s:aG}{b:Bool}{o:Tm}(hp:PR s b o)(hs:s.size<=1048576):xX 6 [.str s] (rtv b o):=λN Q I=>by
 have hc:=hp.cnt;refine JB N s Q λN1 ax=>uv s aA N1 _ λb' o' d N2 ay ah hd _ _ _=>?_;obtain⟨rfl,rfl⟩:=hp.uniq ah;refine Br.not (λhb N3 ai=>by rw[rtv,if_neg (by simp[hb])]at I;exact I _ aA) λhb N3 ai=>qR _ d hd aA N3 _ λN4 az _=>Br.not (λhi N5 aj=>by rw[rtv,if_neg (by simp[hi])]at I;exact I _ aA) λhi=>?_;rw[rtv,if_pos (by rw[hb,hi];rfl)]at I;have hv:=Hs hi;have s1:=zAT hi;refine⟨⟨rfl,rfl⟩,λa N5 aj _ N6 a6=>CY (g:=[]) ⟨aB,rfl⟩ aB hd aA a 0 0 N6 _ λx N7 a7 hx _ _ N8 a8=>Ig hd aA 200 N8 _ λy N9 ba hy _ _=>?_⟩;obtain⟨y0,y1,y2,y3,y4,y5,y6,y7,y8,rfl,ak⟩:=Rs.cells hy;refine⟨_,rfl,Br.bne (λal=>⟨_,rfl,λJ U=>rG hv hx J _ λao Y _=>⟨aA,λO aa=>D1 _ O _ λaq ab _=>⟨?_,λac ae=>?_⟩⟩⟩) λhe=>⟨_,rfl,λJ U=>rG hv hx J _ λao Y _=>⟨aA,λO aa=>Gs ak ?_ O _ λaq ab _=>⟨?_,?_,λac ae=>xe _ ?_ ac _ λbb au _=>⟨?_,λbc aw=>?_⟩⟩⟩⟩⟩
 ·have:=NM (xF o' 200).1
  rw[oE,rs1];omega
 ·rw[rtx,if_neg al]at I;exact I _ aA
 ·have:=NE (e:=o') aA 200;omega
 ·have:=Rj aA he
  rw[oE,rs3];omega
 ·have:=Rj aA he
  rw[oE,oE,rs3];omega
 ·have:=PB o' 200 aD;omega
 ·have:=Rj aA he
  have:=zAP o'
  rw[oE,oE,oE,rs3,rs1];omega
 ·rw[rtx,if_pos he]at I;exact I _ aA
theorem BN {s:aG}{b:Bool}{o:Tm}(hp:PR s b o)(hs:s.size<=1048576):xX 7 [.str s] (rtv b o):=λN Q I=>by
 have hc:=hp.cnt;refine I1 N s Q λN1 ax=>FV s aA N1 _ λb' o' d N2 ay ai hd _ _ _ N3 az=>?_;obtain⟨rfl,rfl⟩:=hp.uniq ai;refine CV (g:=[]) ⟨aB,rfl⟩ aB hd aA none 0 0 N3 _ λx N4 a6 hx _ _ _=>Br.not (λhb N5 U=>by rw[rtv,if_neg (by simp[hb])]at I;exact I _ aA) λhb=>Br.not (λhi N5 U=>by rw[rtv,if_neg (by simp[Tm.isP,hi])]at I;exact I _ aA) λa7 N5 U=>FN _ d hd aA N5 _ λN6 a8 _=>Br.not (λhi N7 aj=>by rw[rtv,if_neg (by simp[hi])]at I;exact I _ aA) λhi N7 aj=>?_;rw[rtv,if_pos (by rw[hb,hi];rfl)]at I;have hv:=Hs hi;have s1:=zAT hi;refine Ib hd aA 200 N7 _ λy N9 ba hy _ _ _=>?_;obtain⟨y0,y1,y2,y3,y4,y5,y6,y7,y8,rfl,ak⟩:=Rs.cells hy;refine⟨_,rfl,Br.bne (λal=>⟨_,rfl,λJ Y=>uY hv hx J _ λao aa _=>⟨aA,λO ab=>Dy _ O _ λaq ac _=>⟨?_,λae ah=>?_⟩⟩⟩) λhe=>⟨_,rfl,λJ Y=>uY hv hx J _ λao aa _=>⟨aA,λO ab=>Gm ak ?_ O _ λaq ac _=>⟨?_,?_,λae ah=>um _ ?_ ae _ λbb au _=>⟨?_,λbc aw=>?_⟩⟩⟩⟩⟩
 ·have:=NM (xF o' 200).1
  rw[oE,rs1];omega
 ·rw[rtx,if_neg al]at I;exact I _ aA
 ·have:=NE (e:=o') aA 200;omega
 ·have:=Rj aA he
  rw[oE,rs3];omega
 ·have:=Rj aA he
  rw[oE,oE,rs3];omega
 ·have:=PB o' 200 aD;omega
 ·have:=Rj aA he
  have:=zAP o'
  rw[oE,oE,oE,rs3,rs1];omega
 ·rw[rtx,if_pos he]at I;exact I _ aA
end Go.Proofs.YtlaniepnglheoaaGreatDoor
set_option maxRecDepth 100000
namespace Go.Proofs.YtlaniepnglheoaaGreatDoor
open Go Go.Proofs Go.Proofs.Tryz Go.IntWalk
def exs:List aG:=[bytes [60,40,92,120,58,73,46,126,40,40,114,101,99,32,112,32,110,58,73,62,60,73,62,46,40,105,102,32,40,110,61,48,41,32,60,49,62,32,60,40,120,42,126,40,112,32,40,110,45,49,41,41,41,62,41,41,32,51,41,41,62],
 bytes [40,108,101,116,32,99,61,60,40,49,43,50,41,62,32,60,40,126,99,42,126,99,41,62,41],
 bytes [60,40,92,121,58,73,46,126,40,40,92,122,58,60,73,62,46,60,40,92,121,58,73,46,40,126,122,43,121,41,41,62,41,32,60,121,62,41,41,62],
 bytes [40,40,114,117,110,32,60,40,92,120,58,73,46,40,120,43,126,40,108,105,102,116,32,40,50,42,51,41,41,41,41,62,41,32,49,41],
 bytes [40,114,117,110,32,60,40,114,117,110,32,60,53,62,41,62,41],
 bytes [40,108,101,116,32,110,61,55,32,60,126,40,105,102,32,40,110,60,53,41,32,60,48,62,32,60,40,49,43,126,40,108,105,102,116,32,110,41,41,62,41,62,41]]
def exts:aP:=[(.mk 10 (bytes []) (bytes []) 0 tZero tZero [(.mk 6 (bytes [120]) (bytes []) 0 tInt tZero [(.mk 11 (bytes []) (bytes []) 0 tZero tZero [(.mk 7 (bytes []) (bytes []) 0 tZero tZero [(.mk 9 (bytes [112]) (bytes [110]) 0 tInt (xW tInt) [(.mk 5 (bytes []) (bytes []) 0 tZero tZero [(.mk 4 (bytes [61]) (bytes []) 0 tZero tZero [(.mk 1 (bytes [110]) (bytes []) 0 tZero tZero []),(.mk 2 (bytes []) (bytes []) 0 tZero tZero [])]),(.mk 10 (bytes []) (bytes []) 0 tZero tZero [(.mk 2 (bytes []) (bytes []) 1 tZero tZero [])]),(.mk 10 (bytes []) (bytes []) 0 tZero tZero [(.mk 4 (bytes [42]) (bytes []) 0 tZero tZero [(.mk 1 (bytes [120]) (bytes []) 0 tZero tZero []),(.mk 11 (bytes []) (bytes []) 0 tZero tZero [(.mk 7 (bytes []) (bytes []) 0 tZero tZero [(.mk 1 (bytes [112]) (bytes []) 0 tZero tZero []),(.mk 4 (bytes [45]) (bytes []) 0 tZero tZero [(.mk 1 (bytes [110]) (bytes []) 0 tZero tZero []),(.mk 2 (bytes []) (bytes []) 1 tZero tZero [])])])])])])])]),(.mk 2 (bytes []) (bytes []) 3 tZero tZero [])])])])]),
 (.mk 8 (bytes [99]) (bytes []) 0 tZero tZero [(.mk 10 (bytes []) (bytes []) 0 tZero tZero [(.mk 4 (bytes [43]) (bytes []) 0 tZero tZero [(.mk 2 (bytes []) (bytes []) 1 tZero tZero []),(.mk 2 (bytes []) (bytes []) 2 tZero tZero [])])]),(.mk 10 (bytes []) (bytes []) 0 tZero tZero [(.mk 4 (bytes [42]) (bytes []) 0 tZero tZero [(.mk 11 (bytes []) (bytes []) 0 tZero tZero [(.mk 1 (bytes [99]) (bytes []) 0 tZero tZero [])]),(.mk 11 (bytes []) (bytes []) 0 tZero tZero [(.mk 1 (bytes [99]) (bytes []) 0 tZero tZero [])])])])]),
 (.mk 10 (bytes []) (bytes []) 0 tZero tZero [(.mk 6 (bytes [121]) (bytes []) 0 tInt tZero [(.mk 11 (bytes []) (bytes []) 0 tZero tZero [(.mk 7 (bytes []) (bytes []) 0 tZero tZero [(.mk 6 (bytes [122]) (bytes []) 0 (xW tInt) tZero [(.mk 10 (bytes []) (bytes []) 0 tZero tZero [(.mk 6 (bytes [121]) (bytes []) 0 tInt tZero [(.mk 4 (bytes [43]) (bytes []) 0 tZero tZero [(.mk 11 (bytes []) (bytes []) 0 tZero tZero [(.mk 1 (bytes [122]) (bytes []) 0 tZero tZero [])]),(.mk 1 (bytes [121]) (bytes []) 0 tZero tZero [])])])])]),(.mk 10 (bytes []) (bytes []) 0 tZero tZero [(.mk 1 (bytes [121]) (bytes []) 0 tZero tZero [])])])])])]),
 (.mk 7 (bytes []) (bytes []) 0 tZero tZero [(.mk 12 (bytes []) (bytes []) 0 tZero tZero [(.mk 10 (bytes []) (bytes []) 0 tZero tZero [(.mk 6 (bytes [120]) (bytes []) 0 tInt tZero [(.mk 4 (bytes [43]) (bytes []) 0 tZero tZero [(.mk 1 (bytes [120]) (bytes []) 0 tZero tZero []),(.mk 11 (bytes []) (bytes []) 0 tZero tZero [(.mk 13 (bytes []) (bytes []) 0 tZero tZero [(.mk 4 (bytes [42]) (bytes []) 0 tZero tZero [(.mk 2 (bytes []) (bytes []) 2 tZero tZero []),(.mk 2 (bytes []) (bytes []) 3 tZero tZero [])])])])])])])]),(.mk 2 (bytes []) (bytes []) 1 tZero tZero [])]),
 (.mk 12 (bytes []) (bytes []) 0 tZero tZero [(.mk 10 (bytes []) (bytes []) 0 tZero tZero [(.mk 12 (bytes []) (bytes []) 0 tZero tZero [(.mk 10 (bytes []) (bytes []) 0 tZero tZero [(.mk 2 (bytes []) (bytes []) 5 tZero tZero [])])])])]),
 (.mk 8 (bytes [110]) (bytes []) 0 tZero tZero [(.mk 2 (bytes []) (bytes []) 7 tZero tZero []),(.mk 10 (bytes []) (bytes []) 0 tZero tZero [(.mk 11 (bytes []) (bytes []) 0 tZero tZero [(.mk 5 (bytes []) (bytes []) 0 tZero tZero [(.mk 4 (bytes [60]) (bytes []) 0 tZero tZero [(.mk 1 (bytes [110]) (bytes []) 0 tZero tZero []),(.mk 2 (bytes []) (bytes []) 5 tZero tZero [])]),(.mk 10 (bytes []) (bytes []) 0 tZero tZero [(.mk 2 (bytes []) (bytes []) 0 tZero tZero [])]),(.mk 10 (bytes []) (bytes []) 0 tZero tZero [(.mk 4 (bytes [43]) (bytes []) 0 tZero tZero [(.mk 2 (bytes []) (bytes []) 1 tZero tZero []),(.mk 11 (bytes []) (bytes []) 0 tZero tZero [(.mk 13 (bytes []) (bytes []) 0 tZero tZero [(.mk 1 (bytes [110]) (bytes []) 0 tZero tZero [])])])])])])])])])]
theorem Xz:exts.map Tm.tx=exs:=by kernel_rfl
theorem Xy:(exts.map λt=>t.vd&&(ui [] t 0).isSome)=[true,true,true,true,true,true]:=by kernel_rfl
theorem Xx {k:Nat}(O:k<6){t:Tm}(U:t.vd=true)(e:t.tx=exs.getD k (bytes [])):(ui [] t 0).isSome=true:=by
 have hl:exts.length=6:=rfl;have Y:exts[k]?=some exts[k]:=oH aA;have J:=oY (λl=>l[k]?) Xz;have I:=oY (λl=>l[k]?) Xy;simp only[oF,Y,oX]at J I;have h3:([true,true,true,true,true,true]:List Bool)[k]?=some true:=by
  match k,O with
  | 0,_=>rfl
  | 1,_=>rfl
  | 2,_=>rfl
  | 3,_=>rfl
  | 4,_=>rfl
  | 5,_=>rfl
 rw[h3]at I;simp only[od,oL]at I;rw[oA,<-J,nA]at e;have a1:=vq true U e;have a2:=vq true I.1 rfl;rw[a1]at a2;simp only[od,lH]at a2;rw[a2.1];exact I.2
end Go.Proofs.YtlaniepnglheoaaGreatDoor
set_option maxRecDepth 100000
namespace Go.Proofs.YtlaniepnglheoaaGreatDoor
open Go Go.Proofs Go.Proofs.Tryz Go.IntWalk
variable {k:Int}
def exT (k:Int):aG:=if inB k 1 6=true then exs.getD (k - 1).toNat (bytes [])else bytes []
theorem zBB (I:1<=k)(J:k<=6):(zA exs).getD (0+(k - 1).toNat) default=D.t (exs.getD (k - 1).toNat (bytes [])):=by
 have hl:(k - 1).toNat<exs.length:=by show _<6;omega
 rw[nI];unfold zA;rw[oA,oA,oF,oH hl];rfl
theorem Kw (k:Int):(exT k).size<=1048576:=by
 unfold exT;split
 ·rename_i h;have hb:=yE.1 h;have:k=1\/k=2\/k=3\/k=4\/k=5\/k=6:=aA
  rcases this with rfl | rfl | rfl | rfl | rfl | rfl<;>decide
 ·decide
theorem y9 (k:Int):xX 14 [.j k] (exT k):=λN Q I=>DF N k Q λN1 U=>zm k 1 6 N1 _ λN2 Y _=>Br.not (λJ N3 O=>by rw[exT,if_neg (by rw[J];simp)]at I;exact I _ aA) λJ=>by rw[exT,if_pos J]at I;have hb:=yE.1 J;rw[i64_in _ aA];exact⟨⟨aA,aA,aA⟩,aA,_,zBB hb.1 hb.2,λN3 O=>I _ aA⟩
theorem vf (k:Int):xX 15 [.j k] (exT k):=λN Q J=>DQ N k Q (Br.beq (λh N1 I=>by subst h;exact J _ I) λO=>Br.beq (λh N1 I=>by subst h;exact J _ I) λU=>Br.beq (λh N1 I=>by subst h;exact J _ I) λY=>Br.beq (λh N1 I=>by subst h;exact J _ I) λh4=>Br.beq (λh N1 I=>by subst h;exact J _ I) λh5=>Br.beq (λh N1 I=>by subst h;exact J _ I) λh6 N1 I=>by rw[exT,if_neg (λh=>by have:=yE.1 h;omega)]at J;exact J _ I)
def rex (k:Int)(b:Bool)(o:Tm):aG:=if exT k=bytes []then bytes []else rtv b o
theorem D0 {b:Bool}{o:Tm}(J:PR (exT k) b o):xX 8 [.j k] (rex k b o):=λN Q I=>Ei N k Q λN1 O=>vf k N1 _ λN2 U _=>Br.str (λh N3 Y=>by rw[rex,if_pos h]at I;exact I _ aA) λh N4 aa=>vf k N4 _ λN5 ab _ N6 ac=>BP J (Kw k) N6 _ λN7 ae _ N8 ah=>by rw[rex,if_neg h]at I;exact I _ aA
theorem Dw {b:Bool}{o:Tm}(J:PR (exT k) b o):xX 9 [.j k] (rex k b o):=λN Q I=>EZ N k Q λN1 O=>y9 k N1 _ λN2 U _=>Br.str (λh N3 Y=>by rw[rex,if_pos h]at I;exact I _ aA) λh N4 aa=>y9 k N4 _ λN5 ab _ N6 ac=>BN J (Kw k) N6 _ λN7 ae _ N8 ah=>by rw[rex,if_neg h]at I;exact I _ aA
end Go.Proofs.YtlaniepnglheoaaGreatDoor
set_option maxRecDepth 100000
namespace Go.Proofs.YtlaniepnglheoaaGreatDoor
open Go Go.Proofs Go.Proofs.Tryz Go.IntWalk
theorem VH {es:aM} {i:Int} (hc:Cu es i) (s:aG) (hs:s.size<=1000000) (l:List aG) (h0:0<l.length) (hl:l.length<=4294967296) (U:∀ w∈l,w.size<=100) (a:aH) (c:Nat) (h:Int) (k q:Nat) (N:Nat) (Q:QT [.str,.sl 0,.i,.i,.sl 0])
  (Y:∀ z a' J c' i' h' N',N<=N'->Cu J i'->z.size<=1000100->Q z a' J c' i' h' none (zA l) q N'):BCalls prog 36 [.str,.sl 0,.i,.i,.sl 0] [.pb 0 0 0 0,.str s,.sb 1 0 0 l.length k] [.var [.sv a 0 es c,.j i,.j h],.arr 9 0 (zA l) q] N Q:=by
 refine DV N s l.length k a es c i h (zA l) q Q λE _ _ N1 ac=>?_;rw[i64_in ((s.size:Int)+1) aA];refine xE hc ((s.size:Int)+1) aA a c h N1 _ λx a1 ae c1 i1 h1 N2 ah aa x0 x1 _ _ _ N3 ai=>xE aa 6 aA a1 c1 h1 N3 _ λy a2 aj c2 i2 h2 N4 ak I y0 y1 _ _ _=>?_;have x1:=x1 aA;have s1:(ByteArray.extract s 0 x.toNat).size<=s.size:=by rw[mT];omega
 have s2:(ByteArray.extract s 0 x.toNat).size+(ByteArray.extract s x.toNat ((s.size:Int)).toNat).size<=s.size:=by rw[mT,mT];omega
 refine Br.beq (λ_=>⟨⟨aA,aA,aA⟩,⟨aA,aA,aA⟩,λN5 O=>sQ I l h0 hl a2 c2 h2 k q N5 _ λw a3 al c3 i3 h3 N6 ao ab hw _ _ _=>?_⟩) λ_=>Br.beq (λ_=>⟨⟨aA,aA,aA⟩,zN,λN5 O=>Y _ _ _ _ _ _ _ aA I aA⟩) λ_=>⟨zN,λN5 O=>Y _ _ _ _ _ _ _ aA I aA⟩
 have w1:=U w hw;exact⟨aA,by rw[oE];omega,zN,λN7 aq=>Y _ _ _ _ _ _ _ aA ab (by rw[oE,oE];omega)⟩
theorem Qn (t:Tm):(vtx t).size<=1000000:=by
 unfold vtx;split
 ·rename_i h;obtain⟨I,J,_⟩:=E7 h
  have:=PK t I
  omega
 ·show 0<=1000000;omega
section
variable {es:aM} (hb:∀ d∈es,∃ n:Int,d=.lit (.int .u8 n)) (hl:es.length<=1073741824) (a:aH) (c:Nat)
include hb hl
end
end Go.Proofs.YtlaniepnglheoaaGreatDoor
set_option maxRecDepth 100000
namespace Go.Proofs.YtlaniepnglheoaaGreatDoor
open Go Go.Proofs Go.Proofs.Tryz Go.IntWalk
variable {es:aM}
theorem Mm (hb:∀ d∈es,∃ n:Int,d=.lit (.int .u8 n))(hl:es.length<=1073741824)(a:aH)(c:Nat)(N:Nat)(Q:QT [.i])(J:∀ k N',N<=N'->Q k N'):ACalls prog 11 [.i] [.sv a 0 es c] N Q:=
 AN N a es c Q λ_ N1 O=>Zl hb hl a c N1 _ λh N2 U I _ N3 Y=>xE I 9 aA a c h N3 _ λr a2 aa c2 i2 h2 N4 ab ac r0 r9 _ _ _ N5 ae=>J _ _ aA
theorem S7 (hb:∀ d∈es,∃ n:Int,d=.lit (.int .u8 n))(hl:es.length<=1073741824)(a:aH)(c:Nat)(N:Nat)(Q:QT [.str])(hQ:∀ s N',N<=N'->s.size<=1000100->Q s N'):ACalls prog 12 [.str] [.sv a 0 es c] N Q:=by
 refine DP N a es c Q λ_ N1 ak=>Zl hb hl a c N1 _ λh N2 al O _ N3 ao=>pH O 2 aA a c h N3 _ λb a1 aq c1 i1 h1 N4 au I _ _=>Br.of (λ_ U Y=>VT I a1 c1 h1 U _ λd a2 aa c2 i2 h2 N6 ab J hd _ _ _ N7 ac=>?_) λ_ U Y=>Xo I a1 c1 h1 U _ λd a2 aa c2 i2 h2 N6 ab J hd _ _ _ N7 ac=>?_
 ·obtain⟨t,ht,hc⟩:=hd;exact uI ht aA N7 _ λN8 ae _ N9 ah=>hQ _ _ aA (by have:=Qn t;omega)
 ·obtain⟨t,ht,hw⟩:=hd
  have:=t.cnt_wt
  exact uI ht aA N7 _ λN8 ae _ N9 ah=>VH J (vtx t) (Qn t) [bytes [40],bytes [32],bytes [120],bytes [60],bytes [126],bytes [43]] aD aD aD a2 c2 h2 6 6 N9 _ λz a3 aw c3 i3 h3 ax ai ay hz _ _ _ az aj=>hQ _ _ aA hz
theorem Ye (k:Int)(b:Bool)(o:Tm):((rex k b o).toList==(bytes []).toList)=((exT k).toList==(bytes []).toList):=by
 rw[xa,xa];by_cases h:exT k=bytes []
 ·rw[rex,if_pos h,h]
 ·rw[rex,if_neg h,nX h];refine nX λI=>?_
  have:=Ym b o
  rw[I]at this;exact absurd this aD
theorem Zq {k:Int}{o:Tm}(I:o.vd=true)(e:o.tx=exT k):o.isP=true:=by
 unfold exT at e;split at e
 ·rename_i h;have hb:=yE.1 h;rw[Tm.isP,Xx (k:=(k - 1).toNat) aA I e,I];rfl
 ·have J:=vq true I e;rw[show bl (bytes [])=[]from rfl,W7]at J;cases J
theorem Br.eqw {v w:Bool}{A B:Prop}(e:v=w)(h:A):Br (v==w) A B:=by subst e;exact Br.of (λ_=>h) λf=>by simp at f
theorem Mv (hb:∀ d∈es,∃ n:Int,d=.lit (.int .u8 n))(a:aH)(c:Nat)(N:Nat):
  ACalls prog 5 [.bool] [.sv a 0 es c] N (λr _=>r=true):=by
 refine Ef N a es c _ λ_ N1 bt=>Rp N1 a es c _ λ_ N2 bv _=>Br.dec (λ_ N3 _=>rfl) λal N4 bw=>?_;refine Mm hb aA a c N4 _ λk N5 bz _ N6 b3=>?_;obtain⟨b,o,hp⟩:=PR.ex (exT k);have hx:=Kw k;refine Dw hp N6 _ λN7 b7 _ N8 b8=>S7 hb aA a c N8 _ λt N9 b9 ht _ U ao=>y9 k U _ λca aq _ Y au=>uv (exT k) aA Y _ λb' o' x cc aw I aa _ _ _ ab ax=>?_;obtain⟨b2,o2,J⟩:=PR.ex t;have hc:=I.cnt;refine D0 hp ab _ λcd ay _=>Br.str (λ_ ac az=>y9 k ac _ λce a6 _ ae a7=>vf k ae _ λcf a8 _=>Br.str (λ_ ah ba=>y9 k ah _ λcg bb _=>?_) λh=>absurd rfl h) λh=>absurd rfl h;refine Br.eqw (Ye k b o) (λai bc=>BN J aA ai _ λch bg _ aj bh=>BP J aA aj _ λcj bi _=>Br.str (λ_=>Br.not (λ_ ck bj=>rfl) λO ak bm=>qR o' x aa aA ak _ λcm bp _ cn bq=>?_) λh=>absurd rfl h)
 exact Zq (I.yes O).1 (I.yes O).2
open Go
def IM (P:Program)(e:aK):Nat:=match P.underlying e with | some (.struct _)=>P.cellsOf e | _=>0
def Ew (P:Program):List Field->Nat->Nat->Bool
 | [],o,n=>o==n
 | f::fs,o,n=>f.offset==o&&Ew P fs (o+P.cellsOf f.type) n
def QH (P:Program)(T:List aK)(t:aK):Bool:=
 match P.underlying t with
 | some .bool=>true
 | some (.int _)=>true
 | some .string=>true
 | some (.slice e)=>T.contains e&&(P.cellsOf e==ez (IM P e))&&decide (0<P.bytesOf e)
 | some (.struct fs)=>Ew P fs.toList 0 (P.cellsOf t)&&fs.toList.all λf=>T.contains f.type
 | _=>false
def zAp (R:aK->aM->Prop):List aK->aM->Prop
 | [],xs=>xs=[]
 | t::ts,xs=>∃ a b,xs=a++b/\R t a/\zAp R ts b
def Shp (P:Program):Nat->aK->aM->Prop
 | 0,_,_=>False
 | n+1,t,xs=>match P.underlying t with
   | some .bool=>∃ v,xs=[.lit (.bool v)]
   | some (.int k)=>∃ m,xs=[.lit (.int k m)]/\(Lit.int k m).wf=true
   | some .string=>∃ s:aG,xs=[.t s]/\s.size<=reachBytes
   | some (.slice e)=>∃ a es c,xs=[.sl a (IM P e) es c]/\es.length<=reachBytes/\∀ x∈es,Shp P n e x.cells
   | some (.struct fs)=>zAp (Shp P n) (fs.toList.map (·.type)) xs
   | _=>False
theorem zAU {P:Program}{n:Nat}{t:aK}{xs:aM}{k:IntKind}(I:P.underlying t=some (.int k))(h:Shp P n t xs):∃ m,xs=[.lit (.int k m)]:=by
 cases n with
 | zero=>exact h.elim
 | succ n=>unfold Shp at h;rw[I]at h;obtain⟨m,rfl,_⟩:=h;exact⟨m,rfl⟩
theorem TR:reachBytes<=4611686018427387904:=aD
theorem QU {P:Program}{n:Nat}{t e:aK}{xs:aM}(I:P.underlying t=some (.slice e))(h:Shp P n t xs):∃ m a es c,n=m+1/\xs=[.sl a (IM P e) es c]/\es.length<=4611686018427387904/\∀ x∈es,Shp P m e x.cells:=by
 cases n with
 | zero=>exact h.elim
 | succ n=>unfold Shp at h;rw[I]at h;obtain⟨a,es,c,rfl,hl,J⟩:=h;exact⟨n,a,es,c,rfl,rfl,oR hl TR,J⟩
structure Snap (w:World) (cs:aJ) (xs:aM):Prop where
 cv:xs.map D.cv=cs
 cell:∀ x∈xs,x.isCell
 hold:∀ x∈xs,Holds w x
theorem Snap.one {w:World}{v:Value}{x:D}(I:x.cv=v)(J:x.isCell)(O:Holds w x):Snap w [v] [x]:=⟨by simp[I],by simpa using J,by simpa using O⟩
theorem Snap.app {w:World}{us bs:aJ}{xs ys:aM}(h:Snap w us xs)(I:Snap w bs ys):Snap w (us++bs) (xs++ys):=
 ⟨by rw[mm,h.cv,I.cv],λx J=>(oM.1 J).elim (h.cell x) (I.cell x),λx J=>(oM.1 J).elim (h.hold x) (I.hold x)⟩
theorem HL {α β γ:Type}{f:α->Option β}{Q:α->γ->Prop}:∀ {l:List α}{r:List β},l.mapM f=some r->(∀ i∈l,∀ y∈r,f i=some y->∃ x,Q i x)->∃ xs:List γ,xs.length=l.length/\∀(k:Nat)(i:α),l[k]?=some i->∃ x,xs[k]?=some x/\Q i x
 | [],r,h,U=>⟨[],rfl,λk i J=>by simp at J⟩
 | a :: l,r,h,U=>by
   rw[List.mapM_cons]at h;cases O:f a with
   | none=>simp[O]at h
   | some y=>
     cases I:l.mapM f with
     | none=>simp[O,I]at h
     | some ys=>
       have Y:r=y::ys:=by simpa [O,I]using h.symm
       subst Y;obtain⟨x,h1⟩:=U a aB y aB O;obtain⟨xs,h2,h3⟩:=HL I λi hi y hy=>U i (by simp[hi]) y (by simp[hy]);refine⟨x::xs,by simp[h2],λk i J=>?_⟩;cases k with
       | zero=>simp at J;subst J;exact⟨x,rfl,h1⟩
       | succ k=>simp at J;simpa using h3 k i J
variable {H:Type} {enc:aK × Value->H} {P:Program} {w:World} {base:Nat} {spare:Nat->Bool} {held:Bool} {T:List aK}
theorem MZ:∀ {L:List Field}{o n:Nat},Ew P L o n=true->o<=n
 | [],o,n,h=>by simp[Ew]at h;omega
 | f::L,o,n,h=>by
   simp only[Ew,oL]at h
   have:=MZ h.2
   omega
theorem Hi {g:aK->aJ->Option (DataW H × List MemPlace)} {R:aK->aM->Prop} {cs:aJ}:∀ {L:List Field} {o N:Nat} {r:List (DataW H × List MemPlace)},Ew P L o N=true->N<=cs.length ->
  (L.mapM λf=>g f.type ((cs.drop f.offset).take (P.cellsOf f.type)))=some r->(∀ x∈DataW.weightsEach P (L.map (·.type)) (r.map (·.1)),x<=reachBytes)->(∀ f∈L,∀ vs y,g f.type vs=some y->(∀ x∈y.1.weights P f.type,x<=reachBytes)->∃ xs,Snap w vs xs/\R f.type xs)->∃ xs,Snap w ((cs.drop o).take (N - o)) xs/\zAp R (L.map (·.type)) xs
 | [],o,N,r,hc,hN,h,U,Y=>by simp[Ew]at hc;subst hc;exact⟨[],⟨aB,aB,aB⟩,rfl⟩
 | f :: L,o,N,r,hc,hN,h,U,Y=>by
   simp only[Ew,oL,mG]at hc;obtain⟨aa,O⟩:=hc;rw[List.mapM_cons]at h;cases I:g f.type ((cs.drop f.offset).take (P.cellsOf f.type))with
   | none=>simp[I]at h
   | some y=>
     cases J:(L.mapM λf=>g f.type ((cs.drop f.offset).take (P.cellsOf f.type)))with
     | none=>simp[I,J]at h
     | some ys=>
       have hr:r=y::ys:=by simpa [I,J]using h.symm
       subst hr;simp only[o9,DataW.weightsEach,oM]at U;obtain⟨us,h1,h2⟩:=Y f aB _ y I λx I=>U x (.inl I);obtain⟨bs,h3,h4⟩:=Hi O hN J (λx I=>U x (.inr I)) λf hf=>Y f (by simp[hf]);have ab:=MZ O;refine⟨us++bs,?_,us,bs,rfl,h2,h4⟩
       have:=h1.app h3
       rw[aa]at this;have e:(cs.drop o).take (N - o)=(cs.drop o).take (P.cellsOf f.type)++(cs.drop (o+P.cellsOf f.type)).take (N - (o+P.cellsOf f.type)):=by rw[show N - o=P.cellsOf f.type+(N - (o+P.cellsOf f.type)) by omega,List.take_add,List.drop_drop]
       rw[e];exact this
theorem Yp {n:Nat}{t:aK}{xs:aM}(h:Shp P n t xs)(hc:∀ x∈xs,x.isCell)(hs:IM P t=0)(I:∀ fs,P.underlying t≠some (.struct fs)):∃ x,xs=[x]:=by
 cases n with
 | zero=>exact h.elim
 | succ n=>
   unfold Shp at h;split at h
   ·obtain⟨v,rfl⟩:=h;exact⟨_,rfl⟩
   ·obtain⟨v,rfl,_⟩:=h;exact⟨_,rfl⟩
   ·obtain⟨v,rfl,_⟩:=h;exact⟨_,rfl⟩
   ·obtain⟨a,es,c,rfl,_⟩:=h;exact⟨_,rfl⟩
   ·rename_i fs J;exact absurd J (I fs)
   ·exact h.elim
theorem Xu {n:Nat} {e:aK} {cs:aJ} {xs:aM} (hs:Snap w cs xs) (h:Shp P n e xs) (hl:cs.length=P.cellsOf e) (Y:P.cellsOf e=ez (IM P e)) :
  ∃ x,x.cells=xs/\eOk (IM P e) x/\Holds w x:=by
 have aa:xs.length=cs.length:=by rw[<-hs.cv];simp
 by_cases I:∃ fs,P.underlying e=some (.struct fs)
 ·obtain⟨fs,I⟩:=I;have J:IM P e=P.cellsOf e:=by unfold IM;rw[I]
  have O:P.cellsOf e≠0:=by intro h0;rw[J,h0]at Y;simp[ez]at Y
  refine⟨.ag xs,rfl,?_,.ag hs.hold⟩;unfold eOk;rw[J,if_neg O];exact⟨xs,rfl,aA,hs.cell⟩
 ·have J:IM P e=0:=by
   unfold IM;split
   ·rename_i fs U;exact absurd ⟨fs,U⟩ I
   ·rfl
  obtain⟨x,rfl⟩:=Yp h hs.cell J λfs U=>I ⟨fs,U⟩;have hc:=hs.cell x aB;refine⟨x,?_,?_,hs.hold x aB⟩
  ·cases x<;>first | exact hc.elim | rfl
  ·unfold eOk;rw[J,if_pos rfl];exact hc
theorem Se {a:Addr}{n:Nat}{cs:aJ}(h:w.cells? base a n=some cs):cs.length=n/\∀ j u,cs[j]?=some u->w.cell? (a.add j)=some u:=by
 unfold World.cells? at h;split at h
 ·refine⟨by have:=mapM_some_length h;simpa using this,λj u J=>?_⟩;have I:j<n:=by
   have:=mapM_some_length h
   have O:=(oD.1 J).1;simp at this;omega
  have:=mapM_some_get h j j (by simp[I])
  rw[this];exact J
 ·cases h
theorem Sd {a:Addr}{u:Value}(h:w.cell? a=some u):a.spot=none/\∃ c t fz,w.heap[a.block]?=some (.cells c t fz):=by
 refine⟨World.cell?_spot h,?_⟩;unfold World.cell? at h;split at h
 ·rename_i c t fz hb;exact⟨_,_,_,hb⟩
 ·cases h
theorem zAN {a:Addr}{z:Nat}{es:aM}(Y:∀ x∈es,eOk z x)(h:∀(k:Nat)(x:D),es[k]?=some x->∀(j:Nat)(u:D),x.cells[j]?=some u->w.cell? ((a.add (k*ez z)).add j)=some u.cv):Row w a (yM es)/\(es≠[]->a.spot=none):=by
 by_cases J:es=[]
 ·subst J;exact⟨.inl rfl,λh=>absurd rfl h⟩
 obtain⟨x,l,rfl⟩:∃ x l,es=x::l:=by cases es with | nil=>exact absurd rfl J | cons x l=>exact⟨x,l,rfl⟩
 have hx:=xS (Y x aB);have hp:=Ey z;obtain⟨u0,aa⟩:∃ u,x.cells[0]?=some u:=⟨_,oH aA⟩
 have h0:=h 0 x aB 0 u0 aa;have e0:(a.add (0*ez z)).add 0=a:=by simp[Addr.add]
 rw[e0]at h0;obtain⟨hs,c,t,fz,hb⟩:=Sd h0;refine⟨.inr ⟨c,t,fz,hb,λi u hu=>?_⟩,λ_=>hs⟩;have ab:=zU Y;have hi:i<(x::l).length*ez z:=by rw[<-ab];exact(oD.1 hu).1
 have hk:i / ez z<(x::l).length:=(Nat.div_lt_iff_lt_mul hp).2 hi;have hj:i % ez z<ez z:=Nat.mod_lt _ hp;have hy:=oH hk;have ae:=xS (Y _ (oB hy));have hv:=oH (l:=((x::l)[i / ez z]).cells) (i:=i % ez z) aA;have O:=AY Y hy hv;have U:i / ez z*ez z+i % ez z=i:=by rw[Nat.mul_comm];exact Nat.div_add_mod i (ez z)
 rw[U,hu]at O;have I:=h _ _ hy _ _ hv;have ac:=oZ O;rw[<-ac]at I;obtain⟨b,o,s⟩:=a;simp only at hs hb ⊢;subst hs;rw[xr,xr,my,U]at I
 have:=Gv (w:=w) (ad:=⟨b,o,none⟩) rfl hb i
 rw[xr]at this;rw[this]at I;exact I
theorem Ba {e:aK}{d:DataW H}:∀ {l:List (DataW H)},d∈l->∀ {x:Nat},x∈d.weights P e->x∈DataW.weightsAll P e l
 | d'::l,h,x,I=>by
   simp only[DataW.weightsAll,oM];rcases oK.1 h with rfl | h
   ·exact .inl I
   ·exact .inr (Ba h I)
theorem NJ (hT:T.all (QH P T)=true):∀(n:Nat)(t:aK)(cs:aJ)(y:DataW H × List MemPlace),t∈T->DataW.trod enc P w base spare held n t cs=some y->(∀ x∈y.1.weights P t,x<=reachBytes)->∃ xs,Snap w cs xs/\Shp P n t xs:=by
 intro n
 induction n with
 | zero=>intro t cs y _ h _;simp[DataW.trod]at h
 | succ n ih=>
   intro t cs y ht h hw;have J:=ob.1 hT t ht;unfold QH at J;unfold Shp;unfold DataW.trod at h;split at h
   ·rename_i I;rw[I];exact⟨[.lit _],.one rfl rfl .lit,_,rfl⟩
   ·rename_i I;rw[I];split at h
    ·rename_i hk;obtain⟨rfl,hk⟩:=hk;exact⟨[.lit _],.one rfl rfl .lit,_,rfl,hk⟩
    ·cases h
   ·rename_i I;rw[I]at J;simp at J
   ·rename_i I;rw[I];split at h
    ·cases h;exact⟨[.lit _],.one rfl rfl .lit,_,rfl,hw _ (by simp only[DataW.weights,oi];exact nY.symm)⟩
    ·cases h
   ·rename_i I;rw[I]at J;simp at J
   ·rename_i I;rw[I]at J;simp at J
   ·rename_i e I;rw[I];exact⟨_,.one (x:=.sl none (IM P e) [] 0) rfl trivial .nil,_,_,_,rfl,Nat.zero_le _,λx Y=>absurd Y aB⟩
   ·rename_i e a len cap I;rw[I]at J ⊢;simp only[oL,mG,List.contains_iff_mem]at J;obtain⟨⟨ah,hz⟩,ab⟩:=J;have ab:=lN ab;simp only at h;split at h
    rotate_left
    ·cases h
    rename_i hb;obtain⟨ay,az,a6⟩:=hb;cases hm:(List.range len).mapM λi=>(w.cells? base (a.add (i*P.cellsOf e)) (P.cellsOf e)).bind (DataW.trod enc P w base spare held n e)with
    | none=>rw[hm]at h;simp at h
    | some elems=>
      have ai:=hm;rw[hm]at h;simp only[oO]at h;obtain⟨rest,_,hy⟩:=nN.1 h;subst hy;simp only[DataW.weights,I,oK,oM]at hw;have a7:elems.length=len:=by simpa using mapM_some_length hm
      have a8:len<=reachBytes:=by have h1:=hw _ (.inl rfl);have h2:((elems.map (·.1)).length+(rest.map (·.1)).length)*1<=((elems.map (·.1)).length+(rest.map (·.1)).length)*P.bytesOf e:=lE _ ab;simp only[nE,Nat.mul_one]at h1 h2;omega
      have aj:∀ y∈elems,∀ x∈y.1.weights P e,x<=reachBytes:=λy hy x Y=>hw x (.inr (.inl (Ba (oT.2 ⟨y,hy,rfl⟩) Y)));obtain⟨es,O,ak⟩:=HL (Q:=λi (x:D)=>Shp P n e x.cells/\eOk (IM P e) x/\Holds w x/\∀(j:Nat) (u:D),x.cells[j]?=some u->w.cell? ((a.add (i*ez (IM P e))).add j)=some u.cv) ai λi _ y al hy=>by
       cases hc:w.cells? base (a.add (i*P.cellsOf e)) (P.cellsOf e)with
       | none=>rw[hc]at hy;simp at hy
       | some vs=>rw[hc]at hy;simp only[oO]at hy;obtain⟨xs,h1,h2⟩:=ih e vs y ah hy (aj y al);obtain⟨ao,aq⟩:=Se hc;obtain⟨x,rfl,h3,h4⟩:=Xu h1 h2 ao hz;refine⟨x,h2,h3,h4,λj u I=>?_⟩;rw[<-hz];refine aq j _ ?_;rw[<-h1.cv,oF,I];rfl
      have O:es.length=len:=by simpa using O
      have aa:∀ k x,es[k]?=some x->Shp P n e x.cells/\eOk (IM P e) x/\Holds w x/\∀(j:Nat) (u:D),x.cells[j]?=some u->w.cell? ((a.add (k*ez (IM P e))).add j)=some u.cv:=λk x hk=>by
       have au:k<len:=by rw[<-O];exact(oD.1 hk).1
       obtain⟨x',h1,h2⟩:=ak k k (by simp[au]);rw[hk]at h1;cases h1;exact h2
      have U:∀ x∈es,Shp P n e x.cells/\eOk (IM P e) x/\Holds w x:=λx Y=>by obtain⟨k,hk⟩:=oS.1 Y;obtain⟨h1,h2,h3,_⟩:=aa k x hk;exact⟨h1,h2,h3⟩
      obtain⟨ae,ac⟩:=zAN (a:=a) (λx Y=>(U x Y).2.1) λk x hk=>(aa k x hk).2.2.2;refine⟨[.sl (some a) (IM P e) es cap],.one (by simp[D.cv,O]) trivial (.sl ac aA (λx Y=>(U x Y).2.1) (λx Y=>(U x Y).2.2) ae),_,_,_,rfl,aA,λx Y=>(U x Y).1⟩
   ·rename_i cs _ cs' fs I;rw[I]at J ⊢;simp only[oL,ob,List.contains_iff_mem]at J;obtain⟨hc,aw⟩:=J;split at h
    rotate_left
    ·cases h
    rename_i hl;cases hm:fs.toList.mapM λf=>DataW.trod enc P w base spare held n f.type ((cs.drop f.offset).take (P.cellsOf f.type))with
    | none=>rw[hm]at h;simp at h
    | some r=>rw[hm]at h;simp only[oX,od]at h;subst h;simp only[DataW.weights,I]at hw;obtain⟨xs,h1,h2⟩:=Hi (R:=Shp P n) hc aA hm hw λf hf vs y hy ax=>ih f.type vs y (aw f hf) hy ax;refine⟨xs,?_,h2⟩;simpa [<-hl]using h1
   all_goals(rename_i I;first | (rw[I]at J;simp at J;done) | (exfalso;simp_all;done))
open Go Go.ChangeShapes Go.WideShapes Go.ChangeAt Go.RowKit
structure Ret1 (W W':World) (e:Ending):Prop where
 e:e=.returned (.bool true)
 old:∀ b,b<W.heap.size->W'.heap[b]?=W.heap[b]?
 size:W.heap.size<=W'.heap.size
 ku:KU W W'
theorem Yd {av:Nat->Prop}{W W':World}{e:Ending}(h:Fin [.bool] (λr _=>r=true) av W e W'):Ret1 W W' e:=by
 cases e with
 | returned v=>
   obtain⟨ps,rows,e',hd⟩:=h;have I:=hd.q;have J:=hd.v;refine⟨?_,hd.old,hd.size,hd.ku⟩;cases ps with
   | nil=>simp[QT.app]at I
   | cons p ps=>
     cases p<;>simp[QT.app]at I
     cases ps<;>cases rows<;>simp[QT.app]at I
     subst I;rw[J];rfl
 | _=>exact h.elim
theorem Th {H:Type} {enc:aK × Value->H} {P:Program} {fn:Func} {s:ChangeSpec} {apart fresh I:Bool} {W W':World} {args:Array Value} {ds gs:List (DataW H)} {J:List MemPlace} {tb:aK} {e:Ending}
  (K:Kids P (·<P.types.size)) (full:∀ t e,t<P.types.size->P.underlying t=some (.slice e)->0<P.cellsOf e)
  (Y:∀ t∈fn.params.toList,t<P.types.size) (hv:s.vars=[]) (ac:fn.resultTypes=#[tb]) (ae:P.underlying tb=some .bool)
  (hs:s.fn H (ds++gs)={ results:=[.lit (.bool true)],args:=ds })
  (hW:DataW.Whole enc P fn.params.toList s.vars apart W args.toList ds gs J) (hr:Ret1 W W' e) :
  ∃ v,e=.returned v/\s.post enc P fn apart fresh I false W args v W':=by
 refine⟨_,hr.e,?_⟩;have aa:=hW;obtain⟨p,q,hA,hV,rfl,ai,_⟩:=hW;rw[hv]at hV;obtain⟨rfl,rfl⟩:=trodVars_none hV;have ab:∀ x∈p++[],x.block<W.heap.size:=aa.lt;have O:∀ {ts:List aK} {vs:aJ} {ds:List (DataW H)} {ps:List MemPlace},DataW.TrodAll enc P W 0 (λ_=>true) true ts vs ds ps->(∀ x∈ps,x.block<W.heap.size)->DataW.TrodAll enc P W' 0 (λ_=>true) true ts vs ds ps:=by
  intro ts
  induction ts with
  | nil=>intro vs ds ps h _;obtain⟨rfl,rfl,rfl⟩:=trodAll_nil h;exact trodAll_mk0
  | cons t ts ih=>
    intro vs ds ps h hl;obtain⟨v,aj,d,ds1,a,b,rfl,rfl,rfl,⟨n,h1⟩,h2⟩:=trodAll_cons h;refine⟨a,b,⟨n,DataW.trod_carry n _ _ _ h1 λx U=>?_⟩,ih h2 λx U=>hl x (by simp[U]),rfl⟩;have hb:=hr.old _ (hl x (by simp[U]));cases x with
    | cell b off=>simp only[World.sameAt,World.cell?,MemPlace.block]at hb ⊢;rw[hb]
    | map b=>exact hb
 have ah:=O hA λx U=>ab x (by simp[U]);refine⟨ds,[],p++[],[],p,[],aa,?_,?_,?_,⟨hr.ku.os,hr.ku.out,λi hi=>?_⟩,λh=>by cases h⟩
 ·rw[hs,ac];exact trodAll_mk1 ⟨1,by simp[DataW.trod,Value.cells,ae]⟩
 ·rw[hs];exact DataW.TrodAll.respare K full Y ah λx U=>by simpa using ab x (by simp[U])
 ·rw[hs,hv];rfl
 ·rw[hr.old i hi];cases hb:W.heap[i]? with
  | none=>rfl
  | some o=>
    cases o with
    | cells c t fr=>exact⟨rfl,rfl,rfl,λ_ _=>rfl⟩
    | map es clock=>exact .inr ⟨rfl,rfl⟩
    | _=>rfl
open Go Go.Proofs Go.Proofs.Tryz Go.ChangeShapes Go.WideShapes Go.ChangeAt Go.RowKit
theorem zB7:Kids prog (·<prog.types.size):=kids_rows (by kernel_rfl) (by kernel_rfl)
theorem full:∀ t e,t<prog.types.size->prog.underlying t=some (.slice e)->0<prog.cellsOf e:=slices_full_of prog (by kernel_rfl)
def TT:List aK:=[9,3,4,84,26,5]
theorem V2:TT.all (QH prog TT)=true:=by kernel_rfl
theorem M6:ownKnob prog.godebug=none:=by kernel_rfl
theorem Rq {H:Type}{P:Program}{ts:List aK}{ds:List (DataW H)}(h:(DataW.weightsEach P ts ds).all (·<=reachBytes)=true){j:Nat}{t:aK}{d:DataW H}(I:ts[j]?=some t)(hd:ds[j]?=some d):∀ n∈d.weights P t,n<=reachBytes:=λn J=>by
 have:=ob.1 h _ (DataW.weights_mem_each I hd n J)
 simpa using this
theorem WK {H:Type} {enc:aK × Value->H} {P:Program} {T:List aK} (O:T.all (QH P T)=true) {W:World} {r:Reach} {b:Nat} {t e:aK} {v:Value} {d:DataW H} {ps:List MemPlace} (U:t∈T) (J:P.underlying t=some (.slice e))
  (I:Value.okWide P W r b t v) (h:DataW.Trod enc P W 0 (λ_=>true) true t v d ps) (Y:∀ n∈d.weights P t,n<=reachBytes):∃(n:Nat) (a:aH) (es:aM) (c:Nat),(PV.sv a (IM P e) es c).val []=v/\Holds W (.sl a (IM P e) es c)/\Shp P n t [.sl a (IM P e) es c]:=by
 obtain⟨n,h⟩:=h;obtain⟨a0,len,cap,rfl⟩:=okWide_slice J I;obtain⟨xs,s,k⟩:=NJ O n t _ _ U h Y;obtain⟨m,a,es,c,rfl,rfl,_,_⟩:=QU J k;have e0:(D.sl a (IM P e) es c).cv=.slice a0 len cap:=by
  have:=s.cv
  simpa [Value.cells]using this
 exact⟨_,a,es,c,e0,s.hold _ aB,k⟩
end Go.Proofs.YtlaniepnglheoaaGreatDoor
set_option maxRecDepth 100000
namespace Go.Proofs.YtlaniepnglheoaaGreatDoor
open Go Go.Proofs Go.Proofs.Tryz
end Go.Proofs.YtlaniepnglheoaaGreatDoor
set_option maxRecDepth 100000
namespace Go.Proofs.YtlaniepnglheoaaGreatDoor
open Go Go.Proofs Go.Proofs.Tryz
end Go.Proofs.YtlaniepnglheoaaGreatDoor
set_option maxRecDepth 100000
namespace Go.Proofs.YtlaniepnglheoaaGreatDoor
open Go Go.Proofs Go.Proofs.Tryz Go.ChangeShapes Go.WideShapes Go.ChangeAt Go.RowKit
/-- the list that the row bears -/
def laidAll : List (String × DataW Unit) := [("math/bits.deBruijn32tab", Rows.laid_math_bits_deBruijn32tab), ("math/bits.deBruijn64tab", Rows.laid_math_bits_deBruijn64tab), ("internal/strconv.uint64pow10", Rows.laid_internal_strconv_uint64pow10), ("unicode/utf8.acceptRanges", Rows.laid_unicode_utf8_acceptRanges), ("strconv.ErrRange", Rows.laid_strconv_ErrRange), ("strconv.ErrSyntax", Rows.laid_strconv_ErrSyntax), ("unicode.White_Space", Rows.laid_unicode_White_Space), ("strings.asciiSpace", Rows.laid_strings_asciiSpace), ("unicode/utf8.first", Rows.laid_unicode_utf8_first)]
theorem zBn : prog.globalNamed "internal/strconv.uint64pow10" = some 4 := by kernel_rfl
theorem zB9:(prog.globals[4]?).map (·.type)=some 211:=by kernel_rfl
theorem zB1:prog.cellsOf 211=20:=by kernel_rfl
theorem zA2:prog.cellsOf 192=1:=by kernel_rfl
theorem zBp : prog.globalNamed "strings.asciiSpace" = some 0 := by kernel_rfl
theorem zCB:(prog.globals[0]?).map (·.type)=some 107:=by kernel_rfl
theorem zB2:prog.cellsOf 107=256:=by kernel_rfl
theorem zA3:prog.cellsOf 5=1:=by kernel_rfl
theorem zBq : prog.globalNamed "strconv.ErrSyntax" = some 5 := by kernel_rfl
theorem zCC:(prog.globals[5]?).map (·.type)=some 169:=by kernel_rfl
theorem zBo : prog.globalNamed "strconv.ErrRange" = some 6 := by kernel_rfl
theorem zCA:(prog.globals[6]?).map (·.type)=some 169:=by kernel_rfl
theorem zBi:prog.cellsOf 240=1:=by kernel_rfl
theorem zBj:prog.cellsOf 9=1:=by kernel_rfl
theorem zAX : "*" ++ "errors.errorString" = "*errors.errorString" := by decide
theorem XB (u : aK)(h : prog.typeName? 3 u = some "*errors.errorString") : u = 238 :=
 typeName_ptr_named (nm := "errors.errorString") (by rw [zAX]; kernel_rfl) (by kernel_rfl) aD u (by rw [zAX]; exact h)
theorem Ad {W:World}{n:String}{g:Nat}{cs:Array Value}(I:prog.globalNamed n=some g)(h:W.var? prog n=some cs):∃ t fz,W.heap[g]?=some (.cells cs t fz):=by
 unfold World.var? at h;rw[I]at h;simp only[Option.bind]at h;cases hb:W.heap[g]? with
 | none=>rw[hb]at h;cases h
 | some o=>
   rw[hb]at h;cases o with
   | cells c t z=>simp only[od]at h;subst h;exact⟨t,z,rfl⟩
   | _=>cases h
theorem Oh {W:World}(h:laidMetH prog laidAll W):GlobIs W:=by
 rw [MakeChecks.laidMetH_plain _ _ _ (by kernel_rfl)] at h;have O : laidMet prog (("internal/strconv.uint64pow10", Lib.tabData .u64 Lib.pow10Tab) :: _) W := h.tail.tail;have U:=Lib.tabIs_of_head zBn zB9 underlying211 underlying192 zA2 zB1 O;have J:=O.tail.tail;have hA : laidMet prog (("strings.asciiSpace", Lib.tabData .u8 Lib.asciiSpaceTab) :: _) W := J.tail.tail.tail;have Y:=Lib.tabIs_of_head zBp zCB underlying107 underlying5 zA3 zB2 hA;obtain ⟨a0,s0,v0,_⟩:=laid_sentinel J zBo zCA underlying169 XB underlying238 underlying240 rfl rfl underlying9 zBi zBj;obtain ⟨a1,s1,v1,_⟩:=laid_sentinel J.tail zBq zCC underlying169 XB underlying238 underlying240 rfl rfl underlying9 zBi zBj;unfold Lib.TabIs at U Y;refine ⟨λx I=>?_,λx I=>?_⟩
 ·simp only[glob,oK,nP,mn]at I;subst I;exact Ad zBn U
 ·simp only[Mn,oK,nP,mn]at I;rcases I with rfl | rfl | rfl
  ·obtain⟨t,fz,e⟩:=Ad zBp Y;exact⟨_,t,fz,e,rfl⟩
  ·obtain⟨t,fz,e⟩:=Ad zBq v1;exact⟨_,t,fz,e,_,rfl,.inr ⟨_,_,rfl⟩⟩
  ·obtain⟨t,fz,e⟩:=Ad zBo v0;exact⟨_,t,fz,e,_,rfl,.inr ⟨_,_,rfl⟩⟩
theorem ZW {W:World}(h:laidMetH prog laidAll W):Avl avG W []:=⟨λb hb=>(Oh h).lt hb,Oh h,λb hb=>hb,λb hb=>by simp,λx I=>aB⟩
noncomputable def Zn (os:Os):World:=World.laidAll prog os laidAll
theorem VK (os:Os)(args:Array Value):laidMetH prog laidAll ((Zn os).forCall (λ_ _=>0) ⟨#[],args,[]⟩).memory:=by rw[MakeChecks.laidMetH_plain _ _ _ (by kernel_rfl)];exact laidMet_laidAll args (by kernel_rfl) (by kernel_rfl)
end Go.Proofs.YtlaniepnglheoaaGreatDoor
set_option maxRecDepth 100000
namespace Go.Proofs.YtlaniepnglheoaaGreatDoor
open Go Go.Proofs Go.Proofs.Tryz
theorem ez5:IM prog 5=0:=by kernel_rfl
theorem Pf {W:World}{n:Nat}{a:aH}{es:aM}{c:Nat}(hH:Holds W (.sl a 0 es c))(h:Shp prog n 26 [.sl a 0 es c]):∀ d∈es,∃ k:Int,d=.lit (.int .u8 k):=by
 obtain⟨m,a',J,c',e,hs,hl,O⟩:=QU underlying26 h;have he:J=es:=by cases hs;rfl
 subst he;have I:∀ x∈J,x.isCell:=by
  cases hH with
  | nil=>intro x O;simp at O
  | sl h1 h2 h3 h4 h5=>intro x O;exact h3 x O
 intro x U;obtain⟨k,Y⟩:=zAU underlying5 (O x U);have hc:=I x U;refine⟨k,?_⟩;cases x<;>simp[D.isCell,D.cells]at hc Y ⊢<;>exact Y
end Go.Proofs.YtlaniepnglheoaaGreatDoor
set_option maxRecDepth 100000
namespace Go.Proofs.YtlaniepnglheoaaGreatDoor
open Go Go.Proofs Go.Proofs.Tryz
theorem Or {W:World}(g:GlobIs W){ad:Addr}{cs:aM}{k:Int}(h:Row W ad cs)(U:cs[0]?=some (.lit (.int .u8 k))):¬avG ad.block:=by
 rintro⟨x,J,hb⟩
 obtain⟨t,fz,Y⟩:=g.h x J;rw[hb]at Y;rcases h with rfl | ⟨c,t',aa,I,h3⟩
 ·simp at U
 ·rw[Y]at I;injection I with I
  injection I with e1 e2 e3
  have O:=h3 0 _ U;rw[<-e1]at O;simp only[glob,oK,nP,mn]at J;subst J;simp only[lQ,oF,nN,D.cv]at O;obtain⟨n,_,hn⟩:=O;cases hn
theorem My {W:World}(g:GlobIs W){a:aH}{es:aM}{c:Nat}(h:Holds W (.sl a 0 es c))(hb:∀ d∈es,∃ n:Int,d=.lit (.int .u8 n)):∀ b∈(D.sl a 0 es c).foot,¬avG b:=by
 intro b I;have O:zC es=[]:=by
  have key:∀ l:aM,(∀ d∈l,∃ n:Int,d=.lit (.int .u8 n))->zC l=[]:=by
   intro l
   induction l with
   | nil=>intro _;rfl
   | cons d l U=>intro hl;obtain⟨n,rfl⟩:=hl d aB;simp only[zC,D.foot,oa];exact U λd hd=>hl d (by simp[hd])
  exact key es hb
 cases a with
 | none=>simp only[D.foot,O]at I;simp at I
 | some ad=>
   cases es with
   | nil=>simp[D.foot]at I
   | cons e es=>
     simp only[D.foot,List.isEmpty_cons,O]at I;obtain rfl:b=ad.block:=by simpa using I
     cases h with
     | sl _ _ _ _ J=>obtain⟨n,rfl⟩:=hb e aB;exact Or g J (k:=n) (by simp[yM,D.cells])
open Go Go.Proofs Go.Proofs.Tryz Go.ChangeShapes Go.WideShapes Go.ChangeAt Go.RowKit
set_option maxHeartbeats 1600000 in
set_option maxRecDepth 100000 in
theorem ED (os:Os) (I:os.Started) (H:Type) (enc:aK × Value->H) :
  ReturnsInHanded {} checked os 5 .any (λw args=>(Rows.fnExamplesSpec.pre enc prog Tryz.f5 [] false w args/\laidMetH prog laidAll w)/\sizedMet enc prog Tryz.f5 (OpenSpec.ofChange Rows.fnExamplesSpec) false w args)
   (Rows.fnExamplesSpec.post enc prog Tryz.f5 false true false false):=by
 refine returnsInHanded_of_change_and (C:=checked) (X:=λw _=>laidMetH prog laidAll w) (λ_ _ _ hh h=>h.of_heap hh) M6 I (by kernel_rfl) func5
  (ChangeSpec.witness_shaped (enc:=enc) (C:=checked) (os:=os) (X:=λw _=>laidMetH prog laidAll w) false (Zn os) #[.slice none 0 0] 8 rfl (World.shaped_of_ZipB (by kernel_rfl) (by kernel_rfl)) (by kernel_rfl) (by kernel_rfl) (by kernel_rfl) (VK os _)) ?_
 intro W base args ds gs ab Y hW _ O hL _;have U:∀(j:Nat) t v,Tryz.f5.params[j]?=some t->args[j]?=some v->Value.okWide prog W .any base t v:=Y;have ac:=hW;obtain⟨p,q,ae,hV,rfl,ai,_⟩:=hW;have hA:DataW.TrodAll enc prog W 0 (λ_=>true) true Tryz.f5.params.toList args.toList ds p:=ae;have O:(DataW.weightsEach prog (Tryz.f5.params.toList++[]) (ds++gs)).all (·<=reachBytes)=true:=O;rw[params5]at hA U O;obtain⟨v0,aj,d0,ds1,p0,p1,ha,rfl,rfl,h0,hr⟩:=trodAll_cons hA;obtain⟨rfl,rfl,rfl⟩:=trodAll_nil hr;obtain rfl:args=#[v0]:=by rw[<-nc,ha]
 obtain⟨rfl,rfl⟩:=trodVars_none hV;obtain⟨n0,aC,ah,cC,e0,J,k0⟩:=WK V2 aD underlying26 (U 0 26 v0 rfl rfl) h0 (Rq O (j:=0) rfl rfl);rw[ez5]at e0 J k0;have hc:=(Mv (Pf J k0) aC cC W.heap.size).h avG W rfl (ZW hL) (λp hp=>by simp only[oK,nP,mn]at hp;subst hp;exact⟨⟨J,My (Oh hL) J (Pf J k0)⟩,rfl⟩);have aa:([PV.sv aC 0 ah cC].map (PV.val [])).toArray=#[v0]:=by simp only[o9,lC,e0]
 rw[aa]at hc;refine hc.mono λe W' hf=>?_;exact Th zB7 full (by rw[params5];decide) rfl (by kernel_rfl) underlying4 rfl ac (Yd hf)
theorem Il:Rows.FnExamplesSaid:=
 OpenClaim.holds_of_wide 5 Tryz.f5 rfl rfl rfl rfl rfl rfl rfl ⟨rfl,rfl,rfl,rfl,rfl⟩ rfl rfl rfl rfl rfl (by kernel_rfl) func5 (by kernel_rfl)
  (lN (by kernel_rfl)) (by unfold Func.isWrapper;first | (rw[if_pos (by decide +kernel)];kernel_rfl) | (rw[if_neg (by decide +kernel)];exact⟨rfl,rfl⟩))
  (λos I H enc _=>ED os I H enc)
theorem fnExamples_holds:Rows.FnExamplesCardSaid:=
 Claim7.holds_tied_plain_at .later [] [.data,.data,.data,.data,.sentinel,.sentinel,.listed,.data,.pinned] true Rows.fnExamplesCard.stood.harness true
  Il (λ_ h=>by cases h) (by kernel_rfl) (λ_ h=>by cases h) fnExamples_row_tie rfl ⟨rfl,rfl⟩ (by kernel_rfl) rfl
  (λf fn U J=>by
   obtain rfl : f = 5 := oZ ((show prog.funcNamed "loop.example/g00589/laws.FnExamples" = some 5 by kernel_rfl).symm.trans U) |>.symm
   obtain rfl:fn=Tryz.f5:=(oZ (func5.symm.trans J)).symm;exact⟨by kernel_rfl,λj t O=>by
    rw[params5]at O;have Y:t∈[26]:=by simpa using Array.mem_of_getElem? O
    have I:([26].all λu=>!prog.wantsStandIn u)=true:=by kernel_rfl
    exact(show prog.wantsStandIn t=false by simpa using ob.1 I t Y)⟩)
  (by kernel_rfl)
#print axioms fnExamples_holds
end Go.Proofs.YtlaniepnglheoaaGreatDoor
