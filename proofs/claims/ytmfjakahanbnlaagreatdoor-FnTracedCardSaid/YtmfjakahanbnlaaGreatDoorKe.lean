/- Printed by gen.py: what the functions come to. -/
import Derived.Test.YtmfjakahanbnlaaGreatDoorJh
set_option linter.unusedVariables false
set_option maxRecDepth 100000
namespace Go.Proofs.YtmfjakahanbnlaaGreatDoor
open Go Go.Proofs Go.Proofs.Tryz
def shA:FuncId->List Sh:=λf=>match zL7 f [(207,[.pk,.int .i64,.str,.str,.int .i64,.dc,.dc,.dc,.dc,.row 35 9]),(208,[.pk,.int .i64,.str,.str,.int .i64,.dc,.dc,.dc,.dc,.row 35 9]),(157,[.pk,.int .i64,.str,.str,.int .i64,.dc,.dc,.dc,.dc,.row 35 9]),(219,[.row 0 1000007,.pk,.int .i64,.str,.str,.int .i64,.dc,.dc,.dc,.dc,.row 35 9]),(155,[.row 0 1000007,.pk,.int .i64,.str,.str,.int .i64,.dc,.dc,.dc,.dc,.row 35 9])] with
 | []=>sh f
 | l=>l
theorem zSH {f:FuncId} {rs:List Sh} {Q:QT rs} {N:Nat} {H:Hint} {args:List PV} {F:Prop} (hc:yv prog f=true) (I:F=zGn prog shA f rs Q N H 400 args) (h:F):ACalls prog f rs args N Q:=zPJ mixed hc I h
theorem zOm {f:FuncId} {full:List Sh} {Q:QT full} {N:Nat} {H:Hint} {args:List PV} {bx:List Bx} {F:Env->Prop} (hc:yv prog f=true) (I:∀ E,F E=zGy prog shA f full Q N H 400 args bx E) (h:∀ E,F E):BCalls prog f full args bx N Q:=zLO mixed hc I h
theorem zB3 {f:FuncId} {rs:List Sh} {Q:QT rs} {N0:Nat} {M:Mode} {H:Hint} {I:List Item} {st:St} {F:Prop} (J:F=zB5 st λst=>W prog shA f rs Q N0 M H 400 true I st) (h:F):AT prog f rs Q N0 M I st:=zRe mixed J h
def zFs:Hint:=⟨[],[],[]⟩
def zDu:Hint:=⟨[],[],[]⟩
def zFw:Hint:=⟨[],[],[]⟩
def zIQ:Hint:=⟨[],[],[(4,hs 6 [ec 4 [21]]),(6,[en 0,en 1,en 2,en 3,eh 4,ec 5 [27,31],eh 6])]⟩
def zHp:Hint:=⟨[],[],[]⟩
def zh:Hint:=⟨[hc 18 [0,1,4,5,6,7] [] [(5,8,35,9)]],[hc 11 [0,1,4,5] [] [(5,8,35,9)],hc 13 [0,1,4,5] [] [(5,8,35,9)],hc 16 [0,1,4,5] [] [(5,8,35,9)]],[(20,[en 0,en 1,en 2,en 3,en 4,eh 5,{ i:=6,hard:=true,cl:=[69],fs:=[5,69] },eh 7,en 8,eh 9])]⟩
def t8:Hint:=⟨[hc 10 [2,3,4,5],hc 15 [2,3,6]],[],[(6,[en 0,en 1,eh 2,en 3,eh 4,en 5,eh 6]),(12,hs 3 [ec 1 [34]]),(17,hs 4 [ec 2 [42,43]])]⟩
def zIJ:Hint:=⟨[],[],[(10,[en 0,en 1,eh 2,{ i:=3,hard:=true,cl:=[32],fs:=[3,32] },eh 4,en 5,eh 6])]⟩
def zw (E:Env) (Q:QT [Sh.pk,(Sh.int IntKind.i64),Sh.str,Sh.str,(Sh.int IntKind.i64),Sh.dc,Sh.dc,Sh.dc,Sh.dc,(Sh.row (OfNat.ofNat 35) 9),(Sh.sl 0),(Sh.int IntKind.i64),(Sh.int IntKind.i64)]) (N0:Nat) (n1:Int) (I:Option Addr) (J:List D) (O:Nat) (U Y aa:Int) (ab ac:ByteArray) (ae ah:Int) (ai:Option Addr) (aj:List D) (ak:Nat) (al:Int) (am:Option Addr) (ao:List D) (aq:Nat) (au:Option Addr) (aw:List D) (ax:Nat) (ay:Int) (az a1:ByteArray) (a6 a7:Int) (a8:Option Addr) (ba:List D) (bb:Nat) (bc:Int) (bd:Option Addr) (bg:List D) (bh bi bj:Nat) (r3:List D) (q3:Nat) (N:Nat):Prop:=AT prog 155 [Sh.pk,(Sh.int IntKind.i64),Sh.str,Sh.str,(Sh.int IntKind.i64),Sh.dc,Sh.dc,Sh.dc,Sh.dc,(Sh.row (OfNat.ofNat 35) 9),(Sh.sl 0),(Sh.int IntKind.i64),(Sh.int IntKind.i64)] Q N0 (.io E [.var [.sv none 0 [] 0,.int .i64 0,.int .i64 0]]) (zBD prog 155 11) ⟨.pb 0 0 0 0::.int .i64 n1::an 2 (.pb 1 0 0 0::.pb 2 0 0 0::an 68 []),[.var [.sv I 0 J O,.int .i64 U,.int .i64 Y],.var [.int .i64 aa,.str ab,.str ac,.int .i64 ae,.int .i64 ah,.sv ai 2 aj ak,.int .i64 al,.sv am 2 ao aq,.sv au 9 aw ax],.var [.int .i64 ay,.str az,.str a1,.int .i64 a6,.int .i64 a7,.sv a8 2 ba bb,.int .i64 bc,.sv bd 2 bg bh,.sb 3 9 0 bi bj],.arr 35 9 r3 q3],N,some (yu E 0 [.var [.sv none 0 [] 0,.int .i64 0,.int .i64 0]],[])⟩
def xt (E:Env) (Q:QT [(Sh.ag 2),(Sh.sl 0),(Sh.int IntKind.i64),(Sh.int IntKind.i64)]) (N0:Nat) (n4 n5:Int) (I:Option Addr) (J:List D) (O:Nat) (U Y aa:Int) (ab:Option Addr) (ac:List D) (ae:Nat) (y2:D) (N:Nat):Prop:=AT prog 158 [(Sh.ag 2),(Sh.sl 0),(Sh.int IntKind.i64),(Sh.int IntKind.i64)] Q N0 (.io E [.var [.sv none 0 [] 0,.int .i64 0,.int .i64 0]]) (zC prog 158 10) ⟨an 2 (.pb 1 0 0 0::.pb 2 0 0 0::.int .i64 n4::.int .i64 n5::an 40 []),[.var [.sv I 0 J O,.int .i64 U,.int .i64 Y],.var [.int .i64 aa,.sv ab 2 ac ae],.vd y2 2],N,some (yu E 0 [.var [.sv none 0 [] 0,.int .i64 0,.int .i64 0]],[])⟩
def xq (E:Env) (Q:QT [(Sh.ag 2),(Sh.sl 0),(Sh.int IntKind.i64),(Sh.int IntKind.i64)]) (N0:Nat) (n6:Int) (I:Option Addr) (J:List D) (O:Nat) (U Y aa:Int) (ab:Option Addr) (ac:List D) (ae:Nat) (y2:D) (N:Nat):Prop:=AT prog 158 [(Sh.ag 2),(Sh.sl 0),(Sh.int IntKind.i64),(Sh.int IntKind.i64)] Q N0 (.io E [.var [.sv none 0 [] 0,.int .i64 0,.int .i64 0]]) (zC prog 158 15) ⟨an 2 (.pb 1 0 0 0::.pb 2 0 0 0::an 2 (.int .i64 n6::an 39 [])),[.var [.sv I 0 J O,.int .i64 U,.int .i64 Y],.var [.int .i64 aa,.sv ab 2 ac ae],.vd y2 2],N,some (yu E 0 [.var [.sv none 0 [] 0,.int .i64 0,.int .i64 0]],[])⟩
def wh (E:Env) (Q:QT [Sh.pk,(Sh.int IntKind.i64),Sh.str,Sh.str,(Sh.int IntKind.i64),Sh.dc,Sh.dc,Sh.dc,Sh.dc,(Sh.row (OfNat.ofNat 35) 9),(Sh.sl 0),(Sh.int IntKind.i64),(Sh.int IntKind.i64)]) (N0:Nat) (n1:Int) (I:Option Addr) (J:List D) (O:Nat) (U Y aa:Int) (ab ac:ByteArray) (ae ah:Int) (ai:Option Addr) (aj:List D) (ak:Nat) (al:Int) (am:Option Addr) (ao:List D) (aq:Nat) (au:Option Addr) (aw:List D) (ax:Nat) (ay:Int) (az a1:ByteArray) (a6:Int) (a7 a8:D) (ba:Int) (bb:Option Addr) (bc:List D) (bd bg bh:Nat) (r3:List D) (q3:Nat) (N:Nat):Prop:=AT prog 155 [Sh.pk,(Sh.int IntKind.i64),Sh.str,Sh.str,(Sh.int IntKind.i64),Sh.dc,Sh.dc,Sh.dc,Sh.dc,(Sh.row (OfNat.ofNat 35) 9),(Sh.sl 0),(Sh.int IntKind.i64),(Sh.int IntKind.i64)] Q N0 (.io E [.var [.sv none 0 [] 0,.int .i64 0,.int .i64 0]]) (zBD prog 155 13) ⟨.pb 0 0 0 0::.int .i64 n1::an 2 (.pb 1 0 0 0::.pb 2 0 0 0::an 68 []),[.var [.sv I 0 J O,.int .i64 U,.int .i64 Y],.var [.int .i64 aa,.str ab,.str ac,.int .i64 ae,.int .i64 ah,.sv ai 2 aj ak,.int .i64 al,.sv am 2 ao aq,.sv au 9 aw ax],.var [.int .i64 ay,.str az,.str a1,.int .i64 a6,.dc a7,.dc a8,.int .i64 ba,.sv bb 2 bc bd,.sb 3 9 0 bg bh],.arr 35 9 r3 q3],N,some (yu E 0 [.var [.sv none 0 [] 0,.int .i64 0,.int .i64 0]],[])⟩
def wg (E:Env) (Q:QT [Sh.pk,(Sh.int IntKind.i64),Sh.str,Sh.str,(Sh.int IntKind.i64),Sh.dc,Sh.dc,Sh.dc,Sh.dc,(Sh.row (OfNat.ofNat 35) 9),(Sh.sl 0),(Sh.int IntKind.i64),(Sh.int IntKind.i64)]) (N0:Nat) (n1:Int) (I:Option Addr) (J:List D) (O:Nat) (U Y aa:Int) (ab ac:ByteArray) (ae ah:Int) (ai:Option Addr) (aj:List D) (ak:Nat) (al:Int) (am:Option Addr) (ao:List D) (aq:Nat) (au:Option Addr) (aw:List D) (ax:Nat) (ay:Int) (az a1:ByteArray) (a6 a7:Int) (a8:Option Addr) (ba:List D) (bb:Nat) (bc:Int) (bd:Option Addr) (bg:List D) (bh bi bj:Nat) (r3:List D) (q3:Nat) (N:Nat):Prop:=AT prog 155 [Sh.pk,(Sh.int IntKind.i64),Sh.str,Sh.str,(Sh.int IntKind.i64),Sh.dc,Sh.dc,Sh.dc,Sh.dc,(Sh.row (OfNat.ofNat 35) 9),(Sh.sl 0),(Sh.int IntKind.i64),(Sh.int IntKind.i64)] Q N0 (.io E [.var [.sv none 0 [] 0,.int .i64 0,.int .i64 0]]) (zBD prog 155 13) ⟨.pb 0 0 0 0::.int .i64 n1::an 2 (.pb 1 0 0 0::.pb 2 0 0 0::an 68 []),[.var [.sv I 0 J O,.int .i64 U,.int .i64 Y],.var [.int .i64 aa,.str ab,.str ac,.int .i64 ae,.int .i64 ah,.sv ai 2 aj ak,.int .i64 al,.sv am 2 ao aq,.sv au 9 aw ax],.var [.int .i64 ay,.str az,.str a1,.int .i64 a6,.int .i64 a7,.sv a8 2 ba bb,.int .i64 bc,.sv bd 2 bg bh,.sb 3 9 0 bi bj],.arr 35 9 r3 q3],N,some (yu E 0 [.var [.sv none 0 [] 0,.int .i64 0,.int .i64 0]],[])⟩
def uK (E:Env) (Q:QT [Sh.pk,(Sh.int IntKind.i64),Sh.str,Sh.str,(Sh.int IntKind.i64),Sh.dc,Sh.dc,Sh.dc,Sh.dc,(Sh.row (OfNat.ofNat 35) 9),(Sh.sl 0),(Sh.int IntKind.i64),(Sh.int IntKind.i64)]) (N0:Nat) (n1:Int) (I:Option Addr) (J:List D) (O:Nat) (U Y aa:Int) (ab ac:ByteArray) (ae ah:Int) (ai:Option Addr) (aj:List D) (ak:Nat) (al:Int) (am:Option Addr) (ao:List D) (aq:Nat) (au:Option Addr) (aw:List D) (ax:Nat) (ay:Int) (az a1:ByteArray) (a6:Int) (a7 a8 ba bb:D) (bc bd:Nat) (r3:List D) (q3:Nat) (N:Nat):Prop:=AT prog 155 [Sh.pk,(Sh.int IntKind.i64),Sh.str,Sh.str,(Sh.int IntKind.i64),Sh.dc,Sh.dc,Sh.dc,Sh.dc,(Sh.row (OfNat.ofNat 35) 9),(Sh.sl 0),(Sh.int IntKind.i64),(Sh.int IntKind.i64)] Q N0 (.io E [.var [.sv none 0 [] 0,.int .i64 0,.int .i64 0]]) (zBD prog 155 16) ⟨.pb 0 0 0 0::.int .i64 n1::an 2 (.pb 1 0 0 0::.pb 2 0 0 0::an 68 []),[.var [.sv I 0 J O,.int .i64 U,.int .i64 Y],.var [.int .i64 aa,.str ab,.str ac,.int .i64 ae,.int .i64 ah,.sv ai 2 aj ak,.int .i64 al,.sv am 2 ao aq,.sv au 9 aw ax],.var [.int .i64 ay,.str az,.str a1,.int .i64 a6,.dc a7,.dc a8,.dc ba,.dc bb,.sb 3 9 0 bc bd],.arr 35 9 r3 q3],N,some (yu E 0 [.var [.sv none 0 [] 0,.int .i64 0,.int .i64 0]],[])⟩
def wM (E:Env) (Q:QT [Sh.pk,(Sh.int IntKind.i64),Sh.str,Sh.str,(Sh.int IntKind.i64),Sh.dc,Sh.dc,Sh.dc,Sh.dc,(Sh.row (OfNat.ofNat 35) 9),(Sh.sl 0),(Sh.int IntKind.i64),(Sh.int IntKind.i64)]) (N0:Nat) (n1:Int) (I:Option Addr) (J:List D) (O:Nat) (U Y aa:Int) (ab ac:ByteArray) (ae ah:Int) (ai:Option Addr) (aj:List D) (ak:Nat) (al:Int) (am:Option Addr) (ao:List D) (aq:Nat) (au:Option Addr) (aw:List D) (ax:Nat) (ay:Int) (az a1:ByteArray) (a6:Int) (a7 a8:D) (ba:Int) (bb:Option Addr) (bc:List D) (bd bg bh:Nat) (r3:List D) (q3:Nat) (N:Nat):Prop:=AT prog 155 [Sh.pk,(Sh.int IntKind.i64),Sh.str,Sh.str,(Sh.int IntKind.i64),Sh.dc,Sh.dc,Sh.dc,Sh.dc,(Sh.row (OfNat.ofNat 35) 9),(Sh.sl 0),(Sh.int IntKind.i64),(Sh.int IntKind.i64)] Q N0 (.io E [.var [.sv none 0 [] 0,.int .i64 0,.int .i64 0]]) (zBD prog 155 16) ⟨.pb 0 0 0 0::.int .i64 n1::an 2 (.pb 1 0 0 0::.pb 2 0 0 0::an 68 []),[.var [.sv I 0 J O,.int .i64 U,.int .i64 Y],.var [.int .i64 aa,.str ab,.str ac,.int .i64 ae,.int .i64 ah,.sv ai 2 aj ak,.int .i64 al,.sv am 2 ao aq,.sv au 9 aw ax],.var [.int .i64 ay,.str az,.str a1,.int .i64 a6,.dc a7,.dc a8,.int .i64 ba,.sv bb 2 bc bd,.sb 3 9 0 bg bh],.arr 35 9 r3 q3],N,some (yu E 0 [.var [.sv none 0 [] 0,.int .i64 0,.int .i64 0]],[])⟩
def wd (E:Env) (Q:QT [Sh.pk,(Sh.int IntKind.i64),Sh.str,Sh.str,(Sh.int IntKind.i64),Sh.dc,Sh.dc,Sh.dc,Sh.dc,(Sh.row (OfNat.ofNat 35) 9),(Sh.sl 0),(Sh.int IntKind.i64),(Sh.int IntKind.i64)]) (N0:Nat) (n1:Int) (I:Option Addr) (J:List D) (O:Nat) (U Y aa:Int) (ab ac:ByteArray) (ae ah:Int) (ai:Option Addr) (aj:List D) (ak:Nat) (al:Int) (am:Option Addr) (ao:List D) (aq:Nat) (au:Option Addr) (aw:List D) (ax:Nat) (ay:Int) (az a1:ByteArray) (a6 a7:Int) (a8:Option Addr) (ba:List D) (bb:Nat) (bc bd:D) (bg bh:Nat) (r3:List D) (q3:Nat) (N:Nat):Prop:=AT prog 155 [Sh.pk,(Sh.int IntKind.i64),Sh.str,Sh.str,(Sh.int IntKind.i64),Sh.dc,Sh.dc,Sh.dc,Sh.dc,(Sh.row (OfNat.ofNat 35) 9),(Sh.sl 0),(Sh.int IntKind.i64),(Sh.int IntKind.i64)] Q N0 (.io E [.var [.sv none 0 [] 0,.int .i64 0,.int .i64 0]]) (zBD prog 155 16) ⟨.pb 0 0 0 0::.int .i64 n1::an 2 (.pb 1 0 0 0::.pb 2 0 0 0::an 68 []),[.var [.sv I 0 J O,.int .i64 U,.int .i64 Y],.var [.int .i64 aa,.str ab,.str ac,.int .i64 ae,.int .i64 ah,.sv ai 2 aj ak,.int .i64 al,.sv am 2 ao aq,.sv au 9 aw ax],.var [.int .i64 ay,.str az,.str a1,.int .i64 a6,.int .i64 a7,.sv a8 2 ba bb,.dc bc,.dc bd,.sb 3 9 0 bg bh],.arr 35 9 r3 q3],N,some (yu E 0 [.var [.sv none 0 [] 0,.int .i64 0,.int .i64 0]],[])⟩
def wO (E:Env) (Q:QT [Sh.pk,(Sh.int IntKind.i64),Sh.str,Sh.str,(Sh.int IntKind.i64),Sh.dc,Sh.dc,Sh.dc,Sh.dc,(Sh.row (OfNat.ofNat 35) 9),(Sh.sl 0),(Sh.int IntKind.i64),(Sh.int IntKind.i64)]) (N0:Nat) (n1:Int) (I:Option Addr) (J:List D) (O:Nat) (U Y aa:Int) (ab ac:ByteArray) (ae ah:Int) (ai:Option Addr) (aj:List D) (ak:Nat) (al:Int) (am:Option Addr) (ao:List D) (aq:Nat) (au:Option Addr) (aw:List D) (ax:Nat) (ay:Int) (az a1:ByteArray) (a6 a7:Int) (a8:Option Addr) (ba:List D) (bb:Nat) (bc:Int) (bd:Option Addr) (bg:List D) (bh bi bj:Nat) (r3:List D) (q3:Nat) (N:Nat):Prop:=AT prog 155 [Sh.pk,(Sh.int IntKind.i64),Sh.str,Sh.str,(Sh.int IntKind.i64),Sh.dc,Sh.dc,Sh.dc,Sh.dc,(Sh.row (OfNat.ofNat 35) 9),(Sh.sl 0),(Sh.int IntKind.i64),(Sh.int IntKind.i64)] Q N0 (.io E [.var [.sv none 0 [] 0,.int .i64 0,.int .i64 0]]) (zBD prog 155 16) ⟨.pb 0 0 0 0::.int .i64 n1::an 2 (.pb 1 0 0 0::.pb 2 0 0 0::an 68 []),[.var [.sv I 0 J O,.int .i64 U,.int .i64 Y],.var [.int .i64 aa,.str ab,.str ac,.int .i64 ae,.int .i64 ah,.sv ai 2 aj ak,.int .i64 al,.sv am 2 ao aq,.sv au 9 aw ax],.var [.int .i64 ay,.str az,.str a1,.int .i64 a6,.int .i64 a7,.sv a8 2 ba bb,.int .i64 bc,.sv bd 2 bg bh,.sb 3 9 0 bi bj],.arr 35 9 r3 q3],N,some (yu E 0 [.var [.sv none 0 [] 0,.int .i64 0,.int .i64 0]],[])⟩
def wQ (E:Env) (Q:QT [Sh.pk,(Sh.int IntKind.i64),Sh.str,Sh.str,(Sh.int IntKind.i64),Sh.dc,Sh.dc,Sh.dc,Sh.dc,(Sh.row (OfNat.ofNat 35) 9),(Sh.sl 0),(Sh.int IntKind.i64),(Sh.int IntKind.i64)]) (N0:Nat) (n1 n6 n7:Int) (I:Option Addr) (J:List D) (O:Nat) (U Y aa:Int) (ab ac:ByteArray) (ae ah:Int) (ai:Option Addr) (aj:List D) (ak:Nat) (al:Int) (am:Option Addr) (ao:List D) (aq:Nat) (au:Option Addr) (aw:List D) (ax:Nat) (ay:Int) (az a1:ByteArray) (a6:Int) (a7 a8 ba bb:D) (bc bd:Nat) (r3:List D) (q3:Nat) (N:Nat):Prop:=AT prog 155 [Sh.pk,(Sh.int IntKind.i64),Sh.str,Sh.str,(Sh.int IntKind.i64),Sh.dc,Sh.dc,Sh.dc,Sh.dc,(Sh.row (OfNat.ofNat 35) 9),(Sh.sl 0),(Sh.int IntKind.i64),(Sh.int IntKind.i64)] Q N0 (.io E [.var [.sv none 0 [] 0,.int .i64 0,.int .i64 0]]) (zC prog 155 18) ⟨.pb 0 0 0 0::.int .i64 n1::an 2 (.pb 1 0 0 0::.pb 2 0 0 0::.int .i64 n6::.int .i64 n7::an 66 []),[.var [.sv I 0 J O,.int .i64 U,.int .i64 Y],.var [.int .i64 aa,.str ab,.str ac,.int .i64 ae,.int .i64 ah,.sv ai 2 aj ak,.int .i64 al,.sv am 2 ao aq,.sv au 9 aw ax],.var [.int .i64 ay,.str az,.str a1,.int .i64 a6,.dc a7,.dc a8,.dc ba,.dc bb,.sb 3 9 0 bc bd],.arr 35 9 r3 q3],N,some (yu E 0 [.var [.sv none 0 [] 0,.int .i64 0,.int .i64 0]],[])⟩
def xM (E:Env) (Q:QT [Sh.pk,(Sh.int IntKind.i64),Sh.str,Sh.str,(Sh.int IntKind.i64),Sh.dc,Sh.dc,Sh.dc,Sh.dc,(Sh.row (OfNat.ofNat 35) 9),(Sh.sl 0),(Sh.int IntKind.i64),(Sh.int IntKind.i64)]) (N0:Nat) (n1 n6 n7:Int) (I:Option Addr) (J:List D) (O:Nat) (U Y aa:Int) (ab ac:ByteArray) (ae ah:Int) (ai:Option Addr) (aj:List D) (ak:Nat) (al:Int) (am:Option Addr) (ao:List D) (aq:Nat) (au:Option Addr) (aw:List D) (ax:Nat) (ay:Int) (az a1:ByteArray) (a6:Int) (a7 a8:D) (ba:Int) (bb:Option Addr) (bc:List D) (bd bg bh:Nat) (r3:List D) (q3:Nat) (N:Nat):Prop:=AT prog 155 [Sh.pk,(Sh.int IntKind.i64),Sh.str,Sh.str,(Sh.int IntKind.i64),Sh.dc,Sh.dc,Sh.dc,Sh.dc,(Sh.row (OfNat.ofNat 35) 9),(Sh.sl 0),(Sh.int IntKind.i64),(Sh.int IntKind.i64)] Q N0 (.io E [.var [.sv none 0 [] 0,.int .i64 0,.int .i64 0]]) (zC prog 155 18) ⟨.pb 0 0 0 0::.int .i64 n1::an 2 (.pb 1 0 0 0::.pb 2 0 0 0::.int .i64 n6::.int .i64 n7::an 66 []),[.var [.sv I 0 J O,.int .i64 U,.int .i64 Y],.var [.int .i64 aa,.str ab,.str ac,.int .i64 ae,.int .i64 ah,.sv ai 2 aj ak,.int .i64 al,.sv am 2 ao aq,.sv au 9 aw ax],.var [.int .i64 ay,.str az,.str a1,.int .i64 a6,.dc a7,.dc a8,.int .i64 ba,.sv bb 2 bc bd,.sb 3 9 0 bg bh],.arr 35 9 r3 q3],N,some (yu E 0 [.var [.sv none 0 [] 0,.int .i64 0,.int .i64 0]],[])⟩
def xL (E:Env) (Q:QT [Sh.pk,(Sh.int IntKind.i64),Sh.str,Sh.str,(Sh.int IntKind.i64),Sh.dc,Sh.dc,Sh.dc,Sh.dc,(Sh.row (OfNat.ofNat 35) 9),(Sh.sl 0),(Sh.int IntKind.i64),(Sh.int IntKind.i64)]) (N0:Nat) (n1 n6 n7:Int) (I:Option Addr) (J:List D) (O:Nat) (U Y aa:Int) (ab ac:ByteArray) (ae ah:Int) (ai:Option Addr) (aj:List D) (ak:Nat) (al:Int) (am:Option Addr) (ao:List D) (aq:Nat) (au:Option Addr) (aw:List D) (ax:Nat) (ay:Int) (az a1:ByteArray) (a6 a7:Int) (a8:Option Addr) (ba:List D) (bb:Nat) (bc bd:D) (bg bh:Nat) (r3:List D) (q3:Nat) (N:Nat):Prop:=AT prog 155 [Sh.pk,(Sh.int IntKind.i64),Sh.str,Sh.str,(Sh.int IntKind.i64),Sh.dc,Sh.dc,Sh.dc,Sh.dc,(Sh.row (OfNat.ofNat 35) 9),(Sh.sl 0),(Sh.int IntKind.i64),(Sh.int IntKind.i64)] Q N0 (.io E [.var [.sv none 0 [] 0,.int .i64 0,.int .i64 0]]) (zC prog 155 18) ⟨.pb 0 0 0 0::.int .i64 n1::an 2 (.pb 1 0 0 0::.pb 2 0 0 0::.int .i64 n6::.int .i64 n7::an 66 []),[.var [.sv I 0 J O,.int .i64 U,.int .i64 Y],.var [.int .i64 aa,.str ab,.str ac,.int .i64 ae,.int .i64 ah,.sv ai 2 aj ak,.int .i64 al,.sv am 2 ao aq,.sv au 9 aw ax],.var [.int .i64 ay,.str az,.str a1,.int .i64 a6,.int .i64 a7,.sv a8 2 ba bb,.dc bc,.dc bd,.sb 3 9 0 bg bh],.arr 35 9 r3 q3],N,some (yu E 0 [.var [.sv none 0 [] 0,.int .i64 0,.int .i64 0]],[])⟩
def xH (E:Env) (Q:QT [Sh.pk,(Sh.int IntKind.i64),Sh.str,Sh.str,(Sh.int IntKind.i64),Sh.dc,Sh.dc,Sh.dc,Sh.dc,(Sh.row (OfNat.ofNat 35) 9),(Sh.sl 0),(Sh.int IntKind.i64),(Sh.int IntKind.i64)]) (N0:Nat) (n1 n6 n7:Int) (I:Option Addr) (J:List D) (O:Nat) (U Y aa:Int) (ab ac:ByteArray) (ae ah:Int) (ai:Option Addr) (aj:List D) (ak:Nat) (al:Int) (am:Option Addr) (ao:List D) (aq:Nat) (au:Option Addr) (aw:List D) (ax:Nat) (ay:Int) (az a1:ByteArray) (a6 a7:Int) (a8:Option Addr) (ba:List D) (bb:Nat) (bc:Int) (bd:Option Addr) (bg:List D) (bh bi bj:Nat) (r3:List D) (q3:Nat) (N:Nat):Prop:=AT prog 155 [Sh.pk,(Sh.int IntKind.i64),Sh.str,Sh.str,(Sh.int IntKind.i64),Sh.dc,Sh.dc,Sh.dc,Sh.dc,(Sh.row (OfNat.ofNat 35) 9),(Sh.sl 0),(Sh.int IntKind.i64),(Sh.int IntKind.i64)] Q N0 (.io E [.var [.sv none 0 [] 0,.int .i64 0,.int .i64 0]]) (zC prog 155 18) ⟨.pb 0 0 0 0::.int .i64 n1::an 2 (.pb 1 0 0 0::.pb 2 0 0 0::.int .i64 n6::.int .i64 n7::an 66 []),[.var [.sv I 0 J O,.int .i64 U,.int .i64 Y],.var [.int .i64 aa,.str ab,.str ac,.int .i64 ae,.int .i64 ah,.sv ai 2 aj ak,.int .i64 al,.sv am 2 ao aq,.sv au 9 aw ax],.var [.int .i64 ay,.str az,.str a1,.int .i64 a6,.int .i64 a7,.sv a8 2 ba bb,.int .i64 bc,.sv bd 2 bg bh,.sb 3 9 0 bi bj],.arr 35 9 r3 q3],N,some (yu E 0 [.var [.sv none 0 [] 0,.int .i64 0,.int .i64 0]],[])⟩
theorem zFZ (N:Nat) (n0:Int) (Q:QT [.pk,.int .i64,.str,.str,.int .i64,.dc,.dc,.dc,.dc,.row 35 9]) (h :
∀ a,N<=a->Q 2 (bytes []) (bytes []) n0 (D.lit (.int .i64 0)) (D.sl Option.none 2 [] 0) (D.lit (.int .i64 0)) (D.sl Option.none 2 [] 0) [] 0 a):ACalls prog 207 [.pk,.int .i64,.str,.str,.int .i64,.dc,.dc,.dc,.dc,.row 35 9] [PV.int .i64 n0] N Q:=
  zSH (H:=zFs) (by kernel_rfl) (by kernel_rfl) h
theorem zDy (N:Nat) (n0:Int) (Q:QT [.pk,.int .i64,.str,.str,.int .i64,.dc,.dc,.dc,.dc,.row 35 9]) (h :
∀ a,N<=a->Q 3 (bytes []) (bytes []) n0 (D.lit (.int .i64 0)) (D.sl Option.none 2 [] 0) (D.lit (.int .i64 0)) (D.sl Option.none 2 [] 0) [] 0 a):ACalls prog 208 [.pk,.int .i64,.str,.str,.int .i64,.dc,.dc,.dc,.dc,.row 35 9] [PV.int .i64 n0] N Q:=
  zSH (H:=zDu) (by kernel_rfl) (by kernel_rfl) h
theorem pF (N:Nat) (I:ByteArray) (Q:QT [.pk,.int .i64,.str,.str,.int .i64,.dc,.dc,.dc,.dc,.row 35 9]) (h :
∀ a,N<=a->Q 1 I (bytes []) 0 (D.lit (.int .i64 0)) (D.sl Option.none 2 [] 0) (D.lit (.int .i64 0)) (D.sl Option.none 2 [] 0) [] 0 a):ACalls prog 157 [.pk,.int .i64,.str,.str,.int .i64,.dc,.dc,.dc,.dc,.row 35 9] [PV.str I] N Q:=
  zSH (H:=zFw) (by kernel_rfl) (by kernel_rfl) h
theorem zDH (N:Nat) (I:Option Addr) (J:List D) (O:Nat) (U Y:Int) (Q:QT [(Sh.ag 9),(Sh.sl 0),(Sh.int IntKind.i64),(Sh.int IntKind.i64)]) (h:∀ E:Env,
Bel N (D.sl I 0 J O)->∀ b,N<=b->BCalls prog 89 [.int .i64,.sl 0,.int .i64,.int .i64] [.pb 0 0 0 0,.int .i64 4] [Bx.var [.sv I 0 J
 O,.int .i64 U,.int .i64 Y]] b (λn a c d e f g=>b<=g->Bel g (D.sl a 0 c d)->∀ b,g<=b->BCalls prog 155 [Sh.pk,.int
 .i64,.str,.str,.int .i64,Sh.dc,Sh.dc,Sh.dc,Sh.dc,.row (OfNat.ofNat 35) 9,.sl 0,.int .i64,.int .i64] [.pb 0 0 0 0,.int .i64 (IntKind.i64.wrap (1+n))]
 [Bx.var [.sv a 0 c d,.int .i64 e,.int .i64 f]] b (λa s c d x e f g h i j k l m n o=>b<=o->Bel o (D.sl j 0 k
 l)->Bel o (D.ag h)->∀ b,o<=b->BCalls prog 89 [.int .i64,.sl 0,.int .i64,.int .i64] [.pb 0 0 0 0,.int .i64 14] [Bx.var [.sv j 0 k l,
 .int .i64 m,.int .i64 n]] b (λj k l m n o p=>b<=p->Bel p (D.sl k 0 l m)->Br (j==0) (∀ a,p<=a->BCalls prog
 89 [.int .i64,.sl 0,.int .i64,.int .i64] [.pb 0 0 0 0,.int .i64 15] [Bx.var [.sv k 0 l m,.int .i64 n,.int .i64 o]] a (λb j k l m
 n o=>a<=o->Bel o (D.sl j 0 k l)->(h.length=h.length/\i=i)/\(h.length=h.length/\i=i)/\(h.length=h.length
 /\ i=i)/\(h.length=h.length/\i=i)/\∀ a p,o<=p->Fresh N p a [D.ag h,x,e,f,g]->zN E [.var [.sv none 0 [] 0,.int
 .i64 0,.int .i64 0]]/\∀ o,p<=o->Q (D.ag [D.lit (.int .i64 b),D.lit (.string s),D.lit (.string c),D.lit (.int .i64 d),x,e,f,g,D.sl
 a 9 h i]) j k l m n o)) (Br (j==1) (∀ b,p<=b->BCalls prog 93 [.int .i64,.sl 0,.int .i64,.int .i64,.sl 0] [.pb 0 0 0 0,
 .sb 1 0 0 5 5] [Bx.var [.sv k 0 l m,.int .i64 n,.int .i64 o],Bx.arr 3 0 [D.lit (.int .i64 0),D.lit (.int .i64 1),D.lit (.int .i64 10006),D.lit (.int
 .i64 10007),D.lit (.int .i64 (-1))] 5] b (λd j k l m n o p q r=>b<=r->Bel r (D.sl j 0 k l)->Bel r (D.sl
 o 0 p q)->(h.length=h.length/\i=i)/\(h.length=h.length/\i=i)/\(h.length=h.length/\i=i)/\(h.length=h.length
 /\ i=i)/\∀ b o,r<=o->Fresh N o b [D.ag h,x,e,f,g]->zN E [.var [.sv none 0 [] 0,.int .i64 0,.int .i64 0]]/\∀ p,o
 <= p->Q (D.ag [D.lit (.int .i64 a),D.lit (.string s),D.lit (.string c),D.lit (.int .i64 d),x,e,f,g,D.sl b 9 h i]) j k l m
 n p)) (Br (j==2) (∀ b,p<=b->BCalls prog 156 [.str,.sl 0,.int .i64,.int .i64,.sl 0] [.pb 0 0 0 0,.sb 1 0 0 5 5] [Bx.var [.sv k 0 l
 m,.int .i64 n,.int .i64 o],Bx.arr 9 0 [D.lit (.string (bytes [])),D.lit (.string (bytes [120])),D.lit (.string (bytes [108,101,116])),D.lit (.string
 (bytes [97,98,99,100,101])),D.lit (.string (bytes [43]))] 5] b (λj k l m n o p q r s=>b<=s->Bel s (D.sl k 0 l
 m)->Bel s (D.sl p 0 q r)->(h.length=h.length/\i=i)/\(h.length=h.length/\i=i)/\(h.length=h.length/\i=i)
 /\ (h.length=h.length/\i=i)/\∀ b p,s<=p->Fresh N p b [D.ag h,x,e,f,g]->zN E [.var [.sv none 0 [] 0,.int .i64
 0,.int .i64 0]]/\∀ q,p<=q->Q (D.ag [D.lit (.int .i64 a),D.lit (.string j),D.lit (.string c),D.lit (.int .i64 d),x,e,f,g,D.sl
 b 9 h i]) k l m n o q)) (Br (j==3) (∀ b,p<=b->ACalls prog 157 [Sh.pk,.int .i64,.str,.str,.int .i64,Sh.dc,Sh.dc,Sh.dc,
 Sh.dc,.row (OfNat.ofNat 35) 9] [.str (bytes [120])] b (λj p q r t u v w y z A=>b<=A->Bel A (D.ag y)->(y.length
 = y.length/\z=z)/\∀ b B,A<=B->Fresh N B b [D.ag y,t,u,v,w,x,e,f,g,D.ag h]->(h.length=h.length
 /\ i=i)/\zB h [D.ag [D.lit (.int .i64 j),D.lit (.string p),D.lit (.string q),D.lit (.int .i64 r),t,u,v,w,D.sl b 9 y
 z]] 136/\∀ (i:Nat),((h++[D.ag [D.lit (.int .i64 j),D.lit (.string p),D.lit (.string q),D.lit (.int .i64 r),t,u,v,w,D.sl b
 9 y z]]).length=(h++[D.ag [D.lit (.int .i64 j),D.lit (.string p),D.lit (.string q),D.lit (.int .i64 r),t,u,v,w,D.sl b 9
 y z]]).length/\i=i)/\((h++[D.ag [D.lit (.int .i64 j),D.lit (.string p),D.lit (.string q),D.lit (.int .i64 r),t,u,v,w,
 D.sl b 9 y z]]).length=(h++[D.ag [D.lit (.int .i64 j),D.lit (.string p),D.lit (.string q),D.lit (.int .i64 r),t,u,v,w,D.sl
 b 9 y z]]).length/\i=i)/\((h++[D.ag [D.lit (.int .i64 j),D.lit (.string p),D.lit (.string q),D.lit (.int .i64 r),t,u,v,
 w,D.sl b 9 y z]]).length=(h++[D.ag [D.lit (.int .i64 j),D.lit (.string p),D.lit (.string q),D.lit (.int .i64 r),t,u,v,w,
 D.sl b 9 y z]]).length/\i=i)/\((h++[D.ag [D.lit (.int .i64 j),D.lit (.string p),D.lit (.string q),D.lit (.int .i64 r),t,u,
 v,w,D.sl b 9 y z]]).length=(h++[D.ag [D.lit (.int .i64 j),D.lit (.string p),D.lit (.string q),D.lit (.int .i64 r),t,u,v,
 w,D.sl b 9 y z]]).length/\i=i)/\∀ A C,B<=C->Fresh N C A [D.ag (h++[D.ag [D.lit (.int .i64 j),D.lit (.string p),
 D.lit (.string q),D.lit (.int .i64 r),t,u,v,w,D.sl b 9 y z]]),x,e,f,g]->zN E [.var [.sv none 0 [] 0,.int .i64 0,.int .i64
 0]]/\∀ B,C<=B->Q (D.ag [D.lit (.int .i64 a),D.lit (.string s),D.lit (.string c),D.lit (.int .i64 d),x,e,f,g,D.sl A 9 (h ++
 [D.ag [D.lit (.int .i64 j),D.lit (.string p),D.lit (.string q),D.lit (.int .i64 r),t,u,v,w,D.sl b 9 y z]]) i]) k l m
 n o B)) (Br (j==4) (∀ b,p<=b->BCalls prog 158 [.ag 2,.sl 0,.int .i64,.int .i64] [.pb 0 0 0 0] [Bx.var [.sv k 0 l m,.int .i64 n,
 .int .i64 o]] b (λe j k l m n o=>b<=o->Bel o e->Bel o (D.sl j 0 k l)->(h.length=h.length/\i
 = i)/\(h.length=h.length/\i=i)/\(h.length=h.length/\i=i)/\(h.length=h.length/\i=i)/\∀ b p,o<=p ->
 Fresh N p b [D.ag h,(e.cell 0),(e.cell 1),f,g]->zN E [.var [.sv none 0 [] 0,.int .i64 0,.int .i64 0]]/\∀ o,p<=o->Q (D.ag [D.lit
 (.int .i64 a),D.lit (.string s),D.lit (.string c),D.lit (.int .i64 d),(e.cell 0),(e.cell 1),f,g,D.sl b 9 h i]) j k l m
 n o)) (Br (j==5) (∀ b,p<=b->BCalls prog 156 [.str,.sl 0,.int .i64,.int .i64,.sl 0] [.pb 0 0 0 0,.sb 1 0 0 2 2] [Bx.var [.sv k 0 l
 m,.int .i64 n,.int .i64 o],Bx.arr 9 0 [D.lit (.string (bytes [120])),D.lit (.string (bytes [122]))] 2] b (λc j k l m n o p
 q r=>b<=r->Bel r (D.sl j 0 k l)->Bel r (D.sl o 0 p q)->(h.length=h.length/\i=i)/\(h.length=h.length
 /\ i=i)/\(h.length=h.length/\i=i)/\(h.length=h.length/\i=i)/\∀ b o,r<=o->Fresh N o b [D.ag h,x,e,
 f,g]->zN E [.var [.sv none 0 [] 0,.int .i64 0,.int .i64 0]]/\∀ p,o<=p->Q (D.ag [D.lit (.int .i64 a),D.lit (.string s),D.lit (.string c),
 D.lit (.int .i64 d),x,e,f,g,D.sl b 9 h i]) j k l m n p)) ((h.length=h.length/\i=i)/\(h.length=h.length
 /\ i=i)/\(h.length=h.length/\i=i)/\(h.length=h.length/\i=i)/\∀ b j,p<=j->Fresh N j b [D.ag h,x,e,
 f,g]->zN E [.var [.sv none 0 [] 0,.int .i64 0,.int .i64 0]]/\∀ p,j<=p->Q (D.ag [D.lit (.int .i64 a),D.lit (.string s),D.lit (.string c),
 D.lit (.int .i64 d),x,e,f,g,D.sl b 9 h i]) k l m n o p)))))))))):BCalls prog 92 [(Sh.ag 9),(Sh.sl 0),(Sh.int IntKind.i64),(Sh.int IntKind.i64)] [.pb 0 0 0 0] [.var [.sv I 0 J O,.int .i64 U,.int .i64 Y]] N Q:=
  zOm (H:=zIJ) (by kernel_rfl) (λE=>by kernel_rfl) h
theorem rj (N:Nat) (n1:Int) (I:Option Addr) (J:List D) (O:Nat) (U Y:Int) (Q:QT [Sh.pk,(Sh.int IntKind.i64),Sh.str,Sh.str,(Sh.int IntKind.i64),Sh.dc,Sh.dc,Sh.dc,Sh.dc,(Sh.row (OfNat.ofNat 35) 9),(Sh.sl 0),(Sh.int IntKind.i64),(Sh.int IntKind.i64)]) (h:∀ E:Env,
Bel N (D.sl I 0 J O)->Br (decide (n1<2)) (∀ b,N<=b->BCalls prog 219 [Sh.pk,.int .i64,.str,.str,.int .i64,Sh.dc,Sh.dc,Sh.dc,Sh.dc,.row
 (OfNat.ofNat 35) 9,.sl 0,.int .i64,.int .i64] [.pb 0 0 0 0] [Bx.var [.sv I 0 J O,.int .i64 U,.int .i64 Y]] b (λn s a c x d e
 f g h i j k l m o=>b<=o->Bel o (D.sl i 0 j k)->Bel o (D.ag g)->zN E [.var [.sv none 0 [] 0,.int .i64 0,.int .i64 0]]/\(g.length
 = g.length/\h=h)/\∀ b,o<=b->Q n s a c x d e f g h i j k l m b)) (∀ a,N<=a->BCalls prog 91 [.bool,.sl 0,.int .i64,.int
 .i64] [.pb 0 0 0 0,.int .i64 5] [Bx.var [.sv I 0 J O,.int .i64 U,.int .i64 Y]] a (λb c d e f g h=>a<=h->Bel h
 (D.sl c 0 d e)->Br b (∀ a,h<=a->BCalls prog 219 [Sh.pk,.int .i64,.str,.str,.int .i64,Sh.dc,Sh.dc,Sh.dc,Sh.dc,.row (OfNat.ofNat 35) 9,.sl
 0,.int .i64,.int .i64] [.pb 0 0 0 0] [Bx.var [.sv c 0 d e,.int .i64 f,.int .i64 g]] a (λb c d e f g h i j k l m n
 o p q=>a<=q->Bel q (D.sl l 0 m n)->Bel q (D.ag j)->zN E [.var [.sv none 0 [] 0,.int .i64 0,.int .i64 0]]/\(j.length=j.length
 /\ k=k)/\∀ a,q<=a->Q b c d e f g h i j k l m n o p a)) (∀ a,h<=a->BCalls prog 93 [.int .i64,.sl 0,.int
 .i64,.int .i64,.sl 0] [.pb 0 0 0 0,.sb 1 0 0 12 12] [Bx.var [.sv c 0 d e,.int .i64 f,.int .i64 g],Bx.arr 3 0 [D.lit (.int .i64 4),D.lit (.int .i64
 5),D.lit (.int .i64 6),D.lit (.int .i64 7),D.lit (.int .i64 8),D.lit (.int .i64 9),D.lit (.int .i64 10),D.lit (.int .i64 11),D.lit (.int .i64 12),D.lit (.int
 .i64 13),D.lit (.int .i64 10),D.lit (.int .i64 4)] 12] a (λb c d e f g h i j k=>a<=k->Bel k (D.sl c 0 d e) ->
 Bel k (D.sl h 0 i j)->Br (b==4) (∀ a,k<=a->BCalls prog 156 [.str,.sl 0,.int .i64,.int .i64,.sl 0] [.pb 0 0 0 0,.sb 1 0 0 8 8] [Bx.var
 [.sv c 0 d e,.int .i64 f,.int .i64 g],Bx.arr 9 0 [D.lit (.string (bytes [43])),D.lit (.string (bytes [45])),D.lit (.string (bytes [42])),D.lit
 (.string (bytes [61])),D.lit (.string (bytes [60])),D.lit (.string (bytes [38])),D.lit (.string (bytes [124])),D.lit (.string (bytes [33]))] 8] a (λc
 d e f g h i j k l=>a<=l->Bel l (D.sl d 0 e f)->Bel l (D.sl i 0 j k)->zw E Q N n1 d e f
 g h 0 (bytes []) (bytes []) 0 0 Option.none [] 0 0 Option.none [] 0 Option.none [] 0 b c (bytes []) 0 0 Option.none [] 0 0 Option.none [] 0 0 0 [] 0 l))
 (Br (b==6) (∀ a,k<=a->BCalls prog 156 [.str,.sl 0,.int .i64,.int .i64,.sl 0] [.pb 0 0 0 0,.sb 1 0 0 3 3] [Bx.var [.sv c 0 d e,.int
 .i64 f,.int .i64 g],Bx.arr 9 0 [D.lit (.string (bytes [120])),D.lit (.string (bytes [121])),D.lit (.string (bytes [102]))] 3] a (λc d e f
 g h i j k l=>a<=l->Bel l (D.sl d 0 e f)->Bel l (D.sl i 0 j k)->zw E Q N n1 d e f g h
 0 (bytes []) (bytes []) 0 0 Option.none [] 0 0 Option.none [] 0 Option.none [] 0 b c (bytes []) 0 0 Option.none [] 0 0 Option.none [] 0 0 0 [] 0 l)) (Br
 (b==8) (∀ a,k<=a->BCalls prog 156 [.str,.sl 0,.int .i64,.int .i64,.sl 0] [.pb 0 0 0 0,.sb 1 0 0 3 3] [Bx.var [.sv c 0 d e,.int .i64
 f,.int .i64 g],Bx.arr 9 0 [D.lit (.string (bytes [120])),D.lit (.string (bytes [121])),D.lit (.string (bytes [102]))] 3] a (λc d e f g
 h i j k l=>a<=l->Bel l (D.sl d 0 e f)->Bel l (D.sl i 0 j k)->zw E Q N n1 d e f g h
 0 (bytes []) (bytes []) 0 0 Option.none [] 0 0 Option.none [] 0 Option.none [] 0 b c (bytes []) 0 0 Option.none [] 0 0 Option.none [] 0 0 0 [] 0 l)) (Br
 (b==9) (∀ a,k<=a->BCalls prog 156 [.str,.sl 0,.int .i64,.int .i64,.sl 0] [.pb 0 0 0 0,.sb 1 0 0 3 3] [Bx.var [.sv c 0 d e,.int .i64
 f,.int .i64 g],Bx.arr 9 0 [D.lit (.string (bytes [120])),D.lit (.string (bytes [121])),D.lit (.string (bytes [102]))] 3] a (λc d e f
 g h i j k l=>a<=l->Bel l (D.sl d 0 e f)->Bel l (D.sl i 0 j k)->zw E Q N n1 d e f
 g h 0 (bytes []) (bytes []) 0 0 Option.none [] 0 0 Option.none [] 0 Option.none [] 0 b c (bytes []) 0 0 Option.none [] 0 0 Option.none [] 0 0 0 [] 0 l))
 (zw E Q N n1 c d e f g 0 (bytes []) (bytes []) 0 0 Option.none [] 0 0 Option.none [] 0 Option.none [] 0 b (bytes []) (bytes []) 0 0
 Option.none [] 0 0 Option.none [] 0 0 0 [] 0 k))))))))):BCalls prog 155 [Sh.pk,(Sh.int IntKind.i64),Sh.str,Sh.str,(Sh.int IntKind.i64),Sh.dc,Sh.dc,Sh.dc,Sh.dc,(Sh.row (OfNat.ofNat 35) 9),(Sh.sl 0),(Sh.int IntKind.i64),(Sh.int IntKind.i64)] [.pb 0 0 0 0,.int .i64 n1] [.var [.sv I 0 J O,.int .i64 U,.int .i64 Y]] N Q:=
  zOm (H:=zh) (by kernel_rfl) (λE=>by kernel_rfl) h
theorem zC1 (N:Nat) (I:Option Addr) (J:List D) (O:Nat) (U Y:Int) (Q:QT [(Sh.ag 2),(Sh.sl 0),(Sh.int IntKind.i64),(Sh.int IntKind.i64)]) (h:∀ E:Env,
Bel N (D.sl I 0 J O)->∀ b,N<=b->BCalls prog 220 [.ag 2,.sl 0,.int .i64,.int .i64] [.pb 0 0 0 0,.int .i64 4] [Bx.var [.sv I 0 J O,
 .int .i64 U,.int .i64 Y]] b (λx a c d n e f=>b<=f->Bel f x->Bel f (D.sl a 0 c d)->∀ b,f<=b->BCalls prog 89 [.int .i64,
 .sl 0,.int .i64,.int .i64] [.pb 0 0 0 0,.int .i64 10] [Bx.var [.sv a 0 c d,.int .i64 n,.int .i64 e]] b (λa c d e f g h=>b<=h ->
 Bel h (D.sl c 0 d e)->Br (a==0) (∀ a,h<=a->BCalls prog 89 [.int .i64,.sl 0,.int .i64,.int .i64] [.pb 0 0 0 0,.int .i64 6] [Bx.var [.sv
 c 0 d e,.int .i64 f,.int .i64 g]] a (λb c d e f g h=>a<=h->Bel h (D.sl c 0 d e)->zN E [.var [.sv none 0 [] 0,
 .int .i64 0,.int .i64 0]]/\∀ a,h<=a->Q (D.ag [D.lit (.int .i64 b),(x.cell 1)]) c d e f g a)) (Br (a==1) (∃ a b,∃ i:Nat,
 (x.cell 1)=D.sl a 2 b i/\∀ j,h<=j->ACalls prog 150 [.ag 2] [] j (λh k=>j<=k->Bel k h->zRG a b i [h]/\zB
 b [h] 32/\∀ (a:Nat),((b++[h]).length=(b++[h]).length/\a=a)/\((b++[h]).length=(b++[h]).length/\a=a)/\((b
 ++ [h]).length=(b++[h]).length/\a=a)/\((b++[h]).length=(b++[h]).length/\a=a)/\∀ i j,k<=j->Fresh N j i
 [D.ag (b++[h]),(x.cell 0)]->zN E [.var [.sv none 0 [] 0,.int .i64 0,.int .i64 0]]/\∀ k,j<=k->Q (D.ag [(x.cell 0),D.sl i 2 (b++[h])
 a]) c d e f g k)) (Br (a==2) (∀ a,h<=a->BCalls prog 89 [.int .i64,.sl 0,.int .i64,.int .i64] [.pb 0 0 0 0,.int .i64 6] [Bx.var
 [.sv c 0 d e,.int .i64 f,.int .i64 g]] a (λb c d e f g h=>a<=h->Bel h (D.sl c 0 d e)->xt E
 Q N (IntKind.i64.wrap (1+b)) 0 c d e f g 0 Option.none [] 0 x h)) (Br (a==3) (xq E Q N 0 c d e f g 0 Option.none
 [] 0 x h) (zN E [.var [.sv none 0 [] 0,.int .i64 0,.int .i64 0]]/\∀ a,h<=a->Q x c d e f g a))))))):BCalls prog 158 [(Sh.ag 2),(Sh.sl 0),(Sh.int IntKind.i64),(Sh.int IntKind.i64)] [.pb 0 0 0 0] [.var [.sv I 0 J O,.int .i64 U,.int .i64 Y]] N Q:=
  zOm (H:=t8) (by kernel_rfl) (λE=>by kernel_rfl) h
theorem zDE (N:Nat) (I:Option Addr) (J:List D) (O:Nat) (U Y:Int) (Q:QT [Sh.pk,(Sh.int IntKind.i64),Sh.str,Sh.str,(Sh.int IntKind.i64),Sh.dc,Sh.dc,Sh.dc,Sh.dc,(Sh.row (OfNat.ofNat 35) 9),(Sh.sl 0),(Sh.int IntKind.i64),(Sh.int IntKind.i64)]) (h:∀ E:Env,
Bel N (D.sl I 0 J O)->∀ b,N<=b->BCalls prog 89 [.int .i64,.sl 0,.int .i64,.int .i64] [.pb 0 0 0 0,.int .i64 4] [Bx.var [.sv I 0 J
 O,.int .i64 U,.int .i64 Y]] b (λn a c d e f g=>b<=g->Bel g (D.sl a 0 c d)->Br (n==0) (∀ b,g<=b->BCalls prog 93 [.int
 .i64,.sl 0,.int .i64,.int .i64,.sl 0] [.pb 0 0 0 0,.sb 1 0 0 5 5] [Bx.var [.sv a 0 c d,.int .i64 e,.int .i64 f],Bx.arr 3 0 [D.lit (.int .i64 0),D.lit
 (.int .i64 1),D.lit (.int .i64 2),D.lit (.int .i64 3),D.lit (.int .i64 10006)] 5] b (λa c d e f g h i j k=>b<=k->Bel k (D.sl
 c 0 d e)->Bel k (D.sl h 0 i j)->∀ b,k<=b->ACalls prog 207 [Sh.pk,.int .i64,.str,.str,.int .i64,Sh.dc,Sh.dc,Sh.dc,Sh.dc,.row (OfNat.ofNat
 35) 9] [.int .i64 a] b (λa s h i x j k l m n o=>b<=o->Bel o (D.ag m)->zN E [.var [.sv none 0 [] 0,.int .i64 0,.int .i64
 0]]/\(m.length=m.length/\n=n)/\∀ b,o<=b->Q a s h i x j k l m n c d e f g b))) (Br (n==1) (∀ b,g <=
 b->BCalls prog 89 [.int .i64,.sl 0,.int .i64,.int .i64] [.pb 0 0 0 0,.int .i64 2] [Bx.var [.sv a 0 c d,.int .i64 e,.int .i64 f]] b (λa c d
 e f g h=>b<=h->Bel h (D.sl c 0 d e)->∀ b,h<=b->ACalls prog 208 [Sh.pk,.int .i64,.str,.str,.int .i64,Sh.dc,Sh.dc,Sh.dc,
 Sh.dc,.row (OfNat.ofNat 35) 9] [.int .i64 a] b (λa h i j k l m n o p q=>b<=q->Bel q (D.ag o)->zN E [.var [.sv
 none 0 [] 0,.int .i64 0,.int .i64 0]]/\(o.length=o.length/\p=p)/\∀ b,q<=b->Q a h i j k l m n o p c d e
 f g b))) (∀ b,g<=b->BCalls prog 156 [.str,.sl 0,.int .i64,.int .i64,.sl 0] [.pb 0 0 0 0,.sb 1 0 0 3 3] [Bx.var [.sv a 0 c d,.int .i64 e,
 .int .i64 f],Bx.arr 9 0 [D.lit (.string (bytes [120])),D.lit (.string (bytes [121])),D.lit (.string (bytes [102]))] 3] b (λa c d e f g
 h i j k=>b<=k->Bel k (D.sl c 0 d e)->Bel k (D.sl h 0 i j)->∀ b,k<=b->ACalls prog 157 [Sh.pk,.int .i64,.str,
 .str,.int .i64,Sh.dc,Sh.dc,Sh.dc,Sh.dc,.row (OfNat.ofNat 35) 9] [.str a] b (λa h i j k l m n o p q=>b<=q->Bel
 q (D.ag o)->zN E [.var [.sv none 0 [] 0,.int .i64 0,.int .i64 0]]/\(o.length=o.length/\p=p)/\∀ b,q<=b->Q a h i j
 k l m n o p c d e f g b)))))):BCalls prog 219 [Sh.pk,(Sh.int IntKind.i64),Sh.str,Sh.str,(Sh.int IntKind.i64),Sh.dc,Sh.dc,Sh.dc,Sh.dc,(Sh.row (OfNat.ofNat 35) 9),(Sh.sl 0),(Sh.int IntKind.i64),(Sh.int IntKind.i64)] [.pb 0 0 0 0] [.var [.sv I 0 J O,.int .i64 U,.int .i64 Y]] N Q:=
  zOm (H:=zHp) (by kernel_rfl) (λE=>by kernel_rfl) h
theorem zDt (E:Env) (Q:QT [Sh.pk,(Sh.int IntKind.i64),Sh.str,Sh.str,(Sh.int IntKind.i64),Sh.dc,Sh.dc,Sh.dc,Sh.dc,(Sh.row (OfNat.ofNat 35) 9),(Sh.sl 0),(Sh.int IntKind.i64),(Sh.int IntKind.i64)]) (N0:Nat) (n1:Int) (J:Option Addr) (O:List D) (U:Nat) (Y aa ab:Int) (ac ae:ByteArray) (ah ai:Int) (aj:Option Addr) (ak:List D) (al:Nat) (am:Int) (ao:Option Addr) (aq:List D) (au:Nat) (aw:Option Addr) (ax:List D) (ay:Nat) (I:Int) (az a1:ByteArray) (a6 bg:Int) (bh:Option Addr) (bi:List D) (bj:Nat) (a7:Int) (a8:Option Addr) (ba:List D) (bb bc bd:Nat) (r3:List D) (q3:Nat) (N:Nat) (h :
Br (I==6) (∀ b,N<=b->BCalls prog 220 [.ag 2,.sl 0,.int .i64,.int .i64] [.pb 0 0 0 0,.int .i64 2] [Bx.var [.sv J 0 O U,.int .i64 Y,.int
 .i64 aa]] b (λx a c d n e f=>b<=f->Bel f x->Bel f (D.sl a 0 c d)->wh E Q N0 n1 a c d n e ab ac ae ah ai aj
 ak al am ao aq au aw ax ay I az a1 a6 (x.cell 0) (x.cell 1) a7 a8 ba bb bc bd r3 q3 f)) (Br (I==9) (∀ a,N<=a
 -> BCalls prog 220 [.ag 2,.sl 0,.int .i64,.int .i64] [.pb 0 0 0 0,.int .i64 2] [Bx.var [.sv J 0 O U,.int .i64 Y,.int .i64 aa]] a (λb c
 d e f g h=>a<=h->Bel h b->Bel h (D.sl c 0 d e)->wh E Q N0 n1 c d e f g ab ac ae ah ai aj ak
 al am ao aq au aw ax ay I az a1 a6 (b.cell 0) (b.cell 1) a7 a8 ba bb bc bd r3 q3 h)) (wg E Q N0 n1 J
 O U Y aa ab ac ae ah ai aj ak al am ao aq au aw ax ay I az a1 a6 bg bh bi bj a7 a8 ba bb bc bd
 r3 q3 N))):zw E Q N0 n1 J O U Y aa ab ac ae ah ai aj ak al am ao aq au aw ax ay I az a1 a6 bg bh bi bj a7 a8 ba bb bc bd r3 q3 N:=
  zB3 (H:=zh) (by kernel_rfl) h
theorem sX (N:Nat) (n1:Int) (I:Option Addr) (J:List D) (O:Nat) (U Y:Int) (Q:QT [(Sh.ag 2),(Sh.sl 0),(Sh.int IntKind.i64),(Sh.int IntKind.i64)]) (h:∀ E:Env,
Bel N (D.sl I 0 J O)->Br (decide (n1<2)) (∀ b,N<=b->BCalls prog 93 [.int .i64,.sl 0,.int .i64,.int .i64,.sl 0] [.pb 0 0 0 0,.sb 1 0 0
 3 3] [Bx.var [.sv I 0 J O,.int .i64 U,.int .i64 Y],Bx.arr 3 0 [D.lit (.int .i64 1),D.lit (.int .i64 1),D.lit (.int .i64 2)] 3] b (fun
 n a c d e f g h i j=>b<=j->Bel j (D.sl a 0 c d)->Bel j (D.sl g 0 h i)->zN E [.var [.sv none 0 [] 0,.int .i64 0,.int .i64
 0]]/\∀ b,j<=b->Q (D.ag [D.lit (.int .i64 n),D.sl Option.none 2 [] 0]) a c d e f b)) (∀ a,N<=a->BCalls prog 91 [.bool,.sl 0,.int .i64,
 .int .i64] [.pb 0 0 0 0,.int .i64 2] [Bx.var [.sv I 0 J O,.int .i64 U,.int .i64 Y]] a (λb c d e f g h=>a<=h->Bel
 h (D.sl c 0 d e)->Br b (∀ a,h<=a->BCalls prog 93 [.int .i64,.sl 0,.int .i64,.int .i64,.sl 0] [.pb 0 0 0 0,.sb 1 0 0 3 3] [Bx.var [.sv c
 0 d e,.int .i64 f,.int .i64 g],Bx.arr 3 0 [D.lit (.int .i64 1),D.lit (.int .i64 1),D.lit (.int .i64 2)] 3] a (λb c d e f g h i
 j k=>a<=k->Bel k (D.sl c 0 d e)->Bel k (D.sl h 0 i j)->zN E [.var [.sv none 0 [] 0,.int .i64 0,.int .i64 0]]/\∀ a,k<=a
 -> Q (D.ag [D.lit (.int .i64 b),D.sl Option.none 2 [] 0]) c d e f g a)) (∀ a,h<=a->BCalls prog 91 [.bool,.sl 0,.int .i64,.int .i64] [.pb
 0 0 0 0,.int .i64 2] [Bx.var [.sv c 0 d e,.int .i64 f,.int .i64 g]] a (λb c d e f g h=>a<=h->Bel h (D.sl c 0 d
 e)->Br b (∀ a,h<=a->BCalls prog 220 [.ag 2,.sl 0,.int .i64,.int .i64] [.pb 0 0 0 0,.int .i64 (IntKind.i64.wrap (n1 - 1))] [Bx.var [.sv c 0
 d e,.int .i64 f,.int .i64 g]] a (λx b c d e f g=>a<=g->Bel g x->Bel g (D.sl b 0 c d)->∀ a,g<=a
 -> ACalls prog 152 [.ag 2] [.dg 2 x] a (λg h=>a<=h->Bel h g->zN E [.var [.sv none 0 [] 0,.int .i64 0,.int .i64 0]]/\∀ a,h <=
 a->Q g b c d e f a))) (∀ a,h<=a->BCalls prog 220 [.ag 2,.sl 0,.int .i64,.int .i64] [.pb 0 0 0 0,.int .i64 (IntKind.i64.wrap
 (n1 - 1))] [Bx.var [.sv c 0 d e,.int .i64 f,.int .i64 g]] a (λb c d e f g h=>a<=h->Bel h b->Bel h (D.sl c
 0 d e)->∀ a,h<=a->BCalls prog 220 [.ag 2,.sl 0,.int .i64,.int .i64] [.pb 0 0 0 0,.int .i64 (IntKind.i64.wrap (n1 - 1))] [Bx.var [.sv c 0
 d e,.int .i64 f,.int .i64 g]] a (λc d e f g h i=>a<=i->Bel i c->Bel i (D.sl d 0 e f)->∀ a,i
 <= a->ACalls prog 153 [.ag 2] [.dg 2 b,.dg 2 c] a (λb c=>a<=c->Bel c b->zN E [.var [.sv none 0 [] 0,.int .i64 0,.int .i64
 0]]/\∀ a,c<=a->Q b d e f g h a))))))))):BCalls prog 220 [(Sh.ag 2),(Sh.sl 0),(Sh.int IntKind.i64),(Sh.int IntKind.i64)] [.pb 0 0 0 0,.int .i64 n1] [.var [.sv I 0 J O,.int .i64 U,.int .i64 Y]] N Q:=
  zOm (H:=zIQ) (by kernel_rfl) (λE=>by kernel_rfl) h
theorem sx (E:Env) (Q:QT [(Sh.ag 2),(Sh.sl 0),(Sh.int IntKind.i64),(Sh.int IntKind.i64)]) (N0:Nat) (n4 n5:Int) (I:Option Addr) (J:List D) (O:Nat) (U Y aa:Int) (ab:Option Addr) (ac:List D) (ae:Nat) (y2:D) (N:Nat) (h :
Br (decide (n5<n4)) (∀ a,N<=a->ACalls prog 152 [.ag 2] [.dg 2 y2] a (λx b=>a<=b->Bel b x->xt E Q N0 n4 (IntKind.i64.wrap
 (n5+1)) I J O U Y aa ab ac ae x b)) (zN E [.var [.sv none 0 [] 0,.int .i64 0,.int .i64 0]]/\∀ a,N<=a->Q y2 I J O
 U Y a)):xt E Q N0 n4 n5 I J O U Y aa ab ac ae y2 N:=
  zB3 (H:=t8) (by kernel_rfl) h
theorem s3 (E:Env) (Q:QT [(Sh.ag 2),(Sh.sl 0),(Sh.int IntKind.i64),(Sh.int IntKind.i64)]) (N0:Nat) (n6:Int) (I:Option Addr) (J:List D) (O:Nat) (U Y aa:Int) (ab:Option Addr) (ac:List D) (ae:Nat) (y2:D) (N:Nat) (h :
Br (decide (n6<3)) (∀ a,N<=a->ACalls prog 153 [.ag 2] [.dg 2 y2,.dg 2 y2] a (λx b=>a<=b->Bel b x->xq E Q N0 (IntKind.i64.wrap
 (n6+1)) I J O U Y aa ab ac ae x b)) (zN E [.var [.sv none 0 [] 0,.int .i64 0,.int .i64 0]]/\∀ a,N<=a->Q y2 I J O
 U Y a)):xq E Q N0 n6 I J O U Y aa ab ac ae y2 N:=
  zB3 (H:=t8) (by kernel_rfl) h
theorem zEA (E:Env) (Q:QT [Sh.pk,(Sh.int IntKind.i64),Sh.str,Sh.str,(Sh.int IntKind.i64),Sh.dc,Sh.dc,Sh.dc,Sh.dc,(Sh.row (OfNat.ofNat 35) 9),(Sh.sl 0),(Sh.int IntKind.i64),(Sh.int IntKind.i64)]) (N0:Nat) (n1:Int) (J:Option Addr) (O:List D) (U:Nat) (Y aa ab:Int) (ac ae:ByteArray) (ah ai:Int) (aj:Option Addr) (ak:List D) (al:Nat) (am:Int) (ao:Option Addr) (aq:List D) (au:Nat) (aw:Option Addr) (ax:List D) (ay:Nat) (I:Int) (az bb:ByteArray) (a1:Int) (a6 a7:D) (bc:Int) (bd:Option Addr) (bg:List D) (bh a8 ba:Nat) (r3:List D) (q3:Nat) (N:Nat) (h :
Br (I==9) (∀ b,N<=b->BCalls prog 156 [.str,.sl 0,.int .i64,.int .i64,.sl 0] [.pb 0 0 0 0,.sb 1 0 0 2 2] [Bx.var [.sv J 0 O U,.int .i64
 Y,.int .i64 aa],Bx.arr 9 0 [D.lit (.string (bytes [122])),D.lit (.string (bytes [119]))] 2] b (λs a c d n e f g h i=>b<=i->Bel i
 (D.sl a 0 c d)->Bel i (D.sl f 0 g h)->∀ b,i<=b->BCalls prog 220 [.ag 2,.sl 0,.int .i64,.int .i64] [.pb 0 0 0 0,.int .i64 2] [Bx.var [.sv
 a 0 c d,.int .i64 n,.int .i64 e]] b (λx a c d e f g=>b<=g->Bel g x->Bel g (D.sl a 0 c d)->uK E Q N0 n1 a
 c d e f ab ac ae ah ai aj ak al am ao aq au aw ax ay I az s a1 a6 a7 (x.cell 0) (x.cell 1) a8 ba r3 q3 g)))
 (wM E Q N0 n1 J O U Y aa ab ac ae ah ai aj ak al am ao aq au aw ax ay I az bb a1 a6 a7 bc
 bd bg bh a8 ba r3 q3 N)):wh E Q N0 n1 J O U Y aa ab ac ae ah ai aj ak al am ao aq au aw ax ay I az bb a1 a6 a7 bc bd bg bh a8 ba r3 q3 N:=
  zB3 (H:=zh) (by kernel_rfl) h
theorem zA2 (E:Env) (Q:QT [Sh.pk,(Sh.int IntKind.i64),Sh.str,Sh.str,(Sh.int IntKind.i64),Sh.dc,Sh.dc,Sh.dc,Sh.dc,(Sh.row (OfNat.ofNat 35) 9),(Sh.sl 0),(Sh.int IntKind.i64),(Sh.int IntKind.i64)]) (N0:Nat) (n1:Int) (J:Option Addr) (O:List D) (U:Nat) (Y aa ab:Int) (ac ae:ByteArray) (ah ai:Int) (aj:Option Addr) (ak:List D) (al:Nat) (am:Int) (ao:Option Addr) (aq:List D) (au:Nat) (aw:Option Addr) (ax:List D) (ay:Nat) (I:Int) (az bd:ByteArray) (a1 a6:Int) (a7:Option Addr) (a8:List D) (ba:Nat) (bg:Int) (bh:Option Addr) (bi:List D) (bj bb bc:Nat) (r3:List D) (q3:Nat) (N:Nat) (h :
Br (I==9) (∀ b,N<=b->BCalls prog 156 [.str,.sl 0,.int .i64,.int .i64,.sl 0] [.pb 0 0 0 0,.sb 1 0 0 2 2] [Bx.var [.sv J 0 O U,.int .i64
 Y,.int .i64 aa],Bx.arr 9 0 [D.lit (.string (bytes [122])),D.lit (.string (bytes [119]))] 2] b (λs a c d n e f g h i=>b<=i->Bel i
 (D.sl a 0 c d)->Bel i (D.sl f 0 g h)->∀ b,i<=b->BCalls prog 220 [.ag 2,.sl 0,.int .i64,.int .i64] [.pb 0 0 0 0,.int .i64 2] [Bx.var [.sv
 a 0 c d,.int .i64 n,.int .i64 e]] b (λx a c d e f g=>b<=g->Bel g x->Bel g (D.sl a 0 c d)->wd E Q N0 n1
 a c d e f ab ac ae ah ai aj ak al am ao aq au aw ax ay I az s a1 a6 a7 a8 ba (x.cell 0) (x.cell 1) bb bc
 r3 q3 g))) (wO E Q N0 n1 J O U Y aa ab ac ae ah ai aj ak al am ao aq au aw ax ay I az bd a1
 a6 a7 a8 ba bg bh bi bj bb bc r3 q3 N)):wg E Q N0 n1 J O U Y aa ab ac ae ah ai aj ak al am ao aq au aw ax ay I az bd a1 a6 a7 a8 ba bg bh bi bj bb bc r3 q3 N:=
  zB3 (H:=zh) (by kernel_rfl) h
theorem zEB (E:Env) (Q:QT [Sh.pk,(Sh.int IntKind.i64),Sh.str,Sh.str,(Sh.int IntKind.i64),Sh.dc,Sh.dc,Sh.dc,Sh.dc,(Sh.row (OfNat.ofNat 35) 9),(Sh.sl 0),(Sh.int IntKind.i64),(Sh.int IntKind.i64)]) (N0:Nat) (n1:Int) (a0_0:Option Addr) (e0_0:List D) (c0_0:Nat) (n0_1 n0_2 n1_0:Int) (s1_1 s1_2:ByteArray) (n1_3 n1_4:Int) (a1_5:Option Addr) (e1_5:List D) (c1_5:Nat) (n1_6:Int) (a1_7:Option Addr) (e1_7:List D) (c1_7:Nat) (a1_8:Option Addr) (e1_8:List D) (c1_8:Nat) (n2_0:Int) (s2_1 s2_2:ByteArray) (n2_3:Int) (x2_4 x2_5 x2_6 x2_7:D) (m2_8 c2_8:Nat) (r3:List D) (q3:Nat) (N:Nat) (h :
(m2_8=r3.length/\c2_8=q3)/\∀ a,ApA a r3->∀ b,N<=b->wL b [a]->ACalls prog 107 [.int .i64] [.dg 9 (D.ag [D.lit (.int .i64 n2_0),D.lit (.string
 s2_1),D.lit (.string s2_2),D.lit (.int .i64 n2_3),x2_4,x2_5,x2_6,x2_7,D.sl a 9 r3 c2_8])] b (fun n a=>b<=a->wQ E Q N0 n1 n 0 a0_0
 e0_0 c0_0 n0_1 n0_2 n1_0 s1_1 s1_2 n1_3 n1_4 a1_5 e1_5 c1_5 n1_6 a1_7 e1_7 c1_7 a1_8 e1_8 c1_8 n2_0 s2_1 s2_2 n2_3 x2_4 x2_5 x2_6 x2_7 m2_8 c2_8 r3 q3 a)):uK E Q N0 n1 a0_0 e0_0 c0_0 n0_1 n0_2 n1_0 s1_1 s1_2 n1_3 n1_4 a1_5 e1_5 c1_5 n1_6 a1_7 e1_7 c1_7 a1_8 e1_8 c1_8 n2_0 s2_1 s2_2 n2_3 x2_4 x2_5 x2_6 x2_7 m2_8 c2_8 r3 q3 N:=
  zB3 (H:=zh) (by kernel_rfl) h
theorem zAP (E:Env) (Q:QT [Sh.pk,(Sh.int IntKind.i64),Sh.str,Sh.str,(Sh.int IntKind.i64),Sh.dc,Sh.dc,Sh.dc,Sh.dc,(Sh.row (OfNat.ofNat 35) 9),(Sh.sl 0),(Sh.int IntKind.i64),(Sh.int IntKind.i64)]) (N0:Nat) (n1:Int) (a0_0:Option Addr) (e0_0:List D) (c0_0:Nat) (n0_1 n0_2 n1_0:Int) (s1_1 s1_2:ByteArray) (n1_3 n1_4:Int) (a1_5:Option Addr) (e1_5:List D) (c1_5:Nat) (n1_6:Int) (a1_7:Option Addr) (e1_7:List D) (c1_7:Nat) (a1_8:Option Addr) (e1_8:List D) (c1_8:Nat) (n2_0:Int) (s2_1 s2_2:ByteArray) (n2_3:Int) (x2_4 x2_5:D) (n2_6:Int) (a2_7:Option Addr) (e2_7:List D) (c2_7 m2_8 c2_8:Nat) (r3:List D) (q3:Nat) (N:Nat) (h :
(m2_8=r3.length/\c2_8=q3)/\∀ a,ApA a r3->∀ b,N<=b->wL b [a]->ACalls prog 107 [.int .i64] [.dg 9 (D.ag [D.lit (.int .i64 n2_0),D.lit (.string
 s2_1),D.lit (.string s2_2),D.lit (.int .i64 n2_3),x2_4,x2_5,D.lit (.int .i64 n2_6),D.sl a2_7 2 e2_7 c2_7,D.sl a 9 r3 c2_8])] b (fun n a=>b<=a ->
 xM E Q N0 n1 n 0 a0_0 e0_0 c0_0 n0_1 n0_2 n1_0 s1_1 s1_2 n1_3 n1_4 a1_5 e1_5 c1_5 n1_6 a1_7 e1_7 c1_7 a1_8 e1_8 c1_8 n2_0 s2_1 s2_2 n2_3 x2_4 x2_5
 n2_6 a2_7 e2_7 c2_7 m2_8 c2_8 r3 q3 a)):wM E Q N0 n1 a0_0 e0_0 c0_0 n0_1 n0_2 n1_0 s1_1 s1_2 n1_3 n1_4 a1_5 e1_5 c1_5 n1_6 a1_7 e1_7 c1_7 a1_8 e1_8 c1_8 n2_0 s2_1 s2_2 n2_3 x2_4 x2_5 n2_6 a2_7 e2_7 c2_7 m2_8 c2_8 r3 q3 N:=
  zB3 (H:=zh) (by kernel_rfl) h
theorem zBF (E:Env) (Q:QT [Sh.pk,(Sh.int IntKind.i64),Sh.str,Sh.str,(Sh.int IntKind.i64),Sh.dc,Sh.dc,Sh.dc,Sh.dc,(Sh.row (OfNat.ofNat 35) 9),(Sh.sl 0),(Sh.int IntKind.i64),(Sh.int IntKind.i64)]) (N0:Nat) (n1:Int) (a0_0:Option Addr) (e0_0:List D) (c0_0:Nat) (n0_1 n0_2 n1_0:Int) (s1_1 s1_2:ByteArray) (n1_3 n1_4:Int) (a1_5:Option Addr) (e1_5:List D) (c1_5:Nat) (n1_6:Int) (a1_7:Option Addr) (e1_7:List D) (c1_7:Nat) (a1_8:Option Addr) (e1_8:List D) (c1_8:Nat) (n2_0:Int) (s2_1 s2_2:ByteArray) (n2_3 n2_4:Int) (a2_5:Option Addr) (e2_5:List D) (c2_5:Nat) (x2_6 x2_7:D) (m2_8 c2_8:Nat) (r3:List D) (q3:Nat) (N:Nat) (h :
(m2_8=r3.length/\c2_8=q3)/\∀ a,ApA a r3->∀ b,N<=b->wL b [a]->ACalls prog 107 [.int .i64] [.dg 9 (D.ag [D.lit (.int .i64 n2_0),D.lit (.string
 s2_1),D.lit (.string s2_2),D.lit (.int .i64 n2_3),D.lit (.int .i64 n2_4),D.sl a2_5 2 e2_5 c2_5,x2_6,x2_7,D.sl a 9 r3 c2_8])] b (fun n a=>b<=a ->
 xL E Q N0 n1 n 0 a0_0 e0_0 c0_0 n0_1 n0_2 n1_0 s1_1 s1_2 n1_3 n1_4 a1_5 e1_5 c1_5 n1_6 a1_7 e1_7 c1_7 a1_8 e1_8 c1_8 n2_0 s2_1 s2_2 n2_3 n2_4 a2_5
 e2_5 c2_5 x2_6 x2_7 m2_8 c2_8 r3 q3 a)):wd E Q N0 n1 a0_0 e0_0 c0_0 n0_1 n0_2 n1_0 s1_1 s1_2 n1_3 n1_4 a1_5 e1_5 c1_5 n1_6 a1_7 e1_7 c1_7 a1_8 e1_8 c1_8 n2_0 s2_1 s2_2 n2_3 n2_4 a2_5 e2_5 c2_5 x2_6 x2_7 m2_8 c2_8 r3 q3 N:=
  zB3 (H:=zh) (by kernel_rfl) h
theorem pw (E:Env) (Q:QT [Sh.pk,(Sh.int IntKind.i64),Sh.str,Sh.str,(Sh.int IntKind.i64),Sh.dc,Sh.dc,Sh.dc,Sh.dc,(Sh.row (OfNat.ofNat 35) 9),(Sh.sl 0),(Sh.int IntKind.i64),(Sh.int IntKind.i64)]) (N0:Nat) (n1:Int) (a0_0:Option Addr) (e0_0:List D) (c0_0:Nat) (n0_1 n0_2 n1_0:Int) (s1_1 s1_2:ByteArray) (n1_3 n1_4:Int) (a1_5:Option Addr) (e1_5:List D) (c1_5:Nat) (n1_6:Int) (a1_7:Option Addr) (e1_7:List D) (c1_7:Nat) (a1_8:Option Addr) (e1_8:List D) (c1_8:Nat) (n2_0:Int) (s2_1 s2_2:ByteArray) (n2_3 n2_4:Int) (a2_5:Option Addr) (e2_5:List D) (c2_5:Nat) (n2_6:Int) (a2_7:Option Addr) (e2_7:List D) (c2_7 m2_8 c2_8:Nat) (r3:List D) (q3:Nat) (N:Nat) (h :
(m2_8=r3.length/\c2_8=q3)/\∀ a,ApA a r3->∀ b,N<=b->wL b [a]->ACalls prog 107 [.int .i64] [.dg 9 (D.ag [D.lit (.int .i64 n2_0),D.lit (.string
 s2_1),D.lit (.string s2_2),D.lit (.int .i64 n2_3),D.lit (.int .i64 n2_4),D.sl a2_5 2 e2_5 c2_5,D.lit (.int .i64 n2_6),D.sl a2_7 2 e2_7 c2_7,D.sl a 9 r3 c2_8])]
 b (fun n a=>b<=a->xH E Q N0 n1 n 0 a0_0 e0_0 c0_0 n0_1 n0_2 n1_0 s1_1 s1_2 n1_3 n1_4 a1_5 e1_5 c1_5 n1_6 a1_7 e1_7 c1_7 a1_8 e1_8 c1_8
 n2_0 s2_1 s2_2 n2_3 n2_4 a2_5 e2_5 c2_5 n2_6 a2_7 e2_7 c2_7 m2_8 c2_8 r3 q3 a)):wO E Q N0 n1 a0_0 e0_0 c0_0 n0_1 n0_2 n1_0 s1_1 s1_2 n1_3 n1_4 a1_5 e1_5 c1_5 n1_6 a1_7 e1_7 c1_7 a1_8 e1_8 c1_8 n2_0 s2_1 s2_2 n2_3 n2_4 a2_5 e2_5 c2_5 n2_6 a2_7 e2_7 c2_7 m2_8 c2_8 r3 q3 N:=
  zB3 (H:=zh) (by kernel_rfl) h
theorem qG (E:Env) (Q:QT [Sh.pk,(Sh.int IntKind.i64),Sh.str,Sh.str,(Sh.int IntKind.i64),Sh.dc,Sh.dc,Sh.dc,Sh.dc,(Sh.row (OfNat.ofNat 35) 9),(Sh.sl 0),(Sh.int IntKind.i64),(Sh.int IntKind.i64)]) (N0:Nat) (n1 n6 n7:Int) (aa:Option Addr) (ab:List D) (ac:Nat) (ae ah ao:Int) (aq au:ByteArray) (aw ax:Int) (ay:Option Addr) (az:List D) (a1:Nat) (a6:Int) (a7:Option Addr) (a8:List D) (ba:Nat) (bb:Option Addr) (bc:List D) (bd:Nat) (ai:Int) (aj ak:ByteArray) (al:Int) (I J O U:D) (am Y:Nat) (r3:List D) (q3:Nat) (N:Nat) (h :
Br (decide (n7<n6)) (∀ b,N<=b->BCalls prog 155 [Sh.pk,.int .i64,.str,.str,.int .i64,Sh.dc,Sh.dc,Sh.dc,Sh.dc,.row (OfNat.ofNat 35) 9,.sl 0,.int
 .i64,.int .i64] [.pb 0 0 0 0,.int .i64 (IntKind.i64.wrap (n1 - 1))] [Bx.var [.sv aa 0 ab ac,.int .i64 ae,.int .i64 ah]] b (λn s a c x d
 e f g h i j k l m o=>b<=o->Bel o (D.sl i 0 j k)->Bel o (D.ag g)->(g.length=g.length/\h=h)/\∀ b p,o<=p->Fresh
 N0 p b [D.ag g,x,d,e,f,I,J,O,U,D.ag r3]->(am=r3.length/\Y=q3)/\zB r3 [D.ag [D.lit (.int .i64 n),D.lit (.string
 s),D.lit (.string a),D.lit (.int .i64 c),x,d,e,f,D.sl b 9 g h]] 136/\∀ (o:Nat),wQ E Q N0 n1 n6 (IntKind.i64.wrap (n7+1))
 i j k l m ao aq au aw ax ay az a1 a6 a7 a8 ba bb bc bd ai aj ak al I J O U (r3++[D.ag [D.lit (.int .i64
 n),D.lit (.string s),D.lit (.string a),D.lit (.int .i64 c),x,d,e,f,D.sl b 9 g h]]).length o (r3++[D.ag [D.lit (.int .i64 n),D.lit (.string
 s),D.lit (.string a),D.lit (.int .i64 c),x,d,e,f,D.sl b 9 g h]]) o p)) (zN E [.var [.sv none 0 [] 0,.int .i64 0,.int .i64 0]]/\(am
 = r3.length/\Y=q3)/\∀ a,N<=a->Q ai aj ak al I J O U r3 Y aa ab ac ae ah a)):wQ E Q N0 n1 n6 n7 aa ab ac ae ah ao aq au aw ax ay az a1 a6 a7 a8 ba bb bc bd ai aj ak al I J O U am Y r3 q3 N:=
  zB3 (H:=zh) (by kernel_rfl) h
theorem tC (E:Env) (Q:QT [Sh.pk,(Sh.int IntKind.i64),Sh.str,Sh.str,(Sh.int IntKind.i64),Sh.dc,Sh.dc,Sh.dc,Sh.dc,(Sh.row (OfNat.ofNat 35) 9),(Sh.sl 0),(Sh.int IntKind.i64),(Sh.int IntKind.i64)]) (N0:Nat) (n1 n6 n7:Int) (ab:Option Addr) (ac:List D) (ae:Nat) (ah ai au:Int) (aw ax:ByteArray) (ay az:Int) (a1:Option Addr) (a6:List D) (a7:Nat) (a8:Int) (ba:Option Addr) (bb:List D) (bc:Nat) (bd:Option Addr) (bg:List D) (bh:Nat) (aj:Int) (ak al:ByteArray) (am:Int) (I J:D) (ao:Int) (O:Option Addr) (U:List D) (Y aq aa:Nat) (r3:List D) (q3:Nat) (N:Nat) (h :
Br (decide (n7<n6)) (∀ b,N<=b->BCalls prog 155 [Sh.pk,.int .i64,.str,.str,.int .i64,Sh.dc,Sh.dc,Sh.dc,Sh.dc,.row (OfNat.ofNat 35) 9,.sl 0,.int
 .i64,.int .i64] [.pb 0 0 0 0,.int .i64 (IntKind.i64.wrap (n1 - 1))] [Bx.var [.sv ab 0 ac ae,.int .i64 ah,.int .i64 ai]] b (λn s a c x d
 e f g h i j k l m o=>b<=o->Bel o (D.sl i 0 j k)->Bel o (D.ag g)->(g.length=g.length/\h=h)/\∀ b p,o<=p->Fresh
 N0 p b [D.ag g,x,d,e,f,I,J,D.sl O 2 U Y,D.ag r3]->(aq=r3.length/\aa=q3)/\zB r3 [D.ag [D.lit (.int .i64 n),D.lit
 (.string s),D.lit (.string a),D.lit (.int .i64 c),x,d,e,f,D.sl b 9 g h]] 136/\∀ (o:Nat),xM E Q N0 n1 n6 (IntKind.i64.wrap
 (n7+1)) i j k l m au aw ax ay az a1 a6 a7 a8 ba bb bc bd bg bh aj ak al am I J ao O U Y (r3 ++
 [D.ag [D.lit (.int .i64 n),D.lit (.string s),D.lit (.string a),D.lit (.int .i64 c),x,d,e,f,D.sl b 9 g h]]).length o (r3++[D.ag [D.lit (.int
 .i64 n),D.lit (.string s),D.lit (.string a),D.lit (.int .i64 c),x,d,e,f,D.sl b 9 g h]]) o p)) (zN E [.var [.sv none 0 [] 0,.int .i64
 0,.int .i64 0]]/\(aq=r3.length/\aa=q3)/\∀ a,N<=a->Q aj ak al am I J (D.lit (.int .i64 ao)) (D.sl O 2 U Y) r3 aa ab
 ac ae ah ai a)):xM E Q N0 n1 n6 n7 ab ac ae ah ai au aw ax ay az a1 a6 a7 a8 ba bb bc bd bg bh aj ak al am I J ao O U Y aq aa r3 q3 N:=
  zB3 (H:=zh) (by kernel_rfl) h
theorem ux (E:Env) (Q:QT [Sh.pk,(Sh.int IntKind.i64),Sh.str,Sh.str,(Sh.int IntKind.i64),Sh.dc,Sh.dc,Sh.dc,Sh.dc,(Sh.row (OfNat.ofNat 35) 9),(Sh.sl 0),(Sh.int IntKind.i64),(Sh.int IntKind.i64)]) (N0:Nat) (n1 n6 n7:Int) (ab:Option Addr) (ac:List D) (ae:Nat) (ah ai au:Int) (aw ax:ByteArray) (ay az:Int) (a1:Option Addr) (a6:List D) (a7:Nat) (a8:Int) (ba:Option Addr) (bb:List D) (bc:Nat) (bd:Option Addr) (bg:List D) (bh:Nat) (aj:Int) (ak al:ByteArray) (am ao:Int) (I:Option Addr) (J:List D) (O:Nat) (U Y:D) (aq aa:Nat) (r3:List D) (q3:Nat) (N:Nat) (h :
Br (decide (n7<n6)) (∀ b,N<=b->BCalls prog 155 [Sh.pk,.int .i64,.str,.str,.int .i64,Sh.dc,Sh.dc,Sh.dc,Sh.dc,.row (OfNat.ofNat 35) 9,.sl 0,.int
 .i64,.int .i64] [.pb 0 0 0 0,.int .i64 (IntKind.i64.wrap (n1 - 1))] [Bx.var [.sv ab 0 ac ae,.int .i64 ah,.int .i64 ai]] b (λn s a c x d
 e f g h i j k l m o=>b<=o->Bel o (D.sl i 0 j k)->Bel o (D.ag g)->(g.length=g.length/\h=h)/\∀ b p,o<=p->Fresh
 N0 p b [D.ag g,x,d,e,f,D.sl I 2 J O,U,Y,D.ag r3]->(aq=r3.length/\aa=q3)/\zB r3 [D.ag [D.lit (.int .i64 n),D.lit
 (.string s),D.lit (.string a),D.lit (.int .i64 c),x,d,e,f,D.sl b 9 g h]] 136/\∀ (o:Nat),xL E Q N0 n1 n6 (IntKind.i64.wrap
 (n7+1)) i j k l m au aw ax ay az a1 a6 a7 a8 ba bb bc bd bg bh aj ak al am ao I J O U Y (r3 ++
 [D.ag [D.lit (.int .i64 n),D.lit (.string s),D.lit (.string a),D.lit (.int .i64 c),x,d,e,f,D.sl b 9 g h]]).length o (r3++[D.ag [D.lit (.int
 .i64 n),D.lit (.string s),D.lit (.string a),D.lit (.int .i64 c),x,d,e,f,D.sl b 9 g h]]) o p)) (zN E [.var [.sv none 0 [] 0,.int .i64
 0,.int .i64 0]]/\(aq=r3.length/\aa=q3)/\∀ a,N<=a->Q aj ak al am (D.lit (.int .i64 ao)) (D.sl I 2 J O) U Y r3 aa ab
 ac ae ah ai a)):xL E Q N0 n1 n6 n7 ab ac ae ah ai au aw ax ay az a1 a6 a7 a8 ba bb bc bd bg bh aj ak al am ao I J O U Y aq aa r3 q3 N:=
  zB3 (H:=zh) (by kernel_rfl) h
theorem tA (E:Env) (Q:QT [Sh.pk,(Sh.int IntKind.i64),Sh.str,Sh.str,(Sh.int IntKind.i64),Sh.dc,Sh.dc,Sh.dc,Sh.dc,(Sh.row (OfNat.ofNat 35) 9),(Sh.sl 0),(Sh.int IntKind.i64),(Sh.int IntKind.i64)]) (N0:Nat) (n1 n6 n7:Int) (ac:Option Addr) (ae:List D) (ah:Nat) (ai aj ax:Int) (ay az:ByteArray) (a1 a6:Int) (a7:Option Addr) (a8:List D) (ba:Nat) (bb:Int) (bc:Option Addr) (bd:List D) (bg:Nat) (bh:Option Addr) (bi:List D) (bj:Nat) (ak:Int) (al am:ByteArray) (ao aq:Int) (I:Option Addr) (J:List D) (O:Nat) (au:Int) (U:Option Addr) (Y:List D) (aa aw ab:Nat) (r3:List D) (q3:Nat) (N:Nat) (h :
Br (decide (n7<n6)) (∀ b,N<=b->BCalls prog 155 [Sh.pk,.int .i64,.str,.str,.int .i64,Sh.dc,Sh.dc,Sh.dc,Sh.dc,.row (OfNat.ofNat 35) 9,.sl 0,.int
 .i64,.int .i64] [.pb 0 0 0 0,.int .i64 (IntKind.i64.wrap (n1 - 1))] [Bx.var [.sv ac 0 ae ah,.int .i64 ai,.int .i64 aj]] b (λn s a c x d
 e f g h i j k l m o=>b<=o->Bel o (D.sl i 0 j k)->Bel o (D.ag g)->(g.length=g.length/\h=h)/\∀ b p,o<=p->Fresh
 N0 p b [D.ag g,x,d,e,f,D.sl I 2 J O,D.sl U 2 Y aa,D.ag r3]->(aw=r3.length/\ab=q3)/\zB r3 [D.ag [D.lit (.int .i64
 n),D.lit (.string s),D.lit (.string a),D.lit (.int .i64 c),x,d,e,f,D.sl b 9 g h]] 136/\∀ (o:Nat),xH E Q N0 n1 n6 (IntKind.i64.wrap
 (n7+1)) i j k l m ax ay az a1 a6 a7 a8 ba bb bc bd bg bh bi bj ak al am ao aq I J O au U Y aa
 (r3++[D.ag [D.lit (.int .i64 n),D.lit (.string s),D.lit (.string a),D.lit (.int .i64 c),x,d,e,f,D.sl b 9 g h]]).length o (r3++[D.ag [D.lit
 (.int .i64 n),D.lit (.string s),D.lit (.string a),D.lit (.int .i64 c),x,d,e,f,D.sl b 9 g h]]) o p)) (zN E [.var [.sv none 0 [] 0,.int
 .i64 0,.int .i64 0]]/\(aw=r3.length/\ab=q3)/\∀ a,N<=a->Q ak al am ao (D.lit (.int .i64 aq)) (D.sl I 2 J O) (D.lit (.int .i64
 au)) (D.sl U 2 Y aa) r3 ab ac ae ah ai aj a)):xH E Q N0 n1 n6 n7 ac ae ah ai aj ax ay az a1 a6 a7 a8 ba bb bc bd bg bh bi bj ak al am ao aq I J O au U Y aa aw ab r3 q3 N:=
  zB3 (H:=zh) (by kernel_rfl) h
end Go.Proofs.YtmfjakahanbnlaaGreatDoor
