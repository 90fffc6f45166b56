/- Printed by gen.py: what the functions come to. -/
import Derived.Test.YtfajiphkncipoaaGreatDoorJh
set_option linter.unusedVariables false
set_option maxRecDepth 100000
namespace Go.Proofs.YtfajiphkncipoaaGreatDoor
open Go Go.Proofs Go.Proofs.Tryz
def shA:FuncId->List Sh:=λf=>match zOQ f [(120,[.pk,.int .i64,.str,.str,.int .i64,.dc,.dc,.dc,.dc,.row 29 9]),(121,[.pk,.int .i64,.str,.str,.int .i64,.dc,.dc,.dc,.dc,.row 29 9]),(55,[.pk,.int .i64,.str,.str,.int .i64,.dc,.dc,.dc,.dc,.row 29 9]),(90,[.row 0 1000007,.pk,.int .i64,.str,.str,.int .i64,.dc,.dc,.dc,.dc,.row 29 9]),(52,[.row 0 1000007,.pk,.int .i64,.str,.str,.int .i64,.dc,.dc,.dc,.dc,.row 29 9])] with
 | []=>sh f
 | l=>l
theorem zSV {f:FuncId} {rs:List Sh} {Q:QT rs} {N:Nat} {H:Hint} {args:List PV} {F:Prop} (hc:xd prog f=true) (I:F=zKQ prog shA f rs Q N H 400 args) (h:F):ACalls prog f rs args N Q:=zRC mixed hc I h
theorem zOu {f:FuncId} {full:List Sh} {Q:QT full} {N:Nat} {H:Hint} {args:List PV} {bx:List Bx} {F:Env->Prop} (hc:xd prog f=true) (I:∀ E,F E=zJB prog shA f full Q N H 400 args bx E) (h:∀ E,F E):BCalls prog f full args bx N Q:=zOV mixed hc I h
theorem zBH {f:FuncId} {rs:List Sh} {Q:QT rs} {N0:Nat} {M:Mode} {H:Hint} {I:List Item} {st:St} {F:Prop} (J:F=zCn st λst=>W prog shA f rs Q N0 M H 400 true I st) (h:F):AT prog f rs Q N0 M I st:=zTt mixed J h
def zFI:Hint:=⟨[],[],[]⟩
def zEc:Hint:=⟨[],[],[]⟩
def zFq:Hint:=⟨[],[],[]⟩
def zHM:Hint:=⟨[],[],[(4,hs 6 [ec 4 [21]]),(6,[en 0,en 1,en 2,en 3,eh 4,ec 5 [27,31],eh 6])]⟩
def zH9:Hint:=⟨[],[],[]⟩
def zk:Hint:=⟨[hc 18 [0,1,4,5,6,7] [] [(5,8,29,9)]],[hc 11 [0,1,4,5] [] [(5,8,29,9)],hc 13 [0,1,4,5] [] [(5,8,29,9)],hc 16 [0,1,4,5] [] [(5,8,29,9)]],[(20,[en 0,en 1,en 2,en 3,en 4,eh 5,{ i:=6,hard:=true,cl:=[69],fs:=[5,69] },eh 7,en 8,eh 9])]⟩
def t7:Hint:=⟨[hc 10 [2,3,4,5],hc 15 [2,3,6]],[],[(6,[en 0,en 1,eh 2,en 3,eh 4,en 5,eh 6]),(12,hs 3 [ec 1 [34]]),(17,hs 4 [ec 2 [42,43]])]⟩
def zHs:Hint:=⟨[],[],[(10,[en 0,en 1,eh 2,{ i:=3,hard:=true,cl:=[32],fs:=[3,32] },eh 4,en 5,eh 6])]⟩
def zx (E:Env) (Q:QT [Sh.pk,(Sh.int IntKind.i64),Sh.str,Sh.str,(Sh.int IntKind.i64),Sh.dc,Sh.dc,Sh.dc,Sh.dc,(Sh.row (OfNat.ofNat 29) 9),(Sh.sl 0),(Sh.int IntKind.i64),(Sh.int IntKind.i64)]) (N0:Nat) (n1:Int) (I:Option Addr) (J:List D) (O:Nat) (U Y aa:Int) (ab ac:ByteArray) (ae ah:Int) (ai:Option Addr) (aj:List D) (ak:Nat) (al:Int) (am:Option Addr) (ao:List D) (aq:Nat) (au:Option Addr) (aw:List D) (ax:Nat) (ay:Int) (az a6:ByteArray) (a7 a8:Int) (ba:Option Addr) (bb:List D) (bc:Nat) (bd:Int) (bg:Option Addr) (bh:List D) (bi bj bm:Nat) (r3:List D) (q3:Nat) (N:Nat):Prop:=AT prog 52 [Sh.pk,(Sh.int IntKind.i64),Sh.str,Sh.str,(Sh.int IntKind.i64),Sh.dc,Sh.dc,Sh.dc,Sh.dc,(Sh.row (OfNat.ofNat 29) 9),(Sh.sl 0),(Sh.int IntKind.i64),(Sh.int IntKind.i64)] Q N0 (.io E [.var [.sv none 0 [] 0,.int .i64 0,.int .i64 0]]) (p7 prog 52 11) ⟨.pb 0 0 0 0::.int .i64 n1::an 2 (.pb 1 0 0 0::.pb 2 0 0 0::an 68 []),[.var [.sv I 0 J O,.int .i64 U,.int .i64 Y],.var [.int .i64 aa,.str ab,.str ac,.int .i64 ae,.int .i64 ah,.sv ai 2 aj ak,.int .i64 al,.sv am 2 ao aq,.sv au 9 aw ax],.var [.int .i64 ay,.str az,.str a6,.int .i64 a7,.int .i64 a8,.sv ba 2 bb bc,.int .i64 bd,.sv bg 2 bh bi,.sb 3 9 0 bj bm],.arr 29 9 r3 q3],N,some (xE E 0 [.var [.sv none 0 [] 0,.int .i64 0,.int .i64 0]],[])⟩
def wA (E:Env) (Q:QT [(Sh.ag 2),(Sh.sl 0),(Sh.int IntKind.i64),(Sh.int IntKind.i64)]) (N0:Nat) (n4 n5:Int) (I:Option Addr) (J:List D) (O:Nat) (U Y aa:Int) (ab:Option Addr) (ac:List D) (ae:Nat) (y2:D) (N:Nat):Prop:=AT prog 56 [(Sh.ag 2),(Sh.sl 0),(Sh.int IntKind.i64),(Sh.int IntKind.i64)] Q N0 (.io E [.var [.sv none 0 [] 0,.int .i64 0,.int .i64 0]]) (zD prog 56 10) ⟨an 2 (.pb 1 0 0 0::.pb 2 0 0 0::.int .i64 n4::.int .i64 n5::an 40 []),[.var [.sv I 0 J O,.int .i64 U,.int .i64 Y],.var [.int .i64 aa,.sv ab 2 ac ae],.vd y2 2],N,some (xE E 0 [.var [.sv none 0 [] 0,.int .i64 0,.int .i64 0]],[])⟩
def xv (E:Env) (Q:QT [(Sh.ag 2),(Sh.sl 0),(Sh.int IntKind.i64),(Sh.int IntKind.i64)]) (N0:Nat) (n6:Int) (I:Option Addr) (J:List D) (O:Nat) (U Y aa:Int) (ab:Option Addr) (ac:List D) (ae:Nat) (y2:D) (N:Nat):Prop:=AT prog 56 [(Sh.ag 2),(Sh.sl 0),(Sh.int IntKind.i64),(Sh.int IntKind.i64)] Q N0 (.io E [.var [.sv none 0 [] 0,.int .i64 0,.int .i64 0]]) (zD prog 56 15) ⟨an 2 (.pb 1 0 0 0::.pb 2 0 0 0::an 2 (.int .i64 n6::an 39 [])),[.var [.sv I 0 J O,.int .i64 U,.int .i64 Y],.var [.int .i64 aa,.sv ab 2 ac ae],.vd y2 2],N,some (xE E 0 [.var [.sv none 0 [] 0,.int .i64 0,.int .i64 0]],[])⟩
def wi (E:Env) (Q:QT [Sh.pk,(Sh.int IntKind.i64),Sh.str,Sh.str,(Sh.int IntKind.i64),Sh.dc,Sh.dc,Sh.dc,Sh.dc,(Sh.row (OfNat.ofNat 29) 9),(Sh.sl 0),(Sh.int IntKind.i64),(Sh.int IntKind.i64)]) (N0:Nat) (n1:Int) (I:Option Addr) (J:List D) (O:Nat) (U Y aa:Int) (ab ac:ByteArray) (ae ah:Int) (ai:Option Addr) (aj:List D) (ak:Nat) (al:Int) (am:Option Addr) (ao:List D) (aq:Nat) (au:Option Addr) (aw:List D) (ax:Nat) (ay:Int) (az a6:ByteArray) (a7:Int) (a8 ba:D) (bb:Int) (bc:Option Addr) (bd:List D) (bg bh bi:Nat) (r3:List D) (q3:Nat) (N:Nat):Prop:=AT prog 52 [Sh.pk,(Sh.int IntKind.i64),Sh.str,Sh.str,(Sh.int IntKind.i64),Sh.dc,Sh.dc,Sh.dc,Sh.dc,(Sh.row (OfNat.ofNat 29) 9),(Sh.sl 0),(Sh.int IntKind.i64),(Sh.int IntKind.i64)] Q N0 (.io E [.var [.sv none 0 [] 0,.int .i64 0,.int .i64 0]]) (p7 prog 52 13) ⟨.pb 0 0 0 0::.int .i64 n1::an 2 (.pb 1 0 0 0::.pb 2 0 0 0::an 68 []),[.var [.sv I 0 J O,.int .i64 U,.int .i64 Y],.var [.int .i64 aa,.str ab,.str ac,.int .i64 ae,.int .i64 ah,.sv ai 2 aj ak,.int .i64 al,.sv am 2 ao aq,.sv au 9 aw ax],.var [.int .i64 ay,.str az,.str a6,.int .i64 a7,.dc a8,.dc ba,.int .i64 bb,.sv bc 2 bd bg,.sb 3 9 0 bh bi],.arr 29 9 r3 q3],N,some (xE E 0 [.var [.sv none 0 [] 0,.int .i64 0,.int .i64 0]],[])⟩
def wv (E:Env) (Q:QT [Sh.pk,(Sh.int IntKind.i64),Sh.str,Sh.str,(Sh.int IntKind.i64),Sh.dc,Sh.dc,Sh.dc,Sh.dc,(Sh.row (OfNat.ofNat 29) 9),(Sh.sl 0),(Sh.int IntKind.i64),(Sh.int IntKind.i64)]) (N0:Nat) (n1:Int) (I:Option Addr) (J:List D) (O:Nat) (U Y aa:Int) (ab ac:ByteArray) (ae ah:Int) (ai:Option Addr) (aj:List D) (ak:Nat) (al:Int) (am:Option Addr) (ao:List D) (aq:Nat) (au:Option Addr) (aw:List D) (ax:Nat) (ay:Int) (az a6:ByteArray) (a7 a8:Int) (ba:Option Addr) (bb:List D) (bc:Nat) (bd:Int) (bg:Option Addr) (bh:List D) (bi bj bm:Nat) (r3:List D) (q3:Nat) (N:Nat):Prop:=AT prog 52 [Sh.pk,(Sh.int IntKind.i64),Sh.str,Sh.str,(Sh.int IntKind.i64),Sh.dc,Sh.dc,Sh.dc,Sh.dc,(Sh.row (OfNat.ofNat 29) 9),(Sh.sl 0),(Sh.int IntKind.i64),(Sh.int IntKind.i64)] Q N0 (.io E [.var [.sv none 0 [] 0,.int .i64 0,.int .i64 0]]) (p7 prog 52 13) ⟨.pb 0 0 0 0::.int .i64 n1::an 2 (.pb 1 0 0 0::.pb 2 0 0 0::an 68 []),[.var [.sv I 0 J O,.int .i64 U,.int .i64 Y],.var [.int .i64 aa,.str ab,.str ac,.int .i64 ae,.int .i64 ah,.sv ai 2 aj ak,.int .i64 al,.sv am 2 ao aq,.sv au 9 aw ax],.var [.int .i64 ay,.str az,.str a6,.int .i64 a7,.int .i64 a8,.sv ba 2 bb bc,.int .i64 bd,.sv bg 2 bh bi,.sb 3 9 0 bj bm],.arr 29 9 r3 q3],N,some (xE E 0 [.var [.sv none 0 [] 0,.int .i64 0,.int .i64 0]],[])⟩
def uJ (E:Env) (Q:QT [Sh.pk,(Sh.int IntKind.i64),Sh.str,Sh.str,(Sh.int IntKind.i64),Sh.dc,Sh.dc,Sh.dc,Sh.dc,(Sh.row (OfNat.ofNat 29) 9),(Sh.sl 0),(Sh.int IntKind.i64),(Sh.int IntKind.i64)]) (N0:Nat) (n1:Int) (I:Option Addr) (J:List D) (O:Nat) (U Y aa:Int) (ab ac:ByteArray) (ae ah:Int) (ai:Option Addr) (aj:List D) (ak:Nat) (al:Int) (am:Option Addr) (ao:List D) (aq:Nat) (au:Option Addr) (aw:List D) (ax:Nat) (ay:Int) (az a6:ByteArray) (a7:Int) (a8 ba bb bc:D) (bd bg:Nat) (r3:List D) (q3:Nat) (N:Nat):Prop:=AT prog 52 [Sh.pk,(Sh.int IntKind.i64),Sh.str,Sh.str,(Sh.int IntKind.i64),Sh.dc,Sh.dc,Sh.dc,Sh.dc,(Sh.row (OfNat.ofNat 29) 9),(Sh.sl 0),(Sh.int IntKind.i64),(Sh.int IntKind.i64)] Q N0 (.io E [.var [.sv none 0 [] 0,.int .i64 0,.int .i64 0]]) (p7 prog 52 16) ⟨.pb 0 0 0 0::.int .i64 n1::an 2 (.pb 1 0 0 0::.pb 2 0 0 0::an 68 []),[.var [.sv I 0 J O,.int .i64 U,.int .i64 Y],.var [.int .i64 aa,.str ab,.str ac,.int .i64 ae,.int .i64 ah,.sv ai 2 aj ak,.int .i64 al,.sv am 2 ao aq,.sv au 9 aw ax],.var [.int .i64 ay,.str az,.str a6,.int .i64 a7,.dc a8,.dc ba,.dc bb,.dc bc,.sb 3 9 0 bd bg],.arr 29 9 r3 q3],N,some (xE E 0 [.var [.sv none 0 [] 0,.int .i64 0,.int .i64 0]],[])⟩
def we (E:Env) (Q:QT [Sh.pk,(Sh.int IntKind.i64),Sh.str,Sh.str,(Sh.int IntKind.i64),Sh.dc,Sh.dc,Sh.dc,Sh.dc,(Sh.row (OfNat.ofNat 29) 9),(Sh.sl 0),(Sh.int IntKind.i64),(Sh.int IntKind.i64)]) (N0:Nat) (n1:Int) (I:Option Addr) (J:List D) (O:Nat) (U Y aa:Int) (ab ac:ByteArray) (ae ah:Int) (ai:Option Addr) (aj:List D) (ak:Nat) (al:Int) (am:Option Addr) (ao:List D) (aq:Nat) (au:Option Addr) (aw:List D) (ax:Nat) (ay:Int) (az a6:ByteArray) (a7:Int) (a8 ba:D) (bb:Int) (bc:Option Addr) (bd:List D) (bg bh bi:Nat) (r3:List D) (q3:Nat) (N:Nat):Prop:=AT prog 52 [Sh.pk,(Sh.int IntKind.i64),Sh.str,Sh.str,(Sh.int IntKind.i64),Sh.dc,Sh.dc,Sh.dc,Sh.dc,(Sh.row (OfNat.ofNat 29) 9),(Sh.sl 0),(Sh.int IntKind.i64),(Sh.int IntKind.i64)] Q N0 (.io E [.var [.sv none 0 [] 0,.int .i64 0,.int .i64 0]]) (p7 prog 52 16) ⟨.pb 0 0 0 0::.int .i64 n1::an 2 (.pb 1 0 0 0::.pb 2 0 0 0::an 68 []),[.var [.sv I 0 J O,.int .i64 U,.int .i64 Y],.var [.int .i64 aa,.str ab,.str ac,.int .i64 ae,.int .i64 ah,.sv ai 2 aj ak,.int .i64 al,.sv am 2 ao aq,.sv au 9 aw ax],.var [.int .i64 ay,.str az,.str a6,.int .i64 a7,.dc a8,.dc ba,.int .i64 bb,.sv bc 2 bd bg,.sb 3 9 0 bh bi],.arr 29 9 r3 q3],N,some (xE E 0 [.var [.sv none 0 [] 0,.int .i64 0,.int .i64 0]],[])⟩
def wb (E:Env) (Q:QT [Sh.pk,(Sh.int IntKind.i64),Sh.str,Sh.str,(Sh.int IntKind.i64),Sh.dc,Sh.dc,Sh.dc,Sh.dc,(Sh.row (OfNat.ofNat 29) 9),(Sh.sl 0),(Sh.int IntKind.i64),(Sh.int IntKind.i64)]) (N0:Nat) (n1:Int) (I:Option Addr) (J:List D) (O:Nat) (U Y aa:Int) (ab ac:ByteArray) (ae ah:Int) (ai:Option Addr) (aj:List D) (ak:Nat) (al:Int) (am:Option Addr) (ao:List D) (aq:Nat) (au:Option Addr) (aw:List D) (ax:Nat) (ay:Int) (az a6:ByteArray) (a7 a8:Int) (ba:Option Addr) (bb:List D) (bc:Nat) (bd bg:D) (bh bi:Nat) (r3:List D) (q3:Nat) (N:Nat):Prop:=AT prog 52 [Sh.pk,(Sh.int IntKind.i64),Sh.str,Sh.str,(Sh.int IntKind.i64),Sh.dc,Sh.dc,Sh.dc,Sh.dc,(Sh.row (OfNat.ofNat 29) 9),(Sh.sl 0),(Sh.int IntKind.i64),(Sh.int IntKind.i64)] Q N0 (.io E [.var [.sv none 0 [] 0,.int .i64 0,.int .i64 0]]) (p7 prog 52 16) ⟨.pb 0 0 0 0::.int .i64 n1::an 2 (.pb 1 0 0 0::.pb 2 0 0 0::an 68 []),[.var [.sv I 0 J O,.int .i64 U,.int .i64 Y],.var [.int .i64 aa,.str ab,.str ac,.int .i64 ae,.int .i64 ah,.sv ai 2 aj ak,.int .i64 al,.sv am 2 ao aq,.sv au 9 aw ax],.var [.int .i64 ay,.str az,.str a6,.int .i64 a7,.int .i64 a8,.sv ba 2 bb bc,.dc bd,.dc bg,.sb 3 9 0 bh bi],.arr 29 9 r3 q3],N,some (xE E 0 [.var [.sv none 0 [] 0,.int .i64 0,.int .i64 0]],[])⟩
def wq (E:Env) (Q:QT [Sh.pk,(Sh.int IntKind.i64),Sh.str,Sh.str,(Sh.int IntKind.i64),Sh.dc,Sh.dc,Sh.dc,Sh.dc,(Sh.row (OfNat.ofNat 29) 9),(Sh.sl 0),(Sh.int IntKind.i64),(Sh.int IntKind.i64)]) (N0:Nat) (n1:Int) (I:Option Addr) (J:List D) (O:Nat) (U Y aa:Int) (ab ac:ByteArray) (ae ah:Int) (ai:Option Addr) (aj:List D) (ak:Nat) (al:Int) (am:Option Addr) (ao:List D) (aq:Nat) (au:Option Addr) (aw:List D) (ax:Nat) (ay:Int) (az a6:ByteArray) (a7 a8:Int) (ba:Option Addr) (bb:List D) (bc:Nat) (bd:Int) (bg:Option Addr) (bh:List D) (bi bj bm:Nat) (r3:List D) (q3:Nat) (N:Nat):Prop:=AT prog 52 [Sh.pk,(Sh.int IntKind.i64),Sh.str,Sh.str,(Sh.int IntKind.i64),Sh.dc,Sh.dc,Sh.dc,Sh.dc,(Sh.row (OfNat.ofNat 29) 9),(Sh.sl 0),(Sh.int IntKind.i64),(Sh.int IntKind.i64)] Q N0 (.io E [.var [.sv none 0 [] 0,.int .i64 0,.int .i64 0]]) (p7 prog 52 16) ⟨.pb 0 0 0 0::.int .i64 n1::an 2 (.pb 1 0 0 0::.pb 2 0 0 0::an 68 []),[.var [.sv I 0 J O,.int .i64 U,.int .i64 Y],.var [.int .i64 aa,.str ab,.str ac,.int .i64 ae,.int .i64 ah,.sv ai 2 aj ak,.int .i64 al,.sv am 2 ao aq,.sv au 9 aw ax],.var [.int .i64 ay,.str az,.str a6,.int .i64 a7,.int .i64 a8,.sv ba 2 bb bc,.int .i64 bd,.sv bg 2 bh bi,.sb 3 9 0 bj bm],.arr 29 9 r3 q3],N,some (xE E 0 [.var [.sv none 0 [] 0,.int .i64 0,.int .i64 0]],[])⟩
def wk (E:Env) (Q:QT [Sh.pk,(Sh.int IntKind.i64),Sh.str,Sh.str,(Sh.int IntKind.i64),Sh.dc,Sh.dc,Sh.dc,Sh.dc,(Sh.row (OfNat.ofNat 29) 9),(Sh.sl 0),(Sh.int IntKind.i64),(Sh.int IntKind.i64)]) (N0:Nat) (n1 n6 n7:Int) (I:Option Addr) (J:List D) (O:Nat) (U Y aa:Int) (ab ac:ByteArray) (ae ah:Int) (ai:Option Addr) (aj:List D) (ak:Nat) (al:Int) (am:Option Addr) (ao:List D) (aq:Nat) (au:Option Addr) (aw:List D) (ax:Nat) (ay:Int) (az a6:ByteArray) (a7:Int) (a8 ba bb bc:D) (bd bg:Nat) (r3:List D) (q3:Nat) (N:Nat):Prop:=AT prog 52 [Sh.pk,(Sh.int IntKind.i64),Sh.str,Sh.str,(Sh.int IntKind.i64),Sh.dc,Sh.dc,Sh.dc,Sh.dc,(Sh.row (OfNat.ofNat 29) 9),(Sh.sl 0),(Sh.int IntKind.i64),(Sh.int IntKind.i64)] Q N0 (.io E [.var [.sv none 0 [] 0,.int .i64 0,.int .i64 0]]) (zD prog 52 18) ⟨.pb 0 0 0 0::.int .i64 n1::an 2 (.pb 1 0 0 0::.pb 2 0 0 0::.int .i64 n6::.int .i64 n7::an 66 []),[.var [.sv I 0 J O,.int .i64 U,.int .i64 Y],.var [.int .i64 aa,.str ab,.str ac,.int .i64 ae,.int .i64 ah,.sv ai 2 aj ak,.int .i64 al,.sv am 2 ao aq,.sv au 9 aw ax],.var [.int .i64 ay,.str az,.str a6,.int .i64 a7,.dc a8,.dc ba,.dc bb,.dc bc,.sb 3 9 0 bd bg],.arr 29 9 r3 q3],N,some (xE E 0 [.var [.sv none 0 [] 0,.int .i64 0,.int .i64 0]],[])⟩
def xO (E:Env) (Q:QT [Sh.pk,(Sh.int IntKind.i64),Sh.str,Sh.str,(Sh.int IntKind.i64),Sh.dc,Sh.dc,Sh.dc,Sh.dc,(Sh.row (OfNat.ofNat 29) 9),(Sh.sl 0),(Sh.int IntKind.i64),(Sh.int IntKind.i64)]) (N0:Nat) (n1 n6 n7:Int) (I:Option Addr) (J:List D) (O:Nat) (U Y aa:Int) (ab ac:ByteArray) (ae ah:Int) (ai:Option Addr) (aj:List D) (ak:Nat) (al:Int) (am:Option Addr) (ao:List D) (aq:Nat) (au:Option Addr) (aw:List D) (ax:Nat) (ay:Int) (az a6:ByteArray) (a7:Int) (a8 ba:D) (bb:Int) (bc:Option Addr) (bd:List D) (bg bh bi:Nat) (r3:List D) (q3:Nat) (N:Nat):Prop:=AT prog 52 [Sh.pk,(Sh.int IntKind.i64),Sh.str,Sh.str,(Sh.int IntKind.i64),Sh.dc,Sh.dc,Sh.dc,Sh.dc,(Sh.row (OfNat.ofNat 29) 9),(Sh.sl 0),(Sh.int IntKind.i64),(Sh.int IntKind.i64)] Q N0 (.io E [.var [.sv none 0 [] 0,.int .i64 0,.int .i64 0]]) (zD prog 52 18) ⟨.pb 0 0 0 0::.int .i64 n1::an 2 (.pb 1 0 0 0::.pb 2 0 0 0::.int .i64 n6::.int .i64 n7::an 66 []),[.var [.sv I 0 J O,.int .i64 U,.int .i64 Y],.var [.int .i64 aa,.str ab,.str ac,.int .i64 ae,.int .i64 ah,.sv ai 2 aj ak,.int .i64 al,.sv am 2 ao aq,.sv au 9 aw ax],.var [.int .i64 ay,.str az,.str a6,.int .i64 a7,.dc a8,.dc ba,.int .i64 bb,.sv bc 2 bd bg,.sb 3 9 0 bh bi],.arr 29 9 r3 q3],N,some (xE E 0 [.var [.sv none 0 [] 0,.int .i64 0,.int .i64 0]],[])⟩
def xJ (E:Env) (Q:QT [Sh.pk,(Sh.int IntKind.i64),Sh.str,Sh.str,(Sh.int IntKind.i64),Sh.dc,Sh.dc,Sh.dc,Sh.dc,(Sh.row (OfNat.ofNat 29) 9),(Sh.sl 0),(Sh.int IntKind.i64),(Sh.int IntKind.i64)]) (N0:Nat) (n1 n6 n7:Int) (I:Option Addr) (J:List D) (O:Nat) (U Y aa:Int) (ab ac:ByteArray) (ae ah:Int) (ai:Option Addr) (aj:List D) (ak:Nat) (al:Int) (am:Option Addr) (ao:List D) (aq:Nat) (au:Option Addr) (aw:List D) (ax:Nat) (ay:Int) (az a6:ByteArray) (a7 a8:Int) (ba:Option Addr) (bb:List D) (bc:Nat) (bd bg:D) (bh bi:Nat) (r3:List D) (q3:Nat) (N:Nat):Prop:=AT prog 52 [Sh.pk,(Sh.int IntKind.i64),Sh.str,Sh.str,(Sh.int IntKind.i64),Sh.dc,Sh.dc,Sh.dc,Sh.dc,(Sh.row (OfNat.ofNat 29) 9),(Sh.sl 0),(Sh.int IntKind.i64),(Sh.int IntKind.i64)] Q N0 (.io E [.var [.sv none 0 [] 0,.int .i64 0,.int .i64 0]]) (zD prog 52 18) ⟨.pb 0 0 0 0::.int .i64 n1::an 2 (.pb 1 0 0 0::.pb 2 0 0 0::.int .i64 n6::.int .i64 n7::an 66 []),[.var [.sv I 0 J O,.int .i64 U,.int .i64 Y],.var [.int .i64 aa,.str ab,.str ac,.int .i64 ae,.int .i64 ah,.sv ai 2 aj ak,.int .i64 al,.sv am 2 ao aq,.sv au 9 aw ax],.var [.int .i64 ay,.str az,.str a6,.int .i64 a7,.int .i64 a8,.sv ba 2 bb bc,.dc bd,.dc bg,.sb 3 9 0 bh bi],.arr 29 9 r3 q3],N,some (xE E 0 [.var [.sv none 0 [] 0,.int .i64 0,.int .i64 0]],[])⟩
def xK (E:Env) (Q:QT [Sh.pk,(Sh.int IntKind.i64),Sh.str,Sh.str,(Sh.int IntKind.i64),Sh.dc,Sh.dc,Sh.dc,Sh.dc,(Sh.row (OfNat.ofNat 29) 9),(Sh.sl 0),(Sh.int IntKind.i64),(Sh.int IntKind.i64)]) (N0:Nat) (n1 n6 n7:Int) (I:Option Addr) (J:List D) (O:Nat) (U Y aa:Int) (ab ac:ByteArray) (ae ah:Int) (ai:Option Addr) (aj:List D) (ak:Nat) (al:Int) (am:Option Addr) (ao:List D) (aq:Nat) (au:Option Addr) (aw:List D) (ax:Nat) (ay:Int) (az a6:ByteArray) (a7 a8:Int) (ba:Option Addr) (bb:List D) (bc:Nat) (bd:Int) (bg:Option Addr) (bh:List D) (bi bj bm:Nat) (r3:List D) (q3:Nat) (N:Nat):Prop:=AT prog 52 [Sh.pk,(Sh.int IntKind.i64),Sh.str,Sh.str,(Sh.int IntKind.i64),Sh.dc,Sh.dc,Sh.dc,Sh.dc,(Sh.row (OfNat.ofNat 29) 9),(Sh.sl 0),(Sh.int IntKind.i64),(Sh.int IntKind.i64)] Q N0 (.io E [.var [.sv none 0 [] 0,.int .i64 0,.int .i64 0]]) (zD prog 52 18) ⟨.pb 0 0 0 0::.int .i64 n1::an 2 (.pb 1 0 0 0::.pb 2 0 0 0::.int .i64 n6::.int .i64 n7::an 66 []),[.var [.sv I 0 J O,.int .i64 U,.int .i64 Y],.var [.int .i64 aa,.str ab,.str ac,.int .i64 ae,.int .i64 ah,.sv ai 2 aj ak,.int .i64 al,.sv am 2 ao aq,.sv au 9 aw ax],.var [.int .i64 ay,.str az,.str a6,.int .i64 a7,.int .i64 a8,.sv ba 2 bb bc,.int .i64 bd,.sv bg 2 bh bi,.sb 3 9 0 bj bm],.arr 29 9 r3 q3],N,some (xE E 0 [.var [.sv none 0 [] 0,.int .i64 0,.int .i64 0]],[])⟩
theorem zFx (N:Nat) (n0:Int) (Q:QT [.pk,.int .i64,.str,.str,.int .i64,.dc,.dc,.dc,.dc,.row 29 9]) (h :
uP N (Q 2 (bytes []) (bytes []) n0 (D.lit (.int .i64 0)) (D.sl Option.none 2 [] 0) (D.lit (.int .i64 0)) (D.sl Option.none 2 [] 0) [] 0)):ACalls prog 120 [.pk,.int .i64,.str,.str,.int .i64,.dc,.dc,.dc,.dc,.row 29 9] [PV.int .i64 n0] N Q:=
 zSV (H:=zFI) (by kernel_rfl) (by kernel_rfl) h
theorem zEv (N:Nat) (n0:Int) (Q:QT [.pk,.int .i64,.str,.str,.int .i64,.dc,.dc,.dc,.dc,.row 29 9]) (h :
uP N (Q 3 (bytes []) (bytes []) n0 (D.lit (.int .i64 0)) (D.sl Option.none 2 [] 0) (D.lit (.int .i64 0)) (D.sl Option.none 2 [] 0) [] 0)):ACalls prog 121 [.pk,.int .i64,.str,.str,.int .i64,.dc,.dc,.dc,.dc,.row 29 9] [PV.int .i64 n0] N Q:=
 zSV (H:=zEc) (by kernel_rfl) (by kernel_rfl) h
theorem pC (N:Nat) (I:ByteArray) (Q:QT [.pk,.int .i64,.str,.str,.int .i64,.dc,.dc,.dc,.dc,.row 29 9]) (h :
uP N (Q 1 I (bytes []) 0 (D.lit (.int .i64 0)) (D.sl Option.none 2 [] 0) (D.lit (.int .i64 0)) (D.sl Option.none 2 [] 0) [] 0)):ACalls prog 55 [.pk,.int .i64,.str,.str,.int .i64,.dc,.dc,.dc,.dc,.row 29 9] [PV.str I] N Q:=
 zSV (H:=zFq) (by kernel_rfl) (by kernel_rfl) h
theorem zCY (N:Nat) (I:Option Addr) (J:List D) (O:Nat) (U Y:Int) (Q:QT [(Sh.ag 9),(Sh.sl 0),(Sh.int IntKind.i64),(Sh.int IntKind.i64)]) (h:∀ E:Env,
Bel N (D.sl I 0 J O)->cI 42 [.int .i64 4] I J O U Y N (λn a b c d e f=>∀ g,f<=g->BCalls prog
 52 [Sh.pk,.int .i64,.str,.str,.int .i64,Sh.dc,Sh.dc,Sh.dc,Sh.dc,.row (OfNat.ofNat 29) 9,.sl 0,.int .i64,.int .i64] [.pb 0 0 0 0,.int .i64
 (IntKind.i64.wrap (1+n))] [Bx.var [.sv a 0 b c,.int .i64 d,.int .i64 e]] g (λa s b c x d e f h i j k l m n o=>g <=
 o->Bel o (D.sl j 0 k l)->Bel o (D.ag h)->cI 42 [.int .i64 14] j k l m n o (λg j k l m n o=>Br (g==0) (cI 42
 [.int .i64 15] j k l m n o (λa g j k l m n=>(h.length=h.length/\i=i)/\(h.length=h.length/\i=i)
 /\ (h.length=h.length/\i=i)/\(h.length=h.length/\i=i)/\∀ o p,n<=p->Fresh N p o [D.ag h,x,d,e,f]->xp E
 /\ uP p (Q (D.ag [D.lit (.int .i64 a),D.lit (.string s),D.lit (.string b),D.lit (.int .i64 c),x,d,e,f,D.sl o 9 h i]) g j k
 l m))) (Br (g==1) (∀ c,o<=c->BCalls prog 53 [.int .i64,.sl 0,.int .i64,.int .i64,.sl 0] [.pb 0 0 0 0,.sb 1 0 0 5 5] [Bx.var [.sv j 0
 k l,.int .i64 m,.int .i64 n],Bx.arr 3 0 [D.lit (.int .i64 0),D.lit (.int .i64 1),D.lit (.int .i64 10006),D.lit (.int .i64 10007),D.lit (.int
 .i64 (-1))] 5] c (λg j k l m n o p q r=>c<=r->Bel r (D.sl j 0 k l)->Bel r (D.sl o 0 p q)->(h.length
 = h.length/\i=i)/\(h.length=h.length/\i=i)/\(h.length=h.length/\i=i)/\(h.length=h.length/\i=i)/\∀ c
 o,r<=o->Fresh N o c [D.ag h,x,d,e,f]->xp E/\uP o (Q (D.ag [D.lit (.int .i64 a),D.lit (.string s),D.lit (.string b),D.lit
 (.int .i64 g),x,d,e,f,D.sl c 9 h i]) j k l m n))) (Br (g==2) (cP [D.lit (.string (bytes [])),D.lit (.string (bytes
 [120])),D.lit (.string (bytes [108,101,116])),D.lit (.string (bytes [97,98,99,100,101])),D.lit (.string (bytes [43]))] 54 9 5 j k l m n o
 (λg j k l m n _ _ _ o=>(h.length=h.length/\i=i)/\(h.length=h.length/\i=i)/\(h.length =
 h.length/\i=i)/\(h.length=h.length/\i=i)/\∀ p q,o<=q->Fresh N q p [D.ag h,x,d,e,f]->xp E/\uP q (Q
 (D.ag [D.lit (.int .i64 a),D.lit (.string g),D.lit (.string b),D.lit (.int .i64 c),x,d,e,f,D.sl p 9 h i]) j k l m
 n))) (Br (g==3) (∀ g,o<=g->ACalls prog 55 [Sh.pk,.int .i64,.str,.str,.int .i64,Sh.dc,Sh.dc,Sh.dc,Sh.dc,.row (OfNat.ofNat 29) 9] [.str
 (bytes [120])] g (λo p q r t u v w y z A=>g<=A->Bel A (D.ag y)->(y.length=y.length/\z=z)/\∀ g
 B,A<=B->Fresh N B g [D.ag y,t,u,v,w,x,d,e,f,D.ag h]->(h.length=h.length/\i=i)/\zB h [D.ag
 [D.lit (.int .i64 o),D.lit (.string p),D.lit (.string q),D.lit (.int .i64 r),t,u,v,w,D.sl g 9 y z]] 136/\∀ (i:Nat),
 ((h++[D.ag [D.lit (.int .i64 o),D.lit (.string p),D.lit (.string q),D.lit (.int .i64 r),t,u,v,w,D.sl g 9 y z]]).length =
 (h++[D.ag [D.lit (.int .i64 o),D.lit (.string p),D.lit (.string q),D.lit (.int .i64 r),t,u,v,w,D.sl g 9 y z]]).length /\
 i=i)/\((h++[D.ag [D.lit (.int .i64 o),D.lit (.string p),D.lit (.string q),D.lit (.int .i64 r),t,u,v,w,D.sl g 9 y
 z]]).length=(h++[D.ag [D.lit (.int .i64 o),D.lit (.string p),D.lit (.string q),D.lit (.int .i64 r),t,u,v,w,D.sl g 9 y
 z]]).length/\i=i)/\((h++[D.ag [D.lit (.int .i64 o),D.lit (.string p),D.lit (.string q),D.lit (.int .i64 r),t,u,v,w,
 D.sl g 9 y z]]).length=(h++[D.ag [D.lit (.int .i64 o),D.lit (.string p),D.lit (.string q),D.lit (.int .i64 r),t,u,v,w,
 D.sl g 9 y z]]).length/\i=i)/\((h++[D.ag [D.lit (.int .i64 o),D.lit (.string p),D.lit (.string q),D.lit (.int .i64 r),t,
 u,v,w,D.sl g 9 y z]]).length=(h++[D.ag [D.lit (.int .i64 o),D.lit (.string p),D.lit (.string q),D.lit (.int .i64 r),t,
 u,v,w,D.sl g 9 y z]]).length/\i=i)/\∀ A C,B<=C->Fresh N C A [D.ag (h++[D.ag [D.lit (.int .i64 o),D.lit
 (.string p),D.lit (.string q),D.lit (.int .i64 r),t,u,v,w,D.sl g 9 y z]]),x,d,e,f]->xp E/\∀ B,C<=B->Q (D.ag
 [D.lit (.int .i64 a),D.lit (.string s),D.lit (.string b),D.lit (.int .i64 c),x,d,e,f,D.sl A 9 (h++[D.ag [D.lit (.int .i64 o),
 D.lit (.string p),D.lit (.string q),D.lit (.int .i64 r),t,u,v,w,D.sl g 9 y z]]) i]) j k l m n B)) (Br (g==4)
 (cA 2 56 [] j k l m n o (λd g j k l m n=>(h.length=h.length/\i=i)/\(h.length=h.length/\i=i)
 /\ (h.length=h.length/\i=i)/\(h.length=h.length/\i=i)/\∀ o p,n<=p->Fresh N p o [D.ag h,(d.cell 0),
 (d.cell 1),e,f]->xp E/\uP p (Q (D.ag [D.lit (.int .i64 a),D.lit (.string s),D.lit (.string b),D.lit (.int .i64 c),(d.cell 0),
 (d.cell 1),e,f,D.sl o 9 h i]) g j k l m))) (Br (g==5) (cP [D.lit (.string (bytes [120])),D.lit (.string (bytes [122]))] 54
 9 2 j k l m n o (λb g j k l m _ _ _ n=>(h.length=h.length/\i=i)/\(h.length=h.length/\i
 = i)/\(h.length=h.length/\i=i)/\(h.length=h.length/\i=i)/\∀ o p,n<=p->Fresh N p o [D.ag h,x,d,e,
 f]->xp E/\uP p (Q (D.ag [D.lit (.int .i64 a),D.lit (.string s),D.lit (.string b),D.lit (.int .i64 c),x,d,e,f,D.sl o 9 h i])
 g j k l m))) ((h.length=h.length/\i=i)/\(h.length=h.length/\i=i)/\(h.length=h.length/\i=i) /\
 (h.length=h.length/\i=i)/\∀ g p,o<=p->Fresh N p g [D.ag h,x,d,e,f]->xp E/\uP p (Q (D.ag [D.lit (.int .i64
 a),D.lit (.string s),D.lit (.string b),D.lit (.int .i64 c),x,d,e,f,D.sl g 9 h i]) j k l m n))))))))))):BCalls prog 30 [(Sh.ag 9),(Sh.sl 0),(Sh.int IntKind.i64),(Sh.int IntKind.i64)] [.pb 0 0 0 0] [.var [.sv I 0 J O,.int .i64 U,.int .i64 Y]] N Q:=
  zOu (H:=zHs) (by kernel_rfl) (λE=>by kernel_rfl) h
theorem rh (N:Nat) (n1:Int) (I:Option Addr) (J:List D) (O:Nat) (U Y:Int) (Q:QT [Sh.pk,(Sh.int IntKind.i64),Sh.str,Sh.str,(Sh.int IntKind.i64),Sh.dc,Sh.dc,Sh.dc,Sh.dc,(Sh.row (OfNat.ofNat 29) 9),(Sh.sl 0),(Sh.int IntKind.i64),(Sh.int IntKind.i64)]) (h:∀ E:Env,
Bel N (D.sl I 0 J O)->Br (decide (n1<2)) (∀ b,N<=b->BCalls prog 90 [Sh.pk,.int .i64,.str,.str,.int .i64,Sh.dc,Sh.dc,
 Sh.dc,Sh.dc,.row (OfNat.ofNat 29) 9,.sl 0,.int .i64,.int .i64] [.pb 0 0 0 0] [Bx.var [.sv I 0 J O,.int .i64 U,.int .i64 Y]] b (λn
 s a c x d e f g h i j k l m o=>b<=o->Bel o (D.sl i 0 j k)->Bel o (D.ag g)->xp E/\(g.length=g.length/\h=h)/\uP o
 (Q n s a c x d e f g h i j k l m))) (cB 29 [.int .i64 5] I J O U Y N (λb a c d e f g=>Br b (∀ b,g <=
 b->BCalls prog 90 [Sh.pk,.int .i64,.str,.str,.int .i64,Sh.dc,Sh.dc,Sh.dc,Sh.dc,.row (OfNat.ofNat 29) 9,.sl 0,.int .i64,.int .i64] [.pb 0 0 0 0]
 [Bx.var [.sv a 0 c d,.int .i64 e,.int .i64 f]] b (λa c d e f g h i j k l m n o p q=>b<=q->Bel q (D.sl
 l 0 m n)->Bel q (D.ag j)->xp E/\(j.length=j.length/\k=k)/\uP q (Q a c d e f g h i j k l m n o
 p))) (∀ b,g<=b->BCalls prog 53 [.int .i64,.sl 0,.int .i64,.int .i64,.sl 0] [.pb 0 0 0 0,.sb 1 0 0 12 12] [Bx.var [.sv a 0 c d,.int .i64
 e,.int .i64 f],Bx.arr 3 0 [D.lit (.int .i64 4),D.lit (.int .i64 5),D.lit (.int .i64 6),D.lit (.int .i64 7),D.lit (.int .i64 8),D.lit (.int .i64 9),
 D.lit (.int .i64 10),D.lit (.int .i64 11),D.lit (.int .i64 12),D.lit (.int .i64 13),D.lit (.int .i64 10),D.lit (.int .i64 4)] 12] b (λa c d e
 f g h i j k=>b<=k->Bel k (D.sl c 0 d e)->Bel k (D.sl h 0 i j)->Br (a==4) (cP [D.lit (.string (bytes [43])),D.lit
 (.string (bytes [45])),D.lit (.string (bytes [42])),D.lit (.string (bytes [61])),D.lit (.string (bytes [60])),D.lit (.string (bytes [38])),D.lit (.string
 (bytes [124])),D.lit (.string (bytes [33]))] 54 9 8 c d e f g k (λb c d e f g _ _ _ h=>zx E Q N n1 c
 d e f g 0 (bytes []) (bytes []) 0 0 Option.none [] 0 0 Option.none [] 0 Option.none [] 0 a b (bytes []) 0 0 Option.none [] 0 0 Option.none [] 0
 0 0 [] 0 h)) (Br (a==6) (cP [D.lit (.string (bytes [120])),D.lit (.string (bytes [121])),D.lit (.string (bytes [102]))] 54 9 3 c d e f g
 k (λb c d e f g _ _ _ h=>zx E Q N n1 c d e f g 0 (bytes []) (bytes []) 0 0 Option.none [] 0 0
 Option.none [] 0 Option.none [] 0 a b (bytes []) 0 0 Option.none [] 0 0 Option.none [] 0 0 0 [] 0 h)) (Br (a==8) (cP [D.lit (.string (bytes [120])),
 D.lit (.string (bytes [121])),D.lit (.string (bytes [102]))] 54 9 3 c d e f g k (λb c d e f g _ _ _ h=>
 zx E Q N n1 c d e f g 0 (bytes []) (bytes []) 0 0 Option.none [] 0 0 Option.none [] 0 Option.none [] 0 a b (bytes []) 0 0
 Option.none [] 0 0 Option.none [] 0 0 0 [] 0 h)) (Br (a==9) (cP [D.lit (.string (bytes [120])),D.lit (.string (bytes [121])),D.lit (.string (bytes
 [102]))] 54 9 3 c d e f g k (λb c d e f g _ _ _ h=>zx E Q N n1 c d e f g 0 (bytes
 []) (bytes []) 0 0 Option.none [] 0 0 Option.none [] 0 Option.none [] 0 a b (bytes []) 0 0 Option.none [] 0 0 Option.none [] 0 0 0 [] 0 h))
 (zx E Q N n1 c d e f g 0 (bytes []) (bytes []) 0 0 Option.none [] 0 0 Option.none [] 0 Option.none [] 0 a (bytes []) (bytes []) 0 0
 Option.none [] 0 0 Option.none [] 0 0 0 [] 0 k))))))))):BCalls prog 52 [Sh.pk,(Sh.int IntKind.i64),Sh.str,Sh.str,(Sh.int IntKind.i64),Sh.dc,Sh.dc,Sh.dc,Sh.dc,(Sh.row (OfNat.ofNat 29) 9),(Sh.sl 0),(Sh.int IntKind.i64),(Sh.int IntKind.i64)] [.pb 0 0 0 0,.int .i64 n1] [.var [.sv I 0 J O,.int .i64 U,.int .i64 Y]] N Q:=
  zOu (H:=zk) (by kernel_rfl) (λE=>by kernel_rfl) h
theorem zCT (N:Nat) (I:Option Addr) (J:List D) (O:Nat) (U Y:Int) (Q:QT [(Sh.ag 2),(Sh.sl 0),(Sh.int IntKind.i64),(Sh.int IntKind.i64)]) (h:∀ E:Env,
Bel N (D.sl I 0 J O)->cA 2 91 [.int .i64 4] I J O U Y N (λx a b c n d e=>cI 42 [.int .i64 10] a b c n
 d e (λa b c d e f g=>Br (a==0) (cI 42 [.int .i64 6] b c d e f g (λa b c d e f g=>xp E/\uP g (Q
 (D.ag [D.lit (.int .i64 a),(x.cell 1)]) b c d e f))) (Br (a==1) (∃ a h,∃ i:Nat,(x.cell 1)=D.sl a 2 h i/\kA 2 92 [] g
 (λg j=>zRH a h i [g]/\zB h [g] 32/\∀ (a:Nat),((h++[g]).length=(h++[g]).length/\a=a)/\((h ++
 [g]).length=(h++[g]).length/\a=a)/\((h++[g]).length=(h++[g]).length/\a=a)/\((h++[g]).length=(h ++
 [g]).length/\a=a)/\∀ i k,j<=k->Fresh N k i [D.ag (h++[g]),(x.cell 0)]->xp E/\uP k (Q (D.ag [(x.cell 0),D.sl i 2 (h
 ++ [g]) a]) b c d e f))) (Br (a==2) (cI 42 [.int .i64 6] b c d e f g (λa b c d e f g=>wA E Q N
 (IntKind.i64.wrap (1+a)) 0 b c d e f 0 Option.none [] 0 x g)) (Br (a==3) (xv E Q N 0 b c d e f 0 Option.none [] 0
 x g) (xp E/\uP g (Q x b c d e f)))))))):BCalls prog 56 [(Sh.ag 2),(Sh.sl 0),(Sh.int IntKind.i64),(Sh.int IntKind.i64)] [.pb 0 0 0 0] [.var [.sv I 0 J O,.int .i64 U,.int .i64 Y]] N Q:=
  zOu (H:=t7) (by kernel_rfl) (λE=>by kernel_rfl) h
theorem zC9 (N:Nat) (I:Option Addr) (J:List D) (O:Nat) (U Y:Int) (Q:QT [Sh.pk,(Sh.int IntKind.i64),Sh.str,Sh.str,(Sh.int IntKind.i64),Sh.dc,Sh.dc,Sh.dc,Sh.dc,(Sh.row (OfNat.ofNat 29) 9),(Sh.sl 0),(Sh.int IntKind.i64),(Sh.int IntKind.i64)]) (h:∀ E:Env,
Bel N (D.sl I 0 J O)->cI 42 [.int .i64 4] I J O U Y N (λn a b c d e f=>Br (n==0) (∀ g,f<=g ->
 BCalls prog 53 [.int .i64,.sl 0,.int .i64,.int .i64,.sl 0] [.pb 0 0 0 0,.sb 1 0 0 5 5] [Bx.var [.sv a 0 b c,.int .i64 d,.int .i64 e],Bx.arr 3 0
 [D.lit (.int .i64 0),D.lit (.int .i64 1),D.lit (.int .i64 2),D.lit (.int .i64 3),D.lit (.int .i64 10006)] 5] g (λa b c d e f h i j
 k=>g<=k->Bel k (D.sl b 0 c d)->Bel k (D.sl h 0 i j)->∀ g,k<=g->ACalls prog 120 [Sh.pk,.int .i64,.str,.str,.int .i64,Sh.dc,
 Sh.dc,Sh.dc,Sh.dc,.row (OfNat.ofNat 29) 9] [.int .i64 a] g (λa s h i x j k l m n o=>g<=o->Bel o (D.ag m)->xp E /\
 (m.length=m.length/\n=n)/\uP o (Q a s h i x j k l m n b c d e f)))) (Br (n==1) (cI 42 [.int .i64 2] a b c d
 e f (λa b c d e f g=>∀ h,g<=h->ACalls prog 121 [Sh.pk,.int .i64,.str,.str,.int .i64,Sh.dc,Sh.dc,Sh.dc,Sh.dc,.row
 (OfNat.ofNat 29) 9] [.int .i64 a] h (λa g i j k l m n o p q=>h<=q->Bel q (D.ag o)->xp E/\(o.length =
 o.length/\p=p)/\uP q (Q a g i j k l m n o p b c d e f)))) (cP [D.lit (.string (bytes [120])),D.lit (.string
 (bytes [121])),D.lit (.string (bytes [102]))] 54 9 3 a b c d e f (λa b c d e f _ _ _ g=>∀ h,g<=h->ACalls prog 55
 [Sh.pk,.int .i64,.str,.str,.int .i64,Sh.dc,Sh.dc,Sh.dc,Sh.dc,.row (OfNat.ofNat 29) 9] [.str a] h (λa g i j k l m n o p
 q=>h<=q->Bel q (D.ag o)->xp E/\(o.length=o.length/\p=p)/\uP q (Q a g i j k l m n o p b c d
 e f))))))):BCalls prog 90 [Sh.pk,(Sh.int IntKind.i64),Sh.str,Sh.str,(Sh.int IntKind.i64),Sh.dc,Sh.dc,Sh.dc,Sh.dc,(Sh.row (OfNat.ofNat 29) 9),(Sh.sl 0),(Sh.int IntKind.i64),(Sh.int IntKind.i64)] [.pb 0 0 0 0] [.var [.sv I 0 J O,.int .i64 U,.int .i64 Y]] N Q:=
  zOu (H:=zH9) (by kernel_rfl) (λE=>by kernel_rfl) h
theorem zDW (E:Env) (Q:QT [Sh.pk,(Sh.int IntKind.i64),Sh.str,Sh.str,(Sh.int IntKind.i64),Sh.dc,Sh.dc,Sh.dc,Sh.dc,(Sh.row (OfNat.ofNat 29) 9),(Sh.sl 0),(Sh.int IntKind.i64),(Sh.int IntKind.i64)]) (N0:Nat) (n1:Int) (J:Option Addr) (O:List D) (U:Nat) (Y aa ab:Int) (ac ae:ByteArray) (ah ai:Int) (aj:Option Addr) (ak:List D) (al:Nat) (am:Int) (ao:Option Addr) (aq:List D) (au:Nat) (aw:Option Addr) (ax:List D) (ay:Nat) (I:Int) (az a6:ByteArray) (a7 bh:Int) (bi:Option Addr) (bj:List D) (bm:Nat) (a8:Int) (ba:Option Addr) (bb:List D) (bc bd bg:Nat) (r3:List D) (q3:Nat) (N:Nat) (h :
Br (I==6) (cA 2 91 [.int .i64 2] J O U Y aa N (λx a b c n d e=>wi E Q N0 n1 a b c n d ab ac ae ah ai
 aj ak al am ao aq au aw ax ay I az a6 a7 (x.cell 0) (x.cell 1) a8 ba bb bc bd bg r3 q3 e)) (Br (I==9) (cA 2 91
 [.int .i64 2] J O U Y aa N (λa b c d e f g=>wi E Q N0 n1 b c d e f ab ac ae ah ai aj ak
 al am ao aq au aw ax ay I az a6 a7 (a.cell 0) (a.cell 1) a8 ba bb bc bd bg r3 q3 g)) (wv E Q N0 n1
 J O U Y aa ab ac ae ah ai aj ak al am ao aq au aw ax ay I az a6 a7 bh bi bj bm a8 ba bb bc
 bd bg r3 q3 N))):zx E Q N0 n1 J O U Y aa ab ac ae ah ai aj ak al am ao aq au aw ax ay I az a6 a7 bh bi bj bm a8 ba bb bc bd bg r3 q3 N:=
  zBH (H:=zk) (by kernel_rfl) h
theorem sV (N:Nat) (n1:Int) (I:Option Addr) (J:List D) (O:Nat) (U Y:Int) (Q:QT [(Sh.ag 2),(Sh.sl 0),(Sh.int IntKind.i64),(Sh.int IntKind.i64)]) (h:∀ E:Env,
Bel N (D.sl I 0 J O)->Br (decide (n1<2)) (∀ b,N<=b->BCalls prog 53 [.int .i64,.sl 0,.int .i64,.int .i64,.sl 0] [.pb 0 0
 0 0,.sb 1 0 0 3 3] [Bx.var [.sv I 0 J O,.int .i64 U,.int .i64 Y],Bx.arr 3 0 [D.lit (.int .i64 1),D.lit (.int .i64 1),D.lit (.int .i64
 2)] 3] b (λn a c d e f g h i j=>b<=j->Bel j (D.sl a 0 c d)->Bel j (D.sl g 0 h i)->xp E/\uP j (Q (D.ag [D.lit (.int .i64
 n),D.sl Option.none 2 [] 0]) a c d e f))) (cB 29 [.int .i64 2] I J O U Y N (λb a c d e f g=>Br b (∀ b,g<=b ->
 BCalls prog 53 [.int .i64,.sl 0,.int .i64,.int .i64,.sl 0] [.pb 0 0 0 0,.sb 1 0 0 3 3] [Bx.var [.sv a 0 c d,.int .i64 e,.int .i64 f],Bx.arr 3
 0 [D.lit (.int .i64 1),D.lit (.int .i64 1),D.lit (.int .i64 2)] 3] b (λa c d e f g h i j k=>b<=k->Bel k (D.sl c 0 d e)
 -> Bel k (D.sl h 0 i j)->xp E/\uP k (Q (D.ag [D.lit (.int .i64 a),D.sl Option.none 2 [] 0]) c d e f g))) (cB 29 [.int .i64 2] a c
 d e f g (λa b c d e f g=>Br a (cA 2 91 [.int .i64 (IntKind.i64.wrap (n1 - 1))] b c d e f g (λx a b c d
 e f=>kA 2 93 [.dg 2 x] f (λf g=>xp E/\uP g (Q f a b c d e)))) (cA 2 91 [.int .i64 (IntKind.i64.wrap (n1 - 1))] b c
 d e f g (λa b c d e f g=>cA 2 91 [.int .i64 (IntKind.i64.wrap (n1 - 1))] b c d e f g (λb c d e f
 g h=>kA 2 94 [.dg 2 a,.dg 2 b] h (λa b=>xp E/\uP b (Q a c d e f g)))))))))):BCalls prog 91 [(Sh.ag 2),(Sh.sl 0),(Sh.int IntKind.i64),(Sh.int IntKind.i64)] [.pb 0 0 0 0,.int .i64 n1] [.var [.sv I 0 J O,.int .i64 U,.int .i64 Y]] N Q:=
  zOu (H:=zHM) (by kernel_rfl) (λE=>by kernel_rfl) h
theorem sm (E:Env) (Q:QT [(Sh.ag 2),(Sh.sl 0),(Sh.int IntKind.i64),(Sh.int IntKind.i64)]) (N0:Nat) (n4 n5:Int) (I:Option Addr) (J:List D) (O:Nat) (U Y aa:Int) (ab:Option Addr) (ac:List D) (ae:Nat) (y2:D) (N:Nat) (h :
Br (decide (n5<n4)) (kA 2 93 [.dg 2 y2] N (λx a=>wA E Q N0 n4 (IntKind.i64.wrap (n5+1)) I J O U Y aa ab ac
 ae x a)) (xp E/\uP N (Q y2 I J O U Y))):wA E Q N0 n4 n5 I J O U Y aa ab ac ae y2 N:=
  zBH (H:=t7) (by kernel_rfl) h
theorem sT (E:Env) (Q:QT [(Sh.ag 2),(Sh.sl 0),(Sh.int IntKind.i64),(Sh.int IntKind.i64)]) (N0:Nat) (n6:Int) (I:Option Addr) (J:List D) (O:Nat) (U Y aa:Int) (ab:Option Addr) (ac:List D) (ae:Nat) (y2:D) (N:Nat) (h :
Br (decide (n6<3)) (kA 2 94 [.dg 2 y2,.dg 2 y2] N (λx a=>xv E Q N0 (IntKind.i64.wrap (n6+1)) I J O U Y aa ab
 ac ae x a)) (xp E/\uP N (Q y2 I J O U Y))):xv E Q N0 n6 I J O U Y aa ab ac ae y2 N:=
  zBH (H:=t7) (by kernel_rfl) h
theorem zER (E:Env) (Q:QT [Sh.pk,(Sh.int IntKind.i64),Sh.str,Sh.str,(Sh.int IntKind.i64),Sh.dc,Sh.dc,Sh.dc,Sh.dc,(Sh.row (OfNat.ofNat 29) 9),(Sh.sl 0),(Sh.int IntKind.i64),(Sh.int IntKind.i64)]) (N0:Nat) (n1:Int) (J:Option Addr) (O:List D) (U:Nat) (Y aa ab:Int) (ac ae:ByteArray) (ah ai:Int) (aj:Option Addr) (ak:List D) (al:Nat) (am:Int) (ao:Option Addr) (aq:List D) (au:Nat) (aw:Option Addr) (ax:List D) (ay:Nat) (I:Int) (az bc:ByteArray) (a6:Int) (a7 a8:D) (bd:Int) (bg:Option Addr) (bh:List D) (bi ba bb:Nat) (r3:List D) (q3:Nat) (N:Nat) (h :
Br (I==9) (cP [D.lit (.string (bytes [122])),D.lit (.string (bytes [119]))] 54 9 2 J O U Y aa N (λs a b c n d _ _ _ e=>
 cA 2 91 [.int .i64 2] a b c n d e (λx a b c d e f=>uJ E Q N0 n1 a b c d e ab ac ae ah ai aj ak al
 am ao aq au aw ax ay I az s a6 a7 a8 (x.cell 0) (x.cell 1) ba bb r3 q3 f))) (we E Q N0 n1 J O U Y aa
 ab ac ae ah ai aj ak al am ao aq au aw ax ay I az bc a6 a7 a8 bd bg bh bi ba bb r3 q3 N)):wi E Q N0 n1 J O U Y aa ab ac ae ah ai aj ak al am ao aq au aw ax ay I az bc a6 a7 a8 bd bg bh bi ba bb r3 q3 N:=
  zBH (H:=zk) (by kernel_rfl) h
theorem zAs (E:Env) (Q:QT [Sh.pk,(Sh.int IntKind.i64),Sh.str,Sh.str,(Sh.int IntKind.i64),Sh.dc,Sh.dc,Sh.dc,Sh.dc,(Sh.row (OfNat.ofNat 29) 9),(Sh.sl 0),(Sh.int IntKind.i64),(Sh.int IntKind.i64)]) (N0:Nat) (n1:Int) (J:Option Addr) (O:List D) (U:Nat) (Y aa ab:Int) (ac ae:ByteArray) (ah ai:Int) (aj:Option Addr) (ak:List D) (al:Nat) (am:Int) (ao:Option Addr) (aq:List D) (au:Nat) (aw:Option Addr) (ax:List D) (ay:Nat) (I:Int) (az bg:ByteArray) (a6 a7:Int) (a8:Option Addr) (ba:List D) (bb:Nat) (bh:Int) (bi:Option Addr) (bj:List D) (bm bc bd:Nat) (r3:List D) (q3:Nat) (N:Nat) (h :
Br (I==9) (cP [D.lit (.string (bytes [122])),D.lit (.string (bytes [119]))] 54 9 2 J O U Y aa N (λs a b c n d _ _ _ e=>
 cA 2 91 [.int .i64 2] a b c n d e (λx a b c d e f=>wb E Q N0 n1 a b c d e ab ac ae ah ai aj ak
 al am ao aq au aw ax ay I az s a6 a7 a8 ba bb (x.cell 0) (x.cell 1) bc bd r3 q3 f))) (wq E Q N0 n1 J O
 U Y aa ab ac ae ah ai aj ak al am ao aq au aw ax ay I az bg a6 a7 a8 ba bb bh bi bj bm bc bd
 r3 q3 N)):wv E Q N0 n1 J O U Y aa ab ac ae ah ai aj ak al am ao aq au aw ax ay I az bg a6 a7 a8 ba bb bh bi bj bm bc bd r3 q3 N:=
  zBH (H:=zk) (by kernel_rfl) h
theorem zEG (E:Env) (Q:QT [Sh.pk,(Sh.int IntKind.i64),Sh.str,Sh.str,(Sh.int IntKind.i64),Sh.dc,Sh.dc,Sh.dc,Sh.dc,(Sh.row (OfNat.ofNat 29) 9),(Sh.sl 0),(Sh.int IntKind.i64),(Sh.int IntKind.i64)]) (N0:Nat) (n1:Int) (a0_0:Option Addr) (e0_0:List D) (c0_0:Nat) (n0_1 n0_2 n1_0:Int) (s1_1 s1_2:ByteArray) (n1_3 n1_4:Int) (a1_5:Option Addr) (e1_5:List D) (c1_5:Nat) (n1_6:Int) (a1_7:Option Addr) (e1_7:List D) (c1_7:Nat) (a1_8:Option Addr) (e1_8:List D) (c1_8:Nat) (n2_0:Int) (s2_1 s2_2:ByteArray) (n2_3:Int) (x2_4 x2_5 x2_6 x2_7:D) (m2_8 c2_8:Nat) (r3:List D) (q3:Nat) (N:Nat) (h :
(m2_8=r3.length/\c2_8=q3)/\∀ a,ApA a r3->∀ b,N<=b->wQ b [a]->ACalls prog 72 [.int .i64] [.dg 9 (D.ag [D.lit (.int .i64 n2_0),D.lit
 (.string s2_1),D.lit (.string s2_2),D.lit (.int .i64 n2_3),x2_4,x2_5,x2_6,x2_7,D.sl a 9 r3 c2_8])] b (fun n a=>b<=a->wk E Q N0 n1 n
 0 a0_0 e0_0 c0_0 n0_1 n0_2 n1_0 s1_1 s1_2 n1_3 n1_4 a1_5 e1_5 c1_5 n1_6 a1_7 e1_7 c1_7 a1_8 e1_8 c1_8 n2_0 s2_1 s2_2 n2_3 x2_4 x2_5 x2_6 x2_7 m2_8 c2_8 r3 q3
 a)):uJ E Q N0 n1 a0_0 e0_0 c0_0 n0_1 n0_2 n1_0 s1_1 s1_2 n1_3 n1_4 a1_5 e1_5 c1_5 n1_6 a1_7 e1_7 c1_7 a1_8 e1_8 c1_8 n2_0 s2_1 s2_2 n2_3 x2_4 x2_5 x2_6 x2_7 m2_8 c2_8 r3 q3 N:=
  zBH (H:=zk) (by kernel_rfl) h
theorem zAz (E:Env) (Q:QT [Sh.pk,(Sh.int IntKind.i64),Sh.str,Sh.str,(Sh.int IntKind.i64),Sh.dc,Sh.dc,Sh.dc,Sh.dc,(Sh.row (OfNat.ofNat 29) 9),(Sh.sl 0),(Sh.int IntKind.i64),(Sh.int IntKind.i64)]) (N0:Nat) (n1:Int) (a0_0:Option Addr) (e0_0:List D) (c0_0:Nat) (n0_1 n0_2 n1_0:Int) (s1_1 s1_2:ByteArray) (n1_3 n1_4:Int) (a1_5:Option Addr) (e1_5:List D) (c1_5:Nat) (n1_6:Int) (a1_7:Option Addr) (e1_7:List D) (c1_7:Nat) (a1_8:Option Addr) (e1_8:List D) (c1_8:Nat) (n2_0:Int) (s2_1 s2_2:ByteArray) (n2_3:Int) (x2_4 x2_5:D) (n2_6:Int) (a2_7:Option Addr) (e2_7:List D) (c2_7 m2_8 c2_8:Nat) (r3:List D) (q3:Nat) (N:Nat) (h :
(m2_8=r3.length/\c2_8=q3)/\∀ a,ApA a r3->∀ b,N<=b->wQ b [a]->ACalls prog 72 [.int .i64] [.dg 9 (D.ag [D.lit (.int .i64 n2_0),D.lit
 (.string s2_1),D.lit (.string s2_2),D.lit (.int .i64 n2_3),x2_4,x2_5,D.lit (.int .i64 n2_6),D.sl a2_7 2 e2_7 c2_7,D.sl a 9 r3 c2_8])] b (fun n a=>b
 <= a->xO E Q N0 n1 n 0 a0_0 e0_0 c0_0 n0_1 n0_2 n1_0 s1_1 s1_2 n1_3 n1_4 a1_5 e1_5 c1_5 n1_6 a1_7 e1_7 c1_7 a1_8 e1_8 c1_8 n2_0 s2_1 s2_2 n2_3
 x2_4 x2_5 n2_6 a2_7 e2_7 c2_7 m2_8 c2_8 r3 q3 a)):we E Q N0 n1 a0_0 e0_0 c0_0 n0_1 n0_2 n1_0 s1_1 s1_2 n1_3 n1_4 a1_5 e1_5 c1_5 n1_6 a1_7 e1_7 c1_7 a1_8 e1_8 c1_8 n2_0 s2_1 s2_2 n2_3 x2_4 x2_5 n2_6 a2_7 e2_7 c2_7 m2_8 c2_8 r3 q3 N:=
  zBH (H:=zk) (by kernel_rfl) h
theorem zAe (E:Env) (Q:QT [Sh.pk,(Sh.int IntKind.i64),Sh.str,Sh.str,(Sh.int IntKind.i64),Sh.dc,Sh.dc,Sh.dc,Sh.dc,(Sh.row (OfNat.ofNat 29) 9),(Sh.sl 0),(Sh.int IntKind.i64),(Sh.int IntKind.i64)]) (N0:Nat) (n1:Int) (a0_0:Option Addr) (e0_0:List D) (c0_0:Nat) (n0_1 n0_2 n1_0:Int) (s1_1 s1_2:ByteArray) (n1_3 n1_4:Int) (a1_5:Option Addr) (e1_5:List D) (c1_5:Nat) (n1_6:Int) (a1_7:Option Addr) (e1_7:List D) (c1_7:Nat) (a1_8:Option Addr) (e1_8:List D) (c1_8:Nat) (n2_0:Int) (s2_1 s2_2:ByteArray) (n2_3 n2_4:Int) (a2_5:Option Addr) (e2_5:List D) (c2_5:Nat) (x2_6 x2_7:D) (m2_8 c2_8:Nat) (r3:List D) (q3:Nat) (N:Nat) (h :
(m2_8=r3.length/\c2_8=q3)/\∀ a,ApA a r3->∀ b,N<=b->wQ b [a]->ACalls prog 72 [.int .i64] [.dg 9 (D.ag [D.lit (.int .i64 n2_0),D.lit
 (.string s2_1),D.lit (.string s2_2),D.lit (.int .i64 n2_3),D.lit (.int .i64 n2_4),D.sl a2_5 2 e2_5 c2_5,x2_6,x2_7,D.sl a 9 r3 c2_8])] b (fun n a=>b
 <= a->xJ E Q N0 n1 n 0 a0_0 e0_0 c0_0 n0_1 n0_2 n1_0 s1_1 s1_2 n1_3 n1_4 a1_5 e1_5 c1_5 n1_6 a1_7 e1_7 c1_7 a1_8 e1_8 c1_8 n2_0 s2_1 s2_2 n2_3
 n2_4 a2_5 e2_5 c2_5 x2_6 x2_7 m2_8 c2_8 r3 q3 a)):wb E Q N0 n1 a0_0 e0_0 c0_0 n0_1 n0_2 n1_0 s1_1 s1_2 n1_3 n1_4 a1_5 e1_5 c1_5 n1_6 a1_7 e1_7 c1_7 a1_8 e1_8 c1_8 n2_0 s2_1 s2_2 n2_3 n2_4 a2_5 e2_5 c2_5 x2_6 x2_7 m2_8 c2_8 r3 q3 N:=
  zBH (H:=zk) (by kernel_rfl) h
theorem zA9 (E:Env) (Q:QT [Sh.pk,(Sh.int IntKind.i64),Sh.str,Sh.str,(Sh.int IntKind.i64),Sh.dc,Sh.dc,Sh.dc,Sh.dc,(Sh.row (OfNat.ofNat 29) 9),(Sh.sl 0),(Sh.int IntKind.i64),(Sh.int IntKind.i64)]) (N0:Nat) (n1:Int) (a0_0:Option Addr) (e0_0:List D) (c0_0:Nat) (n0_1 n0_2 n1_0:Int) (s1_1 s1_2:ByteArray) (n1_3 n1_4:Int) (a1_5:Option Addr) (e1_5:List D) (c1_5:Nat) (n1_6:Int) (a1_7:Option Addr) (e1_7:List D) (c1_7:Nat) (a1_8:Option Addr) (e1_8:List D) (c1_8:Nat) (n2_0:Int) (s2_1 s2_2:ByteArray) (n2_3 n2_4:Int) (a2_5:Option Addr) (e2_5:List D) (c2_5:Nat) (n2_6:Int) (a2_7:Option Addr) (e2_7:List D) (c2_7 m2_8 c2_8:Nat) (r3:List D) (q3:Nat) (N:Nat) (h :
(m2_8=r3.length/\c2_8=q3)/\∀ a,ApA a r3->∀ b,N<=b->wQ b [a]->ACalls prog 72 [.int .i64] [.dg 9 (D.ag [D.lit (.int .i64 n2_0),D.lit
 (.string s2_1),D.lit (.string s2_2),D.lit (.int .i64 n2_3),D.lit (.int .i64 n2_4),D.sl a2_5 2 e2_5 c2_5,D.lit (.int .i64 n2_6),D.sl a2_7 2 e2_7 c2_7,D.sl
 a 9 r3 c2_8])] b (fun n a=>b<=a->xK E Q N0 n1 n 0 a0_0 e0_0 c0_0 n0_1 n0_2 n1_0 s1_1 s1_2 n1_3 n1_4 a1_5 e1_5 c1_5 n1_6 a1_7 e1_7 c1_7
 a1_8 e1_8 c1_8 n2_0 s2_1 s2_2 n2_3 n2_4 a2_5 e2_5 c2_5 n2_6 a2_7 e2_7 c2_7 m2_8 c2_8 r3 q3 a)):wq E Q N0 n1 a0_0 e0_0 c0_0 n0_1 n0_2 n1_0 s1_1 s1_2 n1_3 n1_4 a1_5 e1_5 c1_5 n1_6 a1_7 e1_7 c1_7 a1_8 e1_8 c1_8 n2_0 s2_1 s2_2 n2_3 n2_4 a2_5 e2_5 c2_5 n2_6 a2_7 e2_7 c2_7 m2_8 c2_8 r3 q3 N:=
  zBH (H:=zk) (by kernel_rfl) h
theorem rT (E:Env) (Q:QT [Sh.pk,(Sh.int IntKind.i64),Sh.str,Sh.str,(Sh.int IntKind.i64),Sh.dc,Sh.dc,Sh.dc,Sh.dc,(Sh.row (OfNat.ofNat 29) 9),(Sh.sl 0),(Sh.int IntKind.i64),(Sh.int IntKind.i64)]) (N0:Nat) (n1 n6 n7:Int) (aa:Option Addr) (ab:List D) (ac:Nat) (ae ah ao:Int) (aq au:ByteArray) (aw ax:Int) (ay:Option Addr) (az:List D) (a6:Nat) (a7:Int) (a8:Option Addr) (ba:List D) (bb:Nat) (bc:Option Addr) (bd:List D) (bg:Nat) (ai:Int) (aj ak:ByteArray) (al:Int) (I J O U:D) (am Y:Nat) (r3:List D) (q3:Nat) (N:Nat) (h :
Br (decide (n7<n6)) (∀ b,N<=b->BCalls prog 52 [Sh.pk,.int .i64,.str,.str,.int .i64,Sh.dc,Sh.dc,Sh.dc,Sh.dc,.row (OfNat.ofNat 29) 9,.sl 0,
 .int .i64,.int .i64] [.pb 0 0 0 0,.int .i64 (IntKind.i64.wrap (n1 - 1))] [Bx.var [.sv aa 0 ab ac,.int .i64 ae,.int .i64 ah]] b (λn s a c x
 d e f g h i j k l m o=>b<=o->Bel o (D.sl i 0 j k)->Bel o (D.ag g)->(g.length=g.length/\h=h)/\∀ b p,o<=p->Fresh
 N0 p b [D.ag g,x,d,e,f,I,J,O,U,D.ag r3]->(am=r3.length/\Y=q3)/\zB r3 [D.ag [D.lit (.int .i64 n),D.lit (.string
 s),D.lit (.string a),D.lit (.int .i64 c),x,d,e,f,D.sl b 9 g h]] 136/\∀ (o:Nat),wk E Q N0 n1 n6 (IntKind.i64.wrap (n7 +
 1)) i j k l m ao aq au aw ax ay az a6 a7 a8 ba bb bc bd bg ai aj ak al I J O U (r3++[D.ag [D.lit
 (.int .i64 n),D.lit (.string s),D.lit (.string a),D.lit (.int .i64 c),x,d,e,f,D.sl b 9 g h]]).length o (r3++[D.ag [D.lit (.int .i64 n),
 D.lit (.string s),D.lit (.string a),D.lit (.int .i64 c),x,d,e,f,D.sl b 9 g h]]) o p)) (xp E/\(am=r3.length/\Y=q3)/\uP N (Q
 ai aj ak al I J O U r3 Y aa ab ac ae ah))):wk E Q N0 n1 n6 n7 aa ab ac ae ah ao aq au aw ax ay az a6 a7 a8 ba bb bc bd bg ai aj ak al I J O U am Y r3 q3 N:=
  zBH (H:=zk) (by kernel_rfl) h
theorem uy (E:Env) (Q:QT [Sh.pk,(Sh.int IntKind.i64),Sh.str,Sh.str,(Sh.int IntKind.i64),Sh.dc,Sh.dc,Sh.dc,Sh.dc,(Sh.row (OfNat.ofNat 29) 9),(Sh.sl 0),(Sh.int IntKind.i64),(Sh.int IntKind.i64)]) (N0:Nat) (n1 n6 n7:Int) (ab:Option Addr) (ac:List D) (ae:Nat) (ah ai au:Int) (aw ax:ByteArray) (ay az:Int) (a6:Option Addr) (a7:List D) (a8:Nat) (ba:Int) (bb:Option Addr) (bc:List D) (bd:Nat) (bg:Option Addr) (bh:List D) (bi:Nat) (aj:Int) (ak al:ByteArray) (am:Int) (I J:D) (ao:Int) (O:Option Addr) (U:List D) (Y aq aa:Nat) (r3:List D) (q3:Nat) (N:Nat) (h :
Br (decide (n7<n6)) (∀ b,N<=b->BCalls prog 52 [Sh.pk,.int .i64,.str,.str,.int .i64,Sh.dc,Sh.dc,Sh.dc,Sh.dc,.row (OfNat.ofNat 29) 9,.sl 0,
 .int .i64,.int .i64] [.pb 0 0 0 0,.int .i64 (IntKind.i64.wrap (n1 - 1))] [Bx.var [.sv ab 0 ac ae,.int .i64 ah,.int .i64 ai]] b (λn s a c x
 d e f g h i j k l m o=>b<=o->Bel o (D.sl i 0 j k)->Bel o (D.ag g)->(g.length=g.length/\h=h)/\∀ b p,o<=p->Fresh
 N0 p b [D.ag g,x,d,e,f,I,J,D.sl O 2 U Y,D.ag r3]->(aq=r3.length/\aa=q3)/\zB r3 [D.ag [D.lit (.int .i64 n),
 D.lit (.string s),D.lit (.string a),D.lit (.int .i64 c),x,d,e,f,D.sl b 9 g h]] 136/\∀ (o:Nat),xO E Q N0 n1 n6
 (IntKind.i64.wrap (n7+1)) i j k l m au aw ax ay az a6 a7 a8 ba bb bc bd bg bh bi aj ak al am I J ao
 O U Y (r3++[D.ag [D.lit (.int .i64 n),D.lit (.string s),D.lit (.string a),D.lit (.int .i64 c),x,d,e,f,D.sl b 9 g h]]).length o
 (r3++[D.ag [D.lit (.int .i64 n),D.lit (.string s),D.lit (.string a),D.lit (.int .i64 c),x,d,e,f,D.sl b 9 g h]]) o p)) (xp E/\(aq
 = r3.length/\aa=q3)/\uP N (Q aj ak al am I J (D.lit (.int .i64 ao)) (D.sl O 2 U Y) r3 aa ab ac ae ah ai))):xO E Q N0 n1 n6 n7 ab ac ae ah ai au aw ax ay az a6 a7 a8 ba bb bc bd bg bh bi aj ak al am I J ao O U Y aq aa r3 q3 N:=
  zBH (H:=zk) (by kernel_rfl) h
theorem u5 (E:Env) (Q:QT [Sh.pk,(Sh.int IntKind.i64),Sh.str,Sh.str,(Sh.int IntKind.i64),Sh.dc,Sh.dc,Sh.dc,Sh.dc,(Sh.row (OfNat.ofNat 29) 9),(Sh.sl 0),(Sh.int IntKind.i64),(Sh.int IntKind.i64)]) (N0:Nat) (n1 n6 n7:Int) (ab:Option Addr) (ac:List D) (ae:Nat) (ah ai au:Int) (aw ax:ByteArray) (ay az:Int) (a6:Option Addr) (a7:List D) (a8:Nat) (ba:Int) (bb:Option Addr) (bc:List D) (bd:Nat) (bg:Option Addr) (bh:List D) (bi:Nat) (aj:Int) (ak al:ByteArray) (am ao:Int) (I:Option Addr) (J:List D) (O:Nat) (U Y:D) (aq aa:Nat) (r3:List D) (q3:Nat) (N:Nat) (h :
Br (decide (n7<n6)) (∀ b,N<=b->BCalls prog 52 [Sh.pk,.int .i64,.str,.str,.int .i64,Sh.dc,Sh.dc,Sh.dc,Sh.dc,.row (OfNat.ofNat 29) 9,.sl 0,
 .int .i64,.int .i64] [.pb 0 0 0 0,.int .i64 (IntKind.i64.wrap (n1 - 1))] [Bx.var [.sv ab 0 ac ae,.int .i64 ah,.int .i64 ai]] b (λn s a c x
 d e f g h i j k l m o=>b<=o->Bel o (D.sl i 0 j k)->Bel o (D.ag g)->(g.length=g.length/\h=h)/\∀ b p,o<=p->Fresh
 N0 p b [D.ag g,x,d,e,f,D.sl I 2 J O,U,Y,D.ag r3]->(aq=r3.length/\aa=q3)/\zB r3 [D.ag [D.lit (.int .i64 n),
 D.lit (.string s),D.lit (.string a),D.lit (.int .i64 c),x,d,e,f,D.sl b 9 g h]] 136/\∀ (o:Nat),xJ E Q N0 n1 n6
 (IntKind.i64.wrap (n7+1)) i j k l m au aw ax ay az a6 a7 a8 ba bb bc bd bg bh bi aj ak al am ao I J
 O U Y (r3++[D.ag [D.lit (.int .i64 n),D.lit (.string s),D.lit (.string a),D.lit (.int .i64 c),x,d,e,f,D.sl b 9 g h]]).length o
 (r3++[D.ag [D.lit (.int .i64 n),D.lit (.string s),D.lit (.string a),D.lit (.int .i64 c),x,d,e,f,D.sl b 9 g h]]) o p)) (xp E/\(aq
 = r3.length/\aa=q3)/\uP N (Q aj ak al am (D.lit (.int .i64 ao)) (D.sl I 2 J O) U Y r3 aa ab ac ae ah ai))):xJ E Q N0 n1 n6 n7 ab ac ae ah ai au aw ax ay az a6 a7 a8 ba bb bc bd bg bh bi aj ak al am ao I J O U Y aq aa r3 q3 N:=
  zBH (H:=zk) (by kernel_rfl) h
theorem u3 (E:Env) (Q:QT [Sh.pk,(Sh.int IntKind.i64),Sh.str,Sh.str,(Sh.int IntKind.i64),Sh.dc,Sh.dc,Sh.dc,Sh.dc,(Sh.row (OfNat.ofNat 29) 9),(Sh.sl 0),(Sh.int IntKind.i64),(Sh.int IntKind.i64)]) (N0:Nat) (n1 n6 n7:Int) (ac:Option Addr) (ae:List D) (ah:Nat) (ai aj ax:Int) (ay az:ByteArray) (a6 a7:Int) (a8:Option Addr) (ba:List D) (bb:Nat) (bc:Int) (bd:Option Addr) (bg:List D) (bh:Nat) (bi:Option Addr) (bj:List D) (bm:Nat) (ak:Int) (al am:ByteArray) (ao aq:Int) (I:Option Addr) (J:List D) (O:Nat) (au:Int) (U:Option Addr) (Y:List D) (aa aw ab:Nat) (r3:List D) (q3:Nat) (N:Nat) (h :
Br (decide (n7<n6)) (∀ b,N<=b->BCalls prog 52 [Sh.pk,.int .i64,.str,.str,.int .i64,Sh.dc,Sh.dc,Sh.dc,Sh.dc,.row (OfNat.ofNat 29) 9,.sl 0,
 .int .i64,.int .i64] [.pb 0 0 0 0,.int .i64 (IntKind.i64.wrap (n1 - 1))] [Bx.var [.sv ac 0 ae ah,.int .i64 ai,.int .i64 aj]] b (λn s a c x
 d e f g h i j k l m o=>b<=o->Bel o (D.sl i 0 j k)->Bel o (D.ag g)->(g.length=g.length/\h=h)/\∀ b p,o<=p->Fresh
 N0 p b [D.ag g,x,d,e,f,D.sl I 2 J O,D.sl U 2 Y aa,D.ag r3]->(aw=r3.length/\ab=q3)/\zB r3 [D.ag [D.lit (.int
 .i64 n),D.lit (.string s),D.lit (.string a),D.lit (.int .i64 c),x,d,e,f,D.sl b 9 g h]] 136/\∀ (o:Nat),xK E Q N0 n1 n6
 (IntKind.i64.wrap (n7+1)) i j k l m ax ay az a6 a7 a8 ba bb bc bd bg bh bi bj bm ak al am ao aq I J
 O au U Y aa (r3++[D.ag [D.lit (.int .i64 n),D.lit (.string s),D.lit (.string a),D.lit (.int .i64 c),x,d,e,f,D.sl b 9 g
 h]]).length o (r3++[D.ag [D.lit (.int .i64 n),D.lit (.string s),D.lit (.string a),D.lit (.int .i64 c),x,d,e,f,D.sl b 9 g h]]) o p))
 (xp E/\(aw=r3.length/\ab=q3)/\uP N (Q ak al am ao (D.lit (.int .i64 aq)) (D.sl I 2 J O) (D.lit (.int .i64 au)) (D.sl U 2
 Y aa) r3 ab ac ae ah ai aj))):xK E Q N0 n1 n6 n7 ac ae ah ai aj ax ay az a6 a7 a8 ba bb bc bd bg bh bi bj bm ak al am ao aq I J O au U Y aa aw ab r3 q3 N:=
  zBH (H:=zk) (by kernel_rfl) h
end Go.Proofs.YtfajiphkncipoaaGreatDoor
