/- Printed by gen.py: what the functions come to. -/
import Derived.Test.YtfajiphkncipoaaGreatDoorJh
set_option linter.unusedVariables false
set_option maxRecDepth 100000
namespace Go.Proofs.YtfajiphkncipoaaGreatDoor
open Go Go.Proofs Go.Proofs.Tryz
def shA:FuncId->List Sh:=λf=>match zLL f [(120,[.pk,.int .i64,.str,.str,.int .i64,.dc,.dc,.dc,.dc,.row 29 9]),(121,[.pk,.int .i64,.str,.str,.int .i64,.dc,.dc,.dc,.dc,.row 29 9]),(55,[.pk,.int .i64,.str,.str,.int .i64,.dc,.dc,.dc,.dc,.row 29 9]),(90,[.row 0 1000007,.pk,.int .i64,.str,.str,.int .i64,.dc,.dc,.dc,.dc,.row 29 9]),(52,[.row 0 1000007,.pk,.int .i64,.str,.str,.int .i64,.dc,.dc,.dc,.dc,.row 29 9])] with
 | []=>sh f
 | l=>l
theorem zRu {f:FuncId} {rs:List Sh} {Q:QT rs} {N:Nat} (H:Hint) {args:List PV} {F:Prop} (h:F) (hc:xG prog f=true:=by kernel_rfl) (I:F=zGj prog shA f rs Q N H 400 args:=by kernel_rfl):ACalls prog f rs args N Q:=zNI mixed hc I h
theorem zOI {f:FuncId} {full:List Sh} {Q:QT full} {N:Nat} (H:Hint) {args:List PV} {bx:List Bx} {F:Env->Prop} (h:∀ E,F E) (hc:xG prog f=true:=by kernel_rfl) (I:∀ E,F E=zF6 prog shA f full Q N H 400 args bx E:=by intro E;kernel_rfl):BCalls prog f full args bx N Q:=zKM mixed hc I h
theorem zBP {f:FuncId} {rs:List Sh} {Q:QT rs} {N0:Nat} {M:Mode} (H:Hint) {I:List Item} {st:St} {F:Prop} (h:F) (J:F=zBn st λst=>W prog shA f rs Q N0 M H 400 true I st:=by kernel_rfl):AT prog f rs Q N0 M I st:=zRy mixed J h
def zHC:Hint:=⟨[],[],[(4,hs 6 [ec 4 [21]]),(6,[en 0,en 1,en 2,en 3,eh 4,ec 5 [27,31],eh 6])]⟩
def zn:Hint:=⟨[hc 18 [0,1,4,5,6,7] [] [(5,8,29,9)]],[hc 11 [0,1,4,5] [] [(5,8,29,9)],hc 13 [0,1,4,5] [] [(5,8,29,9)],hc 16 [0,1,4,5] [] [(5,8,29,9)]],[(20,[en 0,en 1,en 2,en 3,en 4,eh 5,{ i:=6,hard:=true,cl:=[69],fs:=[5,69] },eh 7,en 8,eh 9])]⟩
def sD:Hint:=⟨[hc 10 [2,3,4,5],hc 15 [2,3,6]],[],[(6,[en 0,en 1,eh 2,en 3,eh 4,en 5,eh 6]),(12,hs 3 [ec 1 [34]]),(17,hs 4 [ec 2 [42,43]])]⟩
def zHc:Hint:=⟨[],[],[(10,[en 0,en 1,eh 2,{ i:=3,hard:=true,cl:=[32],fs:=[3,32] },eh 4,en 5,eh 6])]⟩
def yD (E:Env) (Q:QT [.pk,.i,.str,.str,.i,.dc,.dc,.dc,.dc,.row 29 9,.sl 0,.i,.i]) (N0:Nat) (n1:Int) (I:Option Addr) (J:List D) (O:Nat) (U Y aa:Int) (ab ac:ByteArray) (ae ah:Int) (ai:Option Addr) (aj:List D) (ak:Nat) (al:Int) (am:Option Addr) (ao:List D) (aq:Nat) (au:Option Addr) (aw:List D) (ax:Nat) (ay:Int) (az a1:ByteArray) (a6 a7:Int) (a8:Option Addr) (ba:List D) (bb:Nat) (bc:Int) (bd:Option Addr) (bg:List D) (bh bi bj:Nat) (r3:List D) (q3:Nat) (N:Nat):Prop:=AT prog 52 [.pk,.i,.str,.str,.i,.dc,.dc,.dc,.dc,.row 29 9,.sl 0,.i,.i] Q N0 (.io E [.var [.sv none 0 [] 0,.int .i64 0,.int .i64 0]]) (zAE prog 52 11) ⟨.pb 0 0 0 0::.int .i64 n1::an 2 (.pb 1 0 0 0::.pb 2 0 0 0::an 68 []),[.var [.sv I 0 J O,.int .i64 U,.int .i64 Y],.var [.int .i64 aa,.str ab,.str ac,.int .i64 ae,.int .i64 ah,.sv ai 2 aj ak,.int .i64 al,.sv am 2 ao aq,.sv au 9 aw ax],.var [.int .i64 ay,.str az,.str a1,.int .i64 a6,.int .i64 a7,.sv a8 2 ba bb,.int .i64 bc,.sv bd 2 bg bh,.sb 3 9 0 bi bj],.arr 29 9 r3 q3],N,some (yr E 0 [.var [.sv none 0 [] 0,.int .i64 0,.int .i64 0]],[])⟩
def wI (E:Env) (Q:QT [.ag 2,.sl 0,.i,.i]) (N0:Nat) (n4 n5:Int) (I:Option Addr) (J:List D) (O:Nat) (U Y aa:Int) (ab:Option Addr) (ac:List D) (ae:Nat) (y2:D) (N:Nat):Prop:=AT prog 56 [.ag 2,.sl 0,.i,.i] Q N0 (.io E [.var [.sv none 0 [] 0,.int .i64 0,.int .i64 0]]) (zD prog 56 10) ⟨an 2 (.pb 1 0 0 0::.pb 2 0 0 0::.int .i64 n4::.int .i64 n5::an 40 []),[.var [.sv I 0 J O,.int .i64 U,.int .i64 Y],.var [.int .i64 aa,.sv ab 2 ac ae],.vd y2 2],N,some (yr E 0 [.var [.sv none 0 [] 0,.int .i64 0,.int .i64 0]],[])⟩
def wE (E:Env) (Q:QT [.ag 2,.sl 0,.i,.i]) (N0:Nat) (n6:Int) (I:Option Addr) (J:List D) (O:Nat) (U Y aa:Int) (ab:Option Addr) (ac:List D) (ae:Nat) (y2:D) (N:Nat):Prop:=AT prog 56 [.ag 2,.sl 0,.i,.i] Q N0 (.io E [.var [.sv none 0 [] 0,.int .i64 0,.int .i64 0]]) (zD prog 56 15) ⟨an 2 (.pb 1 0 0 0::.pb 2 0 0 0::an 2 (.int .i64 n6::an 39 [])),[.var [.sv I 0 J O,.int .i64 U,.int .i64 Y],.var [.int .i64 aa,.sv ab 2 ac ae],.vd y2 2],N,some (yr E 0 [.var [.sv none 0 [] 0,.int .i64 0,.int .i64 0]],[])⟩
def wm (E:Env) (Q:QT [.pk,.i,.str,.str,.i,.dc,.dc,.dc,.dc,.row 29 9,.sl 0,.i,.i]) (N0:Nat) (n1:Int) (I:Option Addr) (J:List D) (O:Nat) (U Y aa:Int) (ab ac:ByteArray) (ae ah:Int) (ai:Option Addr) (aj:List D) (ak:Nat) (al:Int) (am:Option Addr) (ao:List D) (aq:Nat) (au:Option Addr) (aw:List D) (ax:Nat) (ay:Int) (az a1:ByteArray) (a6:Int) (a7 a8:D) (ba:Int) (bb:Option Addr) (bc:List D) (bd bg bh:Nat) (r3:List D) (q3:Nat) (N:Nat):Prop:=AT prog 52 [.pk,.i,.str,.str,.i,.dc,.dc,.dc,.dc,.row 29 9,.sl 0,.i,.i] Q N0 (.io E [.var [.sv none 0 [] 0,.int .i64 0,.int .i64 0]]) (zAE prog 52 13) ⟨.pb 0 0 0 0::.int .i64 n1::an 2 (.pb 1 0 0 0::.pb 2 0 0 0::an 68 []),[.var [.sv I 0 J O,.int .i64 U,.int .i64 Y],.var [.int .i64 aa,.str ab,.str ac,.int .i64 ae,.int .i64 ah,.sv ai 2 aj ak,.int .i64 al,.sv am 2 ao aq,.sv au 9 aw ax],.var [.int .i64 ay,.str az,.str a1,.int .i64 a6,.dc a7,.dc a8,.int .i64 ba,.sv bb 2 bc bd,.sb 3 9 0 bg bh],.arr 29 9 r3 q3],N,some (yr E 0 [.var [.sv none 0 [] 0,.int .i64 0,.int .i64 0]],[])⟩
def wz (E:Env) (Q:QT [.pk,.i,.str,.str,.i,.dc,.dc,.dc,.dc,.row 29 9,.sl 0,.i,.i]) (N0:Nat) (n1:Int) (I:Option Addr) (J:List D) (O:Nat) (U Y aa:Int) (ab ac:ByteArray) (ae ah:Int) (ai:Option Addr) (aj:List D) (ak:Nat) (al:Int) (am:Option Addr) (ao:List D) (aq:Nat) (au:Option Addr) (aw:List D) (ax:Nat) (ay:Int) (az a1:ByteArray) (a6 a7:Int) (a8:Option Addr) (ba:List D) (bb:Nat) (bc:Int) (bd:Option Addr) (bg:List D) (bh bi bj:Nat) (r3:List D) (q3:Nat) (N:Nat):Prop:=AT prog 52 [.pk,.i,.str,.str,.i,.dc,.dc,.dc,.dc,.row 29 9,.sl 0,.i,.i] Q N0 (.io E [.var [.sv none 0 [] 0,.int .i64 0,.int .i64 0]]) (zAE prog 52 13) ⟨.pb 0 0 0 0::.int .i64 n1::an 2 (.pb 1 0 0 0::.pb 2 0 0 0::an 68 []),[.var [.sv I 0 J O,.int .i64 U,.int .i64 Y],.var [.int .i64 aa,.str ab,.str ac,.int .i64 ae,.int .i64 ah,.sv ai 2 aj ak,.int .i64 al,.sv am 2 ao aq,.sv au 9 aw ax],.var [.int .i64 ay,.str az,.str a1,.int .i64 a6,.int .i64 a7,.sv a8 2 ba bb,.int .i64 bc,.sv bd 2 bg bh,.sb 3 9 0 bi bj],.arr 29 9 r3 q3],N,some (yr E 0 [.var [.sv none 0 [] 0,.int .i64 0,.int .i64 0]],[])⟩
def uS (E:Env) (Q:QT [.pk,.i,.str,.str,.i,.dc,.dc,.dc,.dc,.row 29 9,.sl 0,.i,.i]) (N0:Nat) (n1:Int) (I:Option Addr) (J:List D) (O:Nat) (U Y aa:Int) (ab ac:ByteArray) (ae ah:Int) (ai:Option Addr) (aj:List D) (ak:Nat) (al:Int) (am:Option Addr) (ao:List D) (aq:Nat) (au:Option Addr) (aw:List D) (ax:Nat) (ay:Int) (az a1:ByteArray) (a6:Int) (a7 a8 ba bb:D) (bc bd:Nat) (r3:List D) (q3:Nat) (N:Nat):Prop:=AT prog 52 [.pk,.i,.str,.str,.i,.dc,.dc,.dc,.dc,.row 29 9,.sl 0,.i,.i] Q N0 (.io E [.var [.sv none 0 [] 0,.int .i64 0,.int .i64 0]]) (zAE prog 52 16) ⟨.pb 0 0 0 0::.int .i64 n1::an 2 (.pb 1 0 0 0::.pb 2 0 0 0::an 68 []),[.var [.sv I 0 J O,.int .i64 U,.int .i64 Y],.var [.int .i64 aa,.str ab,.str ac,.int .i64 ae,.int .i64 ah,.sv ai 2 aj ak,.int .i64 al,.sv am 2 ao aq,.sv au 9 aw ax],.var [.int .i64 ay,.str az,.str a1,.int .i64 a6,.dc a7,.dc a8,.dc ba,.dc bb,.sb 3 9 0 bc bd],.arr 29 9 r3 q3],N,some (yr E 0 [.var [.sv none 0 [] 0,.int .i64 0,.int .i64 0]],[])⟩
def wj (E:Env) (Q:QT [.pk,.i,.str,.str,.i,.dc,.dc,.dc,.dc,.row 29 9,.sl 0,.i,.i]) (N0:Nat) (n1:Int) (I:Option Addr) (J:List D) (O:Nat) (U Y aa:Int) (ab ac:ByteArray) (ae ah:Int) (ai:Option Addr) (aj:List D) (ak:Nat) (al:Int) (am:Option Addr) (ao:List D) (aq:Nat) (au:Option Addr) (aw:List D) (ax:Nat) (ay:Int) (az a1:ByteArray) (a6:Int) (a7 a8:D) (ba:Int) (bb:Option Addr) (bc:List D) (bd bg bh:Nat) (r3:List D) (q3:Nat) (N:Nat):Prop:=AT prog 52 [.pk,.i,.str,.str,.i,.dc,.dc,.dc,.dc,.row 29 9,.sl 0,.i,.i] Q N0 (.io E [.var [.sv none 0 [] 0,.int .i64 0,.int .i64 0]]) (zAE prog 52 16) ⟨.pb 0 0 0 0::.int .i64 n1::an 2 (.pb 1 0 0 0::.pb 2 0 0 0::an 68 []),[.var [.sv I 0 J O,.int .i64 U,.int .i64 Y],.var [.int .i64 aa,.str ab,.str ac,.int .i64 ae,.int .i64 ah,.sv ai 2 aj ak,.int .i64 al,.sv am 2 ao aq,.sv au 9 aw ax],.var [.int .i64 ay,.str az,.str a1,.int .i64 a6,.dc a7,.dc a8,.int .i64 ba,.sv bb 2 bc bd,.sb 3 9 0 bg bh],.arr 29 9 r3 q3],N,some (yr E 0 [.var [.sv none 0 [] 0,.int .i64 0,.int .i64 0]],[])⟩
def wg (E:Env) (Q:QT [.pk,.i,.str,.str,.i,.dc,.dc,.dc,.dc,.row 29 9,.sl 0,.i,.i]) (N0:Nat) (n1:Int) (I:Option Addr) (J:List D) (O:Nat) (U Y aa:Int) (ab ac:ByteArray) (ae ah:Int) (ai:Option Addr) (aj:List D) (ak:Nat) (al:Int) (am:Option Addr) (ao:List D) (aq:Nat) (au:Option Addr) (aw:List D) (ax:Nat) (ay:Int) (az a1:ByteArray) (a6 a7:Int) (a8:Option Addr) (ba:List D) (bb:Nat) (bc bd:D) (bg bh:Nat) (r3:List D) (q3:Nat) (N:Nat):Prop:=AT prog 52 [.pk,.i,.str,.str,.i,.dc,.dc,.dc,.dc,.row 29 9,.sl 0,.i,.i] Q N0 (.io E [.var [.sv none 0 [] 0,.int .i64 0,.int .i64 0]]) (zAE prog 52 16) ⟨.pb 0 0 0 0::.int .i64 n1::an 2 (.pb 1 0 0 0::.pb 2 0 0 0::an 68 []),[.var [.sv I 0 J O,.int .i64 U,.int .i64 Y],.var [.int .i64 aa,.str ab,.str ac,.int .i64 ae,.int .i64 ah,.sv ai 2 aj ak,.int .i64 al,.sv am 2 ao aq,.sv au 9 aw ax],.var [.int .i64 ay,.str az,.str a1,.int .i64 a6,.int .i64 a7,.sv a8 2 ba bb,.dc bc,.dc bd,.sb 3 9 0 bg bh],.arr 29 9 r3 q3],N,some (yr E 0 [.var [.sv none 0 [] 0,.int .i64 0,.int .i64 0]],[])⟩
def wu (E:Env) (Q:QT [.pk,.i,.str,.str,.i,.dc,.dc,.dc,.dc,.row 29 9,.sl 0,.i,.i]) (N0:Nat) (n1:Int) (I:Option Addr) (J:List D) (O:Nat) (U Y aa:Int) (ab ac:ByteArray) (ae ah:Int) (ai:Option Addr) (aj:List D) (ak:Nat) (al:Int) (am:Option Addr) (ao:List D) (aq:Nat) (au:Option Addr) (aw:List D) (ax:Nat) (ay:Int) (az a1:ByteArray) (a6 a7:Int) (a8:Option Addr) (ba:List D) (bb:Nat) (bc:Int) (bd:Option Addr) (bg:List D) (bh bi bj:Nat) (r3:List D) (q3:Nat) (N:Nat):Prop:=AT prog 52 [.pk,.i,.str,.str,.i,.dc,.dc,.dc,.dc,.row 29 9,.sl 0,.i,.i] Q N0 (.io E [.var [.sv none 0 [] 0,.int .i64 0,.int .i64 0]]) (zAE prog 52 16) ⟨.pb 0 0 0 0::.int .i64 n1::an 2 (.pb 1 0 0 0::.pb 2 0 0 0::an 68 []),[.var [.sv I 0 J O,.int .i64 U,.int .i64 Y],.var [.int .i64 aa,.str ab,.str ac,.int .i64 ae,.int .i64 ah,.sv ai 2 aj ak,.int .i64 al,.sv am 2 ao aq,.sv au 9 aw ax],.var [.int .i64 ay,.str az,.str a1,.int .i64 a6,.int .i64 a7,.sv a8 2 ba bb,.int .i64 bc,.sv bd 2 bg bh,.sb 3 9 0 bi bj],.arr 29 9 r3 q3],N,some (yr E 0 [.var [.sv none 0 [] 0,.int .i64 0,.int .i64 0]],[])⟩
def wn (E:Env) (Q:QT [.pk,.i,.str,.str,.i,.dc,.dc,.dc,.dc,.row 29 9,.sl 0,.i,.i]) (N0:Nat) (n1 n6 n7:Int) (I:Option Addr) (J:List D) (O:Nat) (U Y aa:Int) (ab ac:ByteArray) (ae ah:Int) (ai:Option Addr) (aj:List D) (ak:Nat) (al:Int) (am:Option Addr) (ao:List D) (aq:Nat) (au:Option Addr) (aw:List D) (ax:Nat) (ay:Int) (az a1:ByteArray) (a6:Int) (a7 a8 ba bb:D) (bc bd:Nat) (r3:List D) (q3:Nat) (N:Nat):Prop:=AT prog 52 [.pk,.i,.str,.str,.i,.dc,.dc,.dc,.dc,.row 29 9,.sl 0,.i,.i] Q N0 (.io E [.var [.sv none 0 [] 0,.int .i64 0,.int .i64 0]]) (zD prog 52 18) ⟨.pb 0 0 0 0::.int .i64 n1::an 2 (.pb 1 0 0 0::.pb 2 0 0 0::.int .i64 n6::.int .i64 n7::an 66 []),[.var [.sv I 0 J O,.int .i64 U,.int .i64 Y],.var [.int .i64 aa,.str ab,.str ac,.int .i64 ae,.int .i64 ah,.sv ai 2 aj ak,.int .i64 al,.sv am 2 ao aq,.sv au 9 aw ax],.var [.int .i64 ay,.str az,.str a1,.int .i64 a6,.dc a7,.dc a8,.dc ba,.dc bb,.sb 3 9 0 bc bd],.arr 29 9 r3 q3],N,some (yr E 0 [.var [.sv none 0 [] 0,.int .i64 0,.int .i64 0]],[])⟩
def xT (E:Env) (Q:QT [.pk,.i,.str,.str,.i,.dc,.dc,.dc,.dc,.row 29 9,.sl 0,.i,.i]) (N0:Nat) (n1 n6 n7:Int) (I:Option Addr) (J:List D) (O:Nat) (U Y aa:Int) (ab ac:ByteArray) (ae ah:Int) (ai:Option Addr) (aj:List D) (ak:Nat) (al:Int) (am:Option Addr) (ao:List D) (aq:Nat) (au:Option Addr) (aw:List D) (ax:Nat) (ay:Int) (az a1:ByteArray) (a6:Int) (a7 a8:D) (ba:Int) (bb:Option Addr) (bc:List D) (bd bg bh:Nat) (r3:List D) (q3:Nat) (N:Nat):Prop:=AT prog 52 [.pk,.i,.str,.str,.i,.dc,.dc,.dc,.dc,.row 29 9,.sl 0,.i,.i] Q N0 (.io E [.var [.sv none 0 [] 0,.int .i64 0,.int .i64 0]]) (zD prog 52 18) ⟨.pb 0 0 0 0::.int .i64 n1::an 2 (.pb 1 0 0 0::.pb 2 0 0 0::.int .i64 n6::.int .i64 n7::an 66 []),[.var [.sv I 0 J O,.int .i64 U,.int .i64 Y],.var [.int .i64 aa,.str ab,.str ac,.int .i64 ae,.int .i64 ah,.sv ai 2 aj ak,.int .i64 al,.sv am 2 ao aq,.sv au 9 aw ax],.var [.int .i64 ay,.str az,.str a1,.int .i64 a6,.dc a7,.dc a8,.int .i64 ba,.sv bb 2 bc bd,.sb 3 9 0 bg bh],.arr 29 9 r3 q3],N,some (yr E 0 [.var [.sv none 0 [] 0,.int .i64 0,.int .i64 0]],[])⟩
def xO (E:Env) (Q:QT [.pk,.i,.str,.str,.i,.dc,.dc,.dc,.dc,.row 29 9,.sl 0,.i,.i]) (N0:Nat) (n1 n6 n7:Int) (I:Option Addr) (J:List D) (O:Nat) (U Y aa:Int) (ab ac:ByteArray) (ae ah:Int) (ai:Option Addr) (aj:List D) (ak:Nat) (al:Int) (am:Option Addr) (ao:List D) (aq:Nat) (au:Option Addr) (aw:List D) (ax:Nat) (ay:Int) (az a1:ByteArray) (a6 a7:Int) (a8:Option Addr) (ba:List D) (bb:Nat) (bc bd:D) (bg bh:Nat) (r3:List D) (q3:Nat) (N:Nat):Prop:=AT prog 52 [.pk,.i,.str,.str,.i,.dc,.dc,.dc,.dc,.row 29 9,.sl 0,.i,.i] Q N0 (.io E [.var [.sv none 0 [] 0,.int .i64 0,.int .i64 0]]) (zD prog 52 18) ⟨.pb 0 0 0 0::.int .i64 n1::an 2 (.pb 1 0 0 0::.pb 2 0 0 0::.int .i64 n6::.int .i64 n7::an 66 []),[.var [.sv I 0 J O,.int .i64 U,.int .i64 Y],.var [.int .i64 aa,.str ab,.str ac,.int .i64 ae,.int .i64 ah,.sv ai 2 aj ak,.int .i64 al,.sv am 2 ao aq,.sv au 9 aw ax],.var [.int .i64 ay,.str az,.str a1,.int .i64 a6,.int .i64 a7,.sv a8 2 ba bb,.dc bc,.dc bd,.sb 3 9 0 bg bh],.arr 29 9 r3 q3],N,some (yr E 0 [.var [.sv none 0 [] 0,.int .i64 0,.int .i64 0]],[])⟩
def xP (E:Env) (Q:QT [.pk,.i,.str,.str,.i,.dc,.dc,.dc,.dc,.row 29 9,.sl 0,.i,.i]) (N0:Nat) (n1 n6 n7:Int) (I:Option Addr) (J:List D) (O:Nat) (U Y aa:Int) (ab ac:ByteArray) (ae ah:Int) (ai:Option Addr) (aj:List D) (ak:Nat) (al:Int) (am:Option Addr) (ao:List D) (aq:Nat) (au:Option Addr) (aw:List D) (ax:Nat) (ay:Int) (az a1:ByteArray) (a6 a7:Int) (a8:Option Addr) (ba:List D) (bb:Nat) (bc:Int) (bd:Option Addr) (bg:List D) (bh bi bj:Nat) (r3:List D) (q3:Nat) (N:Nat):Prop:=AT prog 52 [.pk,.i,.str,.str,.i,.dc,.dc,.dc,.dc,.row 29 9,.sl 0,.i,.i] Q N0 (.io E [.var [.sv none 0 [] 0,.int .i64 0,.int .i64 0]]) (zD prog 52 18) ⟨.pb 0 0 0 0::.int .i64 n1::an 2 (.pb 1 0 0 0::.pb 2 0 0 0::.int .i64 n6::.int .i64 n7::an 66 []),[.var [.sv I 0 J O,.int .i64 U,.int .i64 Y],.var [.int .i64 aa,.str ab,.str ac,.int .i64 ae,.int .i64 ah,.sv ai 2 aj ak,.int .i64 al,.sv am 2 ao aq,.sv au 9 aw ax],.var [.int .i64 ay,.str az,.str a1,.int .i64 a6,.int .i64 a7,.sv a8 2 ba bb,.int .i64 bc,.sv bd 2 bg bh,.sb 3 9 0 bi bj],.arr 29 9 r3 q3],N,some (yr E 0 [.var [.sv none 0 [] 0,.int .i64 0,.int .i64 0]],[])⟩
theorem zFu (N:Nat) (n0:Int) (Q:QT [.pk,.int .i64,.str,.str,.int .i64,.dc,.dc,.dc,.dc,.row 29 9]) (h :
uP N (Q 2 b0 b0 n0 (D.j 0) (D.sl none 2 [] 0) (D.j 0) (D.sl none 2 [] 0) [] 0)):ACalls prog 120 [.pk,.int .i64,.str,.str,.int .i64,.dc,.dc,.dc,.dc,.row 29 9] [PV.int .i64 n0] N Q:=
 zRu H0 h
theorem zEv (N:Nat) (n0:Int) (Q:QT [.pk,.int .i64,.str,.str,.int .i64,.dc,.dc,.dc,.dc,.row 29 9]) (h :
uP N (Q 3 b0 b0 n0 (D.j 0) (D.sl none 2 [] 0) (D.j 0) (D.sl none 2 [] 0) [] 0)):ACalls prog 121 [.pk,.int .i64,.str,.str,.int .i64,.dc,.dc,.dc,.dc,.row 29 9] [PV.int .i64 n0] N Q:=
 zRu H0 h
theorem pA (N:Nat) (I:ByteArray) (Q:QT [.pk,.int .i64,.str,.str,.int .i64,.dc,.dc,.dc,.dc,.row 29 9]) (h :
uP N (Q 1 I b0 0 (D.j 0) (D.sl none 2 [] 0) (D.j 0) (D.sl none 2 [] 0) [] 0)):ACalls prog 55 [.pk,.int .i64,.str,.str,.int .i64,.dc,.dc,.dc,.dc,.row 29 9] [PV.str I] N Q:=
 zRu H0 h
theorem zCh (N:Nat) (I:Option Addr) (J:List D) (O:Nat) (U Y:Int) (Q:QT [(Sh.ag 9),(Sh.sl 0),(Sh.int IntKind.i64),(Sh.int IntKind.i64)]) (h:∀ E:Env,
Bel N (D.sl I 0 J O)->cI 42 [.j 4] I J O U Y N (λn a b c d e f=>∀ g,f<=g->BCalls prog 52 [.pk,
 .i,.str,.str,.i,.dc,.dc,.dc,.dc,.row 29 9,.sl 0,.i,.i] [.pb 0 0 0 0,.j (IntKind.i64.wrap (1+n))] [Bx.var [.sv a 0 b c,.j d,.j e]] g (fun
 a s b c x d e f h i j k l m n o=>g<=o->Bel o (D.sl j 0 k l)->Bel o (D.ag h)->cI 42 [.j 14] j k l m n
 o (λg j k l m n o=>Br (g==0) (cI 42 [.j 15] j k l m n o (λa g j k l m n=>w4 (h.length=h.length
 /\ i=i) (∀ o p,n<=p->Fresh N p o [D.ag h,x,d,e,f]->zO E [.var [.sv none 0 [] 0,.j 0,.j 0]]/\uP p (Q (D.ag [D.j a,D.t s,
 D.t b,D.j c,x,d,e,f,D.sl o 9 h i]) g j k l m)))) (Br (g==1) (∀ c,o<=c->BCalls prog 53 [.i,.sl 0,.i,.i,.sl 0]
 [.pb 0 0 0 0,.sb 1 0 0 5 5] [Bx.var [.sv j 0 k l,.j m,.j n],Bx.arr 3 0 [D.j 0,D.j 1,D.j 10006,D.j 10007,D.j (-1)] 5] c (λg j k
 l m n o p q r=>c<=r->Bel r (D.sl j 0 k l)->Bel r (D.sl o 0 p q)->w4 (h.length=h.length/\i=i) (∀ c
 o,r<=o->Fresh N o c [D.ag h,x,d,e,f]->zO E [.var [.sv none 0 [] 0,.j 0,.j 0]]/\uP o (Q (D.ag [D.j a,D.t s,D.t b,D.j
 g,x,d,e,f,D.sl c 9 h i]) j k l m n)))) (Br (g==2) (cP [D.t b0,D.t (bytes [120]),D.t (bytes [108,101,116]),D.t (bytes
 [97,98,99,100,101]),D.t (bytes [43])] 54 9 5 j k l m n o (λg j k l m n _ _ _ o=>w4 (h.length=h.length /\
 i=i) (∀ p q,o<=q->Fresh N q p [D.ag h,x,d,e,f]->zO E [.var [.sv none 0 [] 0,.j 0,.j 0]]/\uP q (Q (D.ag [D.j a,D.t
 g,D.t b,D.j c,x,d,e,f,D.sl p 9 h i]) j k l m n)))) (Br (g==3) (∀ g,o<=g->ACalls prog 55 [.pk,.i,.str,
 .str,.i,.dc,.dc,.dc,.dc,.row 29 9] [.str (bytes [120])] g (λo p q r t u v w y z A=>g<=A->Bel A (D.ag y) ->
 (y.length=y.length/\z=z)/\∀ g B,A<=B->Fresh N B g [D.ag y,t,u,v,w,x,d,e,f,D.ag h]->(h.length =
 h.length/\i=i)/\zB h [D.ag [D.j o,D.t p,D.t q,D.j r,t,u,v,w,D.sl g 9 y z]] 136/\∀ (i:Nat),w4 ((h
 ++ [D.ag [D.j o,D.t p,D.t q,D.j r,t,u,v,w,D.sl g 9 y z]]).length=(h++[D.ag [D.j o,D.t p,D.t q,D.j r,t,
 u,v,w,D.sl g 9 y z]]).length/\i=i) (∀ A C,B<=C->Fresh N C A [D.ag (h++[D.ag [D.j o,D.t p,D.t q,D.j
 r,t,u,v,w,D.sl g 9 y z]]),x,d,e,f]->zO E [.var [.sv none 0 [] 0,.j 0,.j 0]]/\∀ B,C<=B->Q (D.ag [D.j a,D.t s,
 D.t b,D.j c,x,d,e,f,D.sl A 9 (h++[D.ag [D.j o,D.t p,D.t q,D.j r,t,u,v,w,D.sl g 9 y z]]) i]) j
 k l m n B))) (Br (g==4) (cA 2 56 [] j k l m n o (λd g j k l m n=>w4 (h.length=h.length/\i=i)
 (∀ o p,n<=p->Fresh N p o [D.ag h,(d.cell 0),(d.cell 1),e,f]->zO E [.var [.sv none 0 [] 0,.j 0,.j 0]]/\uP p (Q (D.ag [D.j
 a,D.t s,D.t b,D.j c,(d.cell 0),(d.cell 1),e,f,D.sl o 9 h i]) g j k l m)))) (Br (g==5) (cP [D.t (bytes [120]),
 D.t (bytes [122])] 54 9 2 j k l m n o (λb g j k l m _ _ _ n=>w4 (h.length=h.length/\i=i) (∀ o
 p,n<=p->Fresh N p o [D.ag h,x,d,e,f]->zO E [.var [.sv none 0 [] 0,.j 0,.j 0]]/\uP p (Q (D.ag [D.j a,D.t s,D.t b,D.j
 c,x,d,e,f,D.sl o 9 h i]) g j k l m)))) (w4 (h.length=h.length/\i=i) (∀ g p,o<=p->Fresh N p g
 [D.ag h,x,d,e,f]->zO E [.var [.sv none 0 [] 0,.j 0,.j 0]]/\uP p (Q (D.ag [D.j a,D.t s,D.t b,D.j c,x,d,e,f,D.sl g 9
 h i]) j k l m n)))))))))))):BCalls prog 30 [(Sh.ag 9),(Sh.sl 0),(Sh.int IntKind.i64),(Sh.int IntKind.i64)] [.pb 0 0 0 0] [.var [.sv I 0 J O,.int .i64 U,.int .i64 Y]] N Q:=
  zOI zHc h
theorem rh (N:Nat) (n1:Int) (I:Option Addr) (J:List D) (O:Nat) (U Y:Int) (Q:QT [Sh.pk,(Sh.int IntKind.i64),Sh.str,Sh.str,(Sh.int IntKind.i64),Sh.dc,Sh.dc,Sh.dc,Sh.dc,(Sh.row (OfNat.ofNat 29) 9),(Sh.sl 0),(Sh.int IntKind.i64),(Sh.int IntKind.i64)]) (h:∀ E:Env,
Bel N (D.sl I 0 J O)->Br (decide (n1<2)) (∀ b,N<=b->BCalls prog 90 [.pk,.i,.str,.str,.i,.dc,.dc,.dc,.dc,.row 29 9,
 .sl 0,.i,.i] [.pb 0 0 0 0] [Bx.var [.sv I 0 J O,.j U,.j Y]] b (λn s a c x d e f g h i j k l m o=>b<=o ->
 Bel o (D.sl i 0 j k)->Bel o (D.ag g)->zO E [.var [.sv none 0 [] 0,.j 0,.j 0]]/\(g.length=g.length/\h=h)/\uP o (Q n s a c x d e
 f g h i j k l m))) (cB 29 [.j 5] I J O U Y N (λb a c d e f g=>Br b (∀ b,g<=b->BCalls prog 90 [.pk,.i,
 .str,.str,.i,.dc,.dc,.dc,.dc,.row 29 9,.sl 0,.i,.i] [.pb 0 0 0 0] [Bx.var [.sv a 0 c d,.j e,.j f]] b (λa c d e f g h
 i j k l m n o p q=>b<=q->Bel q (D.sl l 0 m n)->Bel q (D.ag j)->zO E [.var [.sv none 0 [] 0,.j 0,.j 0]]/\(j.length
 = j.length/\k=k)/\uP q (Q a c d e f g h i j k l m n o p))) (∀ b,g<=b->BCalls prog 53 [.i,.sl 0,.i,.i,.sl
 0] [.pb 0 0 0 0,.sb 1 0 0 12 12] [Bx.var [.sv a 0 c d,.j e,.j f],Bx.arr 3 0 [D.j 4,D.j 5,D.j 6,D.j 7,D.j 8,D.j 9,D.j 10,D.j 11,D.j 12,
 D.j 13,D.j 10,D.j 4] 12] b (λa c d e f g h i j k=>b<=k->Bel k (D.sl c 0 d e)->Bel k (D.sl h 0 i j)->Br
 (a==4) (cP [D.t (bytes [43]),D.t (bytes [45]),D.t (bytes [42]),D.t (bytes [61]),D.t (bytes [60]),D.t (bytes [38]),D.t (bytes [124]),D.t (bytes
 [33])] 54 9 8 c d e f g k (λb c d e f g _ _ _ h=>yD E Q N n1 c d e f g 0 b0 b0 0 0 none []
 0 0 none [] 0 none [] 0 a b b0 0 0 none [] 0 0 none [] 0 0 0 [] 0 h)) (Br (a==6) (cP [D.t (bytes [120]),D.t (bytes [121]),D.t (bytes [102])] 54 9
 3 c d e f g k (λb c d e f g _ _ _ h=>yD E Q N n1 c d e f g 0 b0 b0 0 0 none [] 0 0 none
 [] 0 none [] 0 a b b0 0 0 none [] 0 0 none [] 0 0 0 [] 0 h)) (Br (a==8) (cP [D.t (bytes [120]),D.t (bytes [121]),D.t (bytes [102])] 54 9 3 c
 d e f g k (λb c d e f g _ _ _ h=>yD E Q N n1 c d e f g 0 b0 b0 0 0 none [] 0 0 none
 [] 0 none [] 0 a b b0 0 0 none [] 0 0 none [] 0 0 0 [] 0 h)) (Br (a==9) (cP [D.t (bytes [120]),D.t (bytes [121]),D.t (bytes [102])] 54 9 3 c
 d e f g k (λb c d e f g _ _ _ h=>yD E Q N n1 c d e f g 0 b0 b0 0 0 none [] 0 0 none
 [] 0 none [] 0 a b b0 0 0 none [] 0 0 none [] 0 0 0 [] 0 h)) (yD E Q N n1 c d e f g 0 b0 b0 0 0 none [] 0 0 none [] 0 none [] 0
 a b0 b0 0 0 none [] 0 0 none [] 0 0 0 [] 0 k))))))))):BCalls prog 52 [Sh.pk,(Sh.int IntKind.i64),Sh.str,Sh.str,(Sh.int IntKind.i64),Sh.dc,Sh.dc,Sh.dc,Sh.dc,(Sh.row (OfNat.ofNat 29) 9),(Sh.sl 0),(Sh.int IntKind.i64),(Sh.int IntKind.i64)] [.pb 0 0 0 0,.int .i64 n1] [.var [.sv I 0 J O,.int .i64 U,.int .i64 Y]] N Q:=
  zOI zn h
theorem zCc (N:Nat) (I:Option Addr) (J:List D) (O:Nat) (U Y:Int) (Q:QT [(Sh.ag 2),(Sh.sl 0),(Sh.int IntKind.i64),(Sh.int IntKind.i64)]) (h:∀ E:Env,
Bel N (D.sl I 0 J O)->cA 2 91 [.j 4] I J O U Y N (λx a b c n d e=>cI 42 [.j 10] a b c n d e (fun
 a b c d e f g=>Br (a==0) (cI 42 [.j 6] b c d e f g (λa b c d e f g=>zO E [.var [.sv none 0 [] 0,.j 0,.j
 0]]/\uP g (Q (D.ag [D.j a,(x.cell 1)]) b c d e f))) (Br (a==1) (∃ a h,∃ i:Nat,(x.cell 1)=D.sl a 2 h i/\kA 2 92 [] g
 (λg j=>zQm a h i [g]/\zB h [g] 32/\∀ (a:Nat),w4 ((h++[g]).length=(h++[g]).length/\a=a) (∀ i k,j
 <= k->Fresh N k i [D.ag (h++[g]),(x.cell 0)]->zO E [.var [.sv none 0 [] 0,.j 0,.j 0]]/\uP k (Q (D.ag [(x.cell 0),D.sl i 2 (h ++
 [g]) a]) b c d e f)))) (Br (a==2) (cI 42 [.j 6] b c d e f g (λa b c d e f g=>wI E Q N
 (IntKind.i64.wrap (1+a)) 0 b c d e f 0 none [] 0 x g)) (Br (a==3) (wE E Q N 0 b c d e f 0 none [] 0 x g) (zO E
 [.var [.sv none 0 [] 0,.j 0,.j 0]]/\uP g (Q x b c d e f)))))))):BCalls prog 56 [(Sh.ag 2),(Sh.sl 0),(Sh.int IntKind.i64),(Sh.int IntKind.i64)] [.pb 0 0 0 0] [.var [.sv I 0 J O,.int .i64 U,.int .i64 Y]] N Q:=
  zOI sD h
theorem zDF (N:Nat) (I:Option Addr) (J:List D) (O:Nat) (U Y:Int) (Q:QT [Sh.pk,(Sh.int IntKind.i64),Sh.str,Sh.str,(Sh.int IntKind.i64),Sh.dc,Sh.dc,Sh.dc,Sh.dc,(Sh.row (OfNat.ofNat 29) 9),(Sh.sl 0),(Sh.int IntKind.i64),(Sh.int IntKind.i64)]) (h:∀ E:Env,
Bel N (D.sl I 0 J O)->cI 42 [.j 4] I J O U Y N (λn a b c d e f=>Br (n==0) (∀ g,f<=g->BCalls
 prog 53 [.i,.sl 0,.i,.i,.sl 0] [.pb 0 0 0 0,.sb 1 0 0 5 5] [Bx.var [.sv a 0 b c,.j d,.j e],Bx.arr 3 0 [D.j 0,D.j 1,D.j 2,D.j 3,D.j 10006] 5] g
 (λa b c d e f h i j k=>g<=k->Bel k (D.sl b 0 c d)->Bel k (D.sl h 0 i j)->∀ g,k<=g->ACalls prog 120 [.pk,
 .i,.str,.str,.i,.dc,.dc,.dc,.dc,.row 29 9] [.j a] g (λa s h i x j k l m n o=>g<=o->Bel o (D.ag m)->zO E [.var [.sv
 none 0 [] 0,.j 0,.j 0]]/\(m.length=m.length/\n=n)/\uP o (Q a s h i x j k l m n b c d e f)))) (Br (n==1) (cI 42
 [.j 2] a b c d e f (λa b c d e f g=>∀ h,g<=h->ACalls prog 121 [.pk,.i,.str,.str,.i,.dc,.dc,.dc,.dc,.row 29 9] [.j
 a] h (λa g i j k l m n o p q=>h<=q->Bel q (D.ag o)->zO E [.var [.sv none 0 [] 0,.j 0,.j 0]]/\(o.length =
 o.length/\p=p)/\uP q (Q a g i j k l m n o p b c d e f)))) (cP [D.t (bytes [120]),D.t (bytes [121]),D.t (bytes
 [102])] 54 9 3 a b c d e f (λa b c d e f _ _ _ g=>∀ h,g<=h->ACalls prog 55 [.pk,.i,.str,.str,.i,.dc,.dc,.dc,
 .dc,.row 29 9] [.str a] h (λa g i j k l m n o p q=>h<=q->Bel q (D.ag o)->zO E [.var [.sv none 0 [] 0,.j 0,
 .j 0]]/\(o.length=o.length/\p=p)/\uP q (Q a g i j k l m n o p b c d e f))))))):BCalls prog 90 [Sh.pk,(Sh.int IntKind.i64),Sh.str,Sh.str,(Sh.int IntKind.i64),Sh.dc,Sh.dc,Sh.dc,Sh.dc,(Sh.row (OfNat.ofNat 29) 9),(Sh.sl 0),(Sh.int IntKind.i64),(Sh.int IntKind.i64)] [.pb 0 0 0 0] [.var [.sv I 0 J O,.int .i64 U,.int .i64 Y]] N Q:=
  zOI H0 h
theorem zDb (E:Env) (Q:QT [Sh.pk,(Sh.int IntKind.i64),Sh.str,Sh.str,(Sh.int IntKind.i64),Sh.dc,Sh.dc,Sh.dc,Sh.dc,(Sh.row (OfNat.ofNat 29) 9),(Sh.sl 0),(Sh.int IntKind.i64),(Sh.int IntKind.i64)]) (N0:Nat) (n1:Int) (J:Option Addr) (O:List D) (U:Nat) (Y aa ab:Int) (ac ae:ByteArray) (ah ai:Int) (aj:Option Addr) (ak:List D) (al:Nat) (am:Int) (ao:Option Addr) (aq:List D) (au:Nat) (aw:Option Addr) (ax:List D) (ay:Nat) (I:Int) (az a1:ByteArray) (a6 bg:Int) (bh:Option Addr) (bi:List D) (bj:Nat) (a7:Int) (a8:Option Addr) (ba:List D) (bb bc bd:Nat) (r3:List D) (q3:Nat) (N:Nat) (h :
Br (I==6) (cA 2 91 [.j 2] J O U Y aa N (λx a b c n d e=>wm E Q N0 n1 a b c n d ab ac ae ah ai aj
 ak al am ao aq au aw ax ay I az a1 a6 (x.cell 0) (x.cell 1) a7 a8 ba bb bc bd r3 q3 e)) (Br (I==9) (cA 2 91 [.j 2]
 J O U Y aa N (λa b c d e f g=>wm E Q N0 n1 b c d e f ab ac ae ah ai aj ak al am ao
 aq au aw ax ay I az a1 a6 (a.cell 0) (a.cell 1) a7 a8 ba bb bc bd r3 q3 g)) (wz E Q N0 n1 J O U
 Y aa ab ac ae ah ai aj ak al am ao aq au aw ax ay I az a1 a6 bg bh bi bj a7 a8 ba bb bc bd r3 q3
 N))):yD E Q N0 n1 J O U Y aa ab ac ae ah ai aj ak al am ao aq au aw ax ay I az a1 a6 bg bh bi bj a7 a8 ba bb bc bd r3 q3 N:=
  zBP zn h
theorem sS (N:Nat) (n1:Int) (I:Option Addr) (J:List D) (O:Nat) (U Y:Int) (Q:QT [(Sh.ag 2),(Sh.sl 0),(Sh.int IntKind.i64),(Sh.int IntKind.i64)]) (h:∀ E:Env,
Bel N (D.sl I 0 J O)->Br (decide (n1<2)) (∀ b,N<=b->BCalls prog 53 [.i,.sl 0,.i,.i,.sl 0] [.pb 0 0 0 0,.sb 1 0 0 3 3]
 [Bx.var [.sv I 0 J O,.j U,.j Y],Bx.arr 3 0 [D.j 1,D.j 1,D.j 2] 3] b (λn a c d e f g h i j=>b<=j->Bel j (D.sl a
 0 c d)->Bel j (D.sl g 0 h i)->zO E [.var [.sv none 0 [] 0,.j 0,.j 0]]/\uP j (Q (D.ag [D.j n,D.sl none 2 [] 0]) a c d e f))) (cB 29 [.j 2]
 I J O U Y N (λb a c d e f g=>Br b (∀ b,g<=b->BCalls prog 53 [.i,.sl 0,.i,.i,.sl 0] [.pb 0 0 0 0,.sb 1 0 0 3 3]
 [Bx.var [.sv a 0 c d,.j e,.j f],Bx.arr 3 0 [D.j 1,D.j 1,D.j 2] 3] b (λa c d e f g h i j k=>b<=k->Bel k (D.sl c
 0 d e)->Bel k (D.sl h 0 i j)->zO E [.var [.sv none 0 [] 0,.j 0,.j 0]]/\uP k (Q (D.ag [D.j a,D.sl none 2 [] 0]) c d e f g)))
 (cB 29 [.j 2] a c d e f g (λa b c d e f g=>Br a (cA 2 91 [.j (IntKind.i64.wrap (n1 - 1))] b c d e f g (λx a
 b c d e f=>kA 2 93 [.dg 2 x] f (λf g=>zO E [.var [.sv none 0 [] 0,.j 0,.j 0]]/\uP g (Q f a b c d e)))) (cA 2 91
 [.j (IntKind.i64.wrap (n1 - 1))] b c d e f g (λa b c d e f g=>cA 2 91 [.j (IntKind.i64.wrap (n1 - 1))] b c d e f
 g (λb c d e f g h=>kA 2 94 [.dg 2 a,.dg 2 b] h (λa b=>zO E [.var [.sv none 0 [] 0,.j 0,.j 0]]/\uP b (Q a c
 d e f g)))))))))):BCalls prog 91 [(Sh.ag 2),(Sh.sl 0),(Sh.int IntKind.i64),(Sh.int IntKind.i64)] [.pb 0 0 0 0,.int .i64 n1] [.var [.sv I 0 J O,.int .i64 U,.int .i64 Y]] N Q:=
  zOI zHC h
theorem sj (E:Env) (Q:QT [(Sh.ag 2),(Sh.sl 0),(Sh.int IntKind.i64),(Sh.int IntKind.i64)]) (N0:Nat) (n4 n5:Int) (I:Option Addr) (J:List D) (O:Nat) (U Y aa:Int) (ab:Option Addr) (ac:List D) (ae:Nat) (y2:D) (N:Nat) (h :
Br (decide (n5<n4)) (kA 2 93 [.dg 2 y2] N (λx a=>wI E Q N0 n4 (IntKind.i64.wrap (n5+1)) I J O U Y aa ab ac
 ae x a)) (zO E [.var [.sv none 0 [] 0,.j 0,.j 0]]/\uP N (Q y2 I J O U Y))):wI E Q N0 n4 n5 I J O U Y aa ab ac ae y2 N:=
  zBP sD h
theorem sQ (E:Env) (Q:QT [(Sh.ag 2),(Sh.sl 0),(Sh.int IntKind.i64),(Sh.int IntKind.i64)]) (N0:Nat) (n6:Int) (I:Option Addr) (J:List D) (O:Nat) (U Y aa:Int) (ab:Option Addr) (ac:List D) (ae:Nat) (y2:D) (N:Nat) (h :
Br (decide (n6<3)) (kA 2 94 [.dg 2 y2,.dg 2 y2] N (λx a=>wE E Q N0 (IntKind.i64.wrap (n6+1)) I J O U Y aa ab
 ac ae x a)) (zO E [.var [.sv none 0 [] 0,.j 0,.j 0]]/\uP N (Q y2 I J O U Y))):wE E Q N0 n6 I J O U Y aa ab ac ae y2 N:=
  zBP sD h
theorem zES (E:Env) (Q:QT [Sh.pk,(Sh.int IntKind.i64),Sh.str,Sh.str,(Sh.int IntKind.i64),Sh.dc,Sh.dc,Sh.dc,Sh.dc,(Sh.row (OfNat.ofNat 29) 9),(Sh.sl 0),(Sh.int IntKind.i64),(Sh.int IntKind.i64)]) (N0:Nat) (n1:Int) (J:Option Addr) (O:List D) (U:Nat) (Y aa ab:Int) (ac ae:ByteArray) (ah ai:Int) (aj:Option Addr) (ak:List D) (al:Nat) (am:Int) (ao:Option Addr) (aq:List D) (au:Nat) (aw:Option Addr) (ax:List D) (ay:Nat) (I:Int) (az bb:ByteArray) (a1:Int) (a6 a7:D) (bc:Int) (bd:Option Addr) (bg:List D) (bh a8 ba:Nat) (r3:List D) (q3:Nat) (N:Nat) (h :
Br (I==9) (cP [D.t (bytes [122]),D.t (bytes [119])] 54 9 2 J O U Y aa N (λs a b c n d _ _ _ e=>cA 2 91 [.j 2] a b c n
 d e (λx a b c d e f=>uS E Q N0 n1 a b c d e ab ac ae ah ai aj ak al am ao aq au aw ax
 ay I az s a1 a6 a7 (x.cell 0) (x.cell 1) a8 ba r3 q3 f))) (wj E Q N0 n1 J O U Y aa ab ac ae ah ai aj
 ak al am ao aq au aw ax ay I az bb a1 a6 a7 bc bd bg bh a8 ba r3 q3 N)):wm E Q N0 n1 J O U Y aa ab ac ae ah ai aj ak al am ao aq au aw ax ay I az bb a1 a6 a7 bc bd bg bh a8 ba r3 q3 N:=
  zBP zn h
theorem zA0 (E:Env) (Q:QT [Sh.pk,(Sh.int IntKind.i64),Sh.str,Sh.str,(Sh.int IntKind.i64),Sh.dc,Sh.dc,Sh.dc,Sh.dc,(Sh.row (OfNat.ofNat 29) 9),(Sh.sl 0),(Sh.int IntKind.i64),(Sh.int IntKind.i64)]) (N0:Nat) (n1:Int) (J:Option Addr) (O:List D) (U:Nat) (Y aa ab:Int) (ac ae:ByteArray) (ah ai:Int) (aj:Option Addr) (ak:List D) (al:Nat) (am:Int) (ao:Option Addr) (aq:List D) (au:Nat) (aw:Option Addr) (ax:List D) (ay:Nat) (I:Int) (az bd:ByteArray) (a1 a6:Int) (a7:Option Addr) (a8:List D) (ba:Nat) (bg:Int) (bh:Option Addr) (bi:List D) (bj bb bc:Nat) (r3:List D) (q3:Nat) (N:Nat) (h :
Br (I==9) (cP [D.t (bytes [122]),D.t (bytes [119])] 54 9 2 J O U Y aa N (λs a b c n d _ _ _ e=>cA 2 91 [.j 2] a b c n
 d e (λx a b c d e f=>wg E Q N0 n1 a b c d e ab ac ae ah ai aj ak al am ao aq au aw ax
 ay I az s a1 a6 a7 a8 ba (x.cell 0) (x.cell 1) bb bc r3 q3 f))) (wu E Q N0 n1 J O U Y aa ab ac ae ah
 ai aj ak al am ao aq au aw ax ay I az bd a1 a6 a7 a8 ba bg bh bi bj bb bc r3 q3 N)):wz E Q N0 n1 J O U Y aa ab ac ae ah ai aj ak al am ao aq au aw ax ay I az bd a1 a6 a7 a8 ba bg bh bi bj bb bc r3 q3 N:=
  zBP zn h
theorem zEI (E:Env) (Q:QT [Sh.pk,(Sh.int IntKind.i64),Sh.str,Sh.str,(Sh.int IntKind.i64),Sh.dc,Sh.dc,Sh.dc,Sh.dc,(Sh.row (OfNat.ofNat 29) 9),(Sh.sl 0),(Sh.int IntKind.i64),(Sh.int IntKind.i64)]) (N0:Nat) (n1:Int) (a0_0:Option Addr) (e0_0:List D) (c0_0:Nat) (n0_1 n0_2 n1_0:Int) (s1_1 s1_2:ByteArray) (n1_3 n1_4:Int) (a1_5:Option Addr) (e1_5:List D) (c1_5:Nat) (n1_6:Int) (a1_7:Option Addr) (e1_7:List D) (c1_7:Nat) (a1_8:Option Addr) (e1_8:List D) (c1_8:Nat) (n2_0:Int) (s2_1 s2_2:ByteArray) (n2_3:Int) (x2_4 x2_5 x2_6 x2_7:D) (m2_8 c2_8:Nat) (r3:List D) (q3:Nat) (N:Nat) (h :
(m2_8=r3.length/\c2_8=q3)/\∀ a,ApA a r3->∀ b,N<=b->xX b [a]->ACalls prog 72 [.i] [.dg 9 (D.ag [D.j n2_0,D.t s2_1,D.t s2_2,D.j n2_3,
 x2_4,x2_5,x2_6,x2_7,D.sl a 9 r3 c2_8])] b (fun n a=>b<=a->wn E Q N0 n1 n 0 a0_0 e0_0 c0_0 n0_1 n0_2 n1_0 s1_1 s1_2 n1_3 n1_4 a1_5 e1_5
 c1_5 n1_6 a1_7 e1_7 c1_7 a1_8 e1_8 c1_8 n2_0 s2_1 s2_2 n2_3 x2_4 x2_5 x2_6 x2_7 m2_8 c2_8 r3 q3 a)):uS E Q N0 n1 a0_0 e0_0 c0_0 n0_1 n0_2 n1_0 s1_1 s1_2 n1_3 n1_4 a1_5 e1_5 c1_5 n1_6 a1_7 e1_7 c1_7 a1_8 e1_8 c1_8 n2_0 s2_1 s2_2 n2_3 x2_4 x2_5 x2_6 x2_7 m2_8 c2_8 r3 q3 N:=
  zBP zn h
theorem zA7 (E:Env) (Q:QT [Sh.pk,(Sh.int IntKind.i64),Sh.str,Sh.str,(Sh.int IntKind.i64),Sh.dc,Sh.dc,Sh.dc,Sh.dc,(Sh.row (OfNat.ofNat 29) 9),(Sh.sl 0),(Sh.int IntKind.i64),(Sh.int IntKind.i64)]) (N0:Nat) (n1:Int) (a0_0:Option Addr) (e0_0:List D) (c0_0:Nat) (n0_1 n0_2 n1_0:Int) (s1_1 s1_2:ByteArray) (n1_3 n1_4:Int) (a1_5:Option Addr) (e1_5:List D) (c1_5:Nat) (n1_6:Int) (a1_7:Option Addr) (e1_7:List D) (c1_7:Nat) (a1_8:Option Addr) (e1_8:List D) (c1_8:Nat) (n2_0:Int) (s2_1 s2_2:ByteArray) (n2_3:Int) (x2_4 x2_5:D) (n2_6:Int) (a2_7:Option Addr) (e2_7:List D) (c2_7 m2_8 c2_8:Nat) (r3:List D) (q3:Nat) (N:Nat) (h :
(m2_8=r3.length/\c2_8=q3)/\∀ a,ApA a r3->∀ b,N<=b->xX b [a]->ACalls prog 72 [.i] [.dg 9 (D.ag [D.j n2_0,D.t s2_1,D.t s2_2,D.j n2_3,
 x2_4,x2_5,D.j n2_6,D.sl a2_7 2 e2_7 c2_7,D.sl a 9 r3 c2_8])] b (fun n a=>b<=a->xT E Q N0 n1 n 0 a0_0 e0_0 c0_0 n0_1 n0_2 n1_0 s1_1
 s1_2 n1_3 n1_4 a1_5 e1_5 c1_5 n1_6 a1_7 e1_7 c1_7 a1_8 e1_8 c1_8 n2_0 s2_1 s2_2 n2_3 x2_4 x2_5 n2_6 a2_7 e2_7 c2_7 m2_8 c2_8 r3 q3 a)):wj E Q N0 n1 a0_0 e0_0 c0_0 n0_1 n0_2 n1_0 s1_1 s1_2 n1_3 n1_4 a1_5 e1_5 c1_5 n1_6 a1_7 e1_7 c1_7 a1_8 e1_8 c1_8 n2_0 s2_1 s2_2 n2_3 x2_4 x2_5 n2_6 a2_7 e2_7 c2_7 m2_8 c2_8 r3 q3 N:=
  zBP zn h
theorem zAm (E:Env) (Q:QT [Sh.pk,(Sh.int IntKind.i64),Sh.str,Sh.str,(Sh.int IntKind.i64),Sh.dc,Sh.dc,Sh.dc,Sh.dc,(Sh.row (OfNat.ofNat 29) 9),(Sh.sl 0),(Sh.int IntKind.i64),(Sh.int IntKind.i64)]) (N0:Nat) (n1:Int) (a0_0:Option Addr) (e0_0:List D) (c0_0:Nat) (n0_1 n0_2 n1_0:Int) (s1_1 s1_2:ByteArray) (n1_3 n1_4:Int) (a1_5:Option Addr) (e1_5:List D) (c1_5:Nat) (n1_6:Int) (a1_7:Option Addr) (e1_7:List D) (c1_7:Nat) (a1_8:Option Addr) (e1_8:List D) (c1_8:Nat) (n2_0:Int) (s2_1 s2_2:ByteArray) (n2_3 n2_4:Int) (a2_5:Option Addr) (e2_5:List D) (c2_5:Nat) (x2_6 x2_7:D) (m2_8 c2_8:Nat) (r3:List D) (q3:Nat) (N:Nat) (h :
(m2_8=r3.length/\c2_8=q3)/\∀ a,ApA a r3->∀ b,N<=b->xX b [a]->ACalls prog 72 [.i] [.dg 9 (D.ag [D.j n2_0,D.t s2_1,D.t s2_2,D.j n2_3,D.j
 n2_4,D.sl a2_5 2 e2_5 c2_5,x2_6,x2_7,D.sl a 9 r3 c2_8])] b (fun n a=>b<=a->xO E Q N0 n1 n 0 a0_0 e0_0 c0_0 n0_1 n0_2 n1_0 s1_1 s1_2
 n1_3 n1_4 a1_5 e1_5 c1_5 n1_6 a1_7 e1_7 c1_7 a1_8 e1_8 c1_8 n2_0 s2_1 s2_2 n2_3 n2_4 a2_5 e2_5 c2_5 x2_6 x2_7 m2_8 c2_8 r3 q3 a)):wg E Q N0 n1 a0_0 e0_0 c0_0 n0_1 n0_2 n1_0 s1_1 s1_2 n1_3 n1_4 a1_5 e1_5 c1_5 n1_6 a1_7 e1_7 c1_7 a1_8 e1_8 c1_8 n2_0 s2_1 s2_2 n2_3 n2_4 a2_5 e2_5 c2_5 x2_6 x2_7 m2_8 c2_8 r3 q3 N:=
  zBP zn h
theorem zBF (E:Env) (Q:QT [Sh.pk,(Sh.int IntKind.i64),Sh.str,Sh.str,(Sh.int IntKind.i64),Sh.dc,Sh.dc,Sh.dc,Sh.dc,(Sh.row (OfNat.ofNat 29) 9),(Sh.sl 0),(Sh.int IntKind.i64),(Sh.int IntKind.i64)]) (N0:Nat) (n1:Int) (a0_0:Option Addr) (e0_0:List D) (c0_0:Nat) (n0_1 n0_2 n1_0:Int) (s1_1 s1_2:ByteArray) (n1_3 n1_4:Int) (a1_5:Option Addr) (e1_5:List D) (c1_5:Nat) (n1_6:Int) (a1_7:Option Addr) (e1_7:List D) (c1_7:Nat) (a1_8:Option Addr) (e1_8:List D) (c1_8:Nat) (n2_0:Int) (s2_1 s2_2:ByteArray) (n2_3 n2_4:Int) (a2_5:Option Addr) (e2_5:List D) (c2_5:Nat) (n2_6:Int) (a2_7:Option Addr) (e2_7:List D) (c2_7 m2_8 c2_8:Nat) (r3:List D) (q3:Nat) (N:Nat) (h :
(m2_8=r3.length/\c2_8=q3)/\∀ a,ApA a r3->∀ b,N<=b->xX b [a]->ACalls prog 72 [.i] [.dg 9 (D.ag [D.j n2_0,D.t s2_1,D.t s2_2,D.j n2_3,D.j
 n2_4,D.sl a2_5 2 e2_5 c2_5,D.j n2_6,D.sl a2_7 2 e2_7 c2_7,D.sl a 9 r3 c2_8])] b (fun n a=>b<=a->xP E Q N0 n1 n 0 a0_0 e0_0 c0_0 n0_1
 n0_2 n1_0 s1_1 s1_2 n1_3 n1_4 a1_5 e1_5 c1_5 n1_6 a1_7 e1_7 c1_7 a1_8 e1_8 c1_8 n2_0 s2_1 s2_2 n2_3 n2_4 a2_5 e2_5 c2_5 n2_6 a2_7 e2_7 c2_7 m2_8 c2_8 r3 q3 a)):wu E Q N0 n1 a0_0 e0_0 c0_0 n0_1 n0_2 n1_0 s1_1 s1_2 n1_3 n1_4 a1_5 e1_5 c1_5 n1_6 a1_7 e1_7 c1_7 a1_8 e1_8 c1_8 n2_0 s2_1 s2_2 n2_3 n2_4 a2_5 e2_5 c2_5 n2_6 a2_7 e2_7 c2_7 m2_8 c2_8 r3 q3 N:=
  zBP zn h
theorem rV (E:Env) (Q:QT [Sh.pk,(Sh.int IntKind.i64),Sh.str,Sh.str,(Sh.int IntKind.i64),Sh.dc,Sh.dc,Sh.dc,Sh.dc,(Sh.row (OfNat.ofNat 29) 9),(Sh.sl 0),(Sh.int IntKind.i64),(Sh.int IntKind.i64)]) (N0:Nat) (n1 n6 n7:Int) (aa:Option Addr) (ab:List D) (ac:Nat) (ae ah ao:Int) (aq au:ByteArray) (aw ax:Int) (ay:Option Addr) (az:List D) (a1:Nat) (a6:Int) (a7:Option Addr) (a8:List D) (ba:Nat) (bb:Option Addr) (bc:List D) (bd:Nat) (ai:Int) (aj ak:ByteArray) (al:Int) (I J O U:D) (am Y:Nat) (r3:List D) (q3:Nat) (N:Nat) (h :
Br (decide (n7<n6)) (∀ b,N<=b->BCalls prog 52 [.pk,.i,.str,.str,.i,.dc,.dc,.dc,.dc,.row 29 9,.sl 0,.i,.i] [.pb 0 0 0 0,.j
 (IntKind.i64.wrap (n1 - 1))] [Bx.var [.sv aa 0 ab ac,.j ae,.j ah]] b (λn s a c x d e f g h i j k l m o=>b<=o->Bel o
 (D.sl i 0 j k)->Bel o (D.ag g)->(g.length=g.length/\h=h)/\∀ b p,o<=p->Fresh N0 p b [D.ag g,x,d,e,f,I,J,O,
 U,D.ag r3]->(am=r3.length/\Y=q3)/\zB r3 [D.ag [D.j n,D.t s,D.t a,D.j c,x,d,e,f,D.sl b 9 g h]] 136/\∀ (o:Nat),
 wn E Q N0 n1 n6 (IntKind.i64.wrap (n7+1)) i j k l m ao aq au aw ax ay az a1 a6 a7 a8 ba bb bc bd ai aj
 ak al I J O U (r3++[D.ag [D.j n,D.t s,D.t a,D.j c,x,d,e,f,D.sl b 9 g h]]).length o (r3++[D.ag [D.j n,D.t s,D.t a,
 D.j c,x,d,e,f,D.sl b 9 g h]]) o p)) (zO E [.var [.sv none 0 [] 0,.j 0,.j 0]]/\(am=r3.length/\Y=q3)/\uP N (Q ai aj ak
 al I J O U r3 Y aa ab ac ae ah))):wn E Q N0 n1 n6 n7 aa ab ac ae ah ao aq au aw ax ay az a1 a6 a7 a8 ba bb bc bd ai aj ak al I J O U am Y r3 q3 N:=
  zBP zn h
theorem tC (E:Env) (Q:QT [Sh.pk,(Sh.int IntKind.i64),Sh.str,Sh.str,(Sh.int IntKind.i64),Sh.dc,Sh.dc,Sh.dc,Sh.dc,(Sh.row (OfNat.ofNat 29) 9),(Sh.sl 0),(Sh.int IntKind.i64),(Sh.int IntKind.i64)]) (N0:Nat) (n1 n6 n7:Int) (ab:Option Addr) (ac:List D) (ae:Nat) (ah ai au:Int) (aw ax:ByteArray) (ay az:Int) (a1:Option Addr) (a6:List D) (a7:Nat) (a8:Int) (ba:Option Addr) (bb:List D) (bc:Nat) (bd:Option Addr) (bg:List D) (bh:Nat) (aj:Int) (ak al:ByteArray) (am:Int) (I J:D) (ao:Int) (O:Option Addr) (U:List D) (Y aq aa:Nat) (r3:List D) (q3:Nat) (N:Nat) (h :
Br (decide (n7<n6)) (∀ b,N<=b->BCalls prog 52 [.pk,.i,.str,.str,.i,.dc,.dc,.dc,.dc,.row 29 9,.sl 0,.i,.i] [.pb 0 0 0 0,.j
 (IntKind.i64.wrap (n1 - 1))] [Bx.var [.sv ab 0 ac ae,.j ah,.j ai]] b (λn s a c x d e f g h i j k l m o=>b<=o->Bel o
 (D.sl i 0 j k)->Bel o (D.ag g)->(g.length=g.length/\h=h)/\∀ b p,o<=p->Fresh N0 p b [D.ag g,x,d,e,f,I,J,D.sl O
 2 U Y,D.ag r3]->(aq=r3.length/\aa=q3)/\zB r3 [D.ag [D.j n,D.t s,D.t a,D.j c,x,d,e,f,D.sl b 9 g h]] 136/\∀ (o :
 Nat),xT E Q N0 n1 n6 (IntKind.i64.wrap (n7+1)) i j k l m au aw ax ay az a1 a6 a7 a8 ba bb bc bd bg bh
 aj ak al am I J ao O U Y (r3++[D.ag [D.j n,D.t s,D.t a,D.j c,x,d,e,f,D.sl b 9 g h]]).length o (r3++[D.ag
 [D.j n,D.t s,D.t a,D.j c,x,d,e,f,D.sl b 9 g h]]) o p)) (zO E [.var [.sv none 0 [] 0,.j 0,.j 0]]/\(aq=r3.length/\aa=q3) /\
 uP N (Q aj ak al am I J (D.j ao) (D.sl O 2 U Y) r3 aa ab ac ae ah ai))):xT E Q N0 n1 n6 n7 ab ac ae ah ai au aw ax ay az a1 a6 a7 a8 ba bb bc bd bg bh aj ak al am I J ao O U Y aq aa r3 q3 N:=
  zBP zn h
theorem tG (E:Env) (Q:QT [Sh.pk,(Sh.int IntKind.i64),Sh.str,Sh.str,(Sh.int IntKind.i64),Sh.dc,Sh.dc,Sh.dc,Sh.dc,(Sh.row (OfNat.ofNat 29) 9),(Sh.sl 0),(Sh.int IntKind.i64),(Sh.int IntKind.i64)]) (N0:Nat) (n1 n6 n7:Int) (ab:Option Addr) (ac:List D) (ae:Nat) (ah ai au:Int) (aw ax:ByteArray) (ay az:Int) (a1:Option Addr) (a6:List D) (a7:Nat) (a8:Int) (ba:Option Addr) (bb:List D) (bc:Nat) (bd:Option Addr) (bg:List D) (bh:Nat) (aj:Int) (ak al:ByteArray) (am ao:Int) (I:Option Addr) (J:List D) (O:Nat) (U Y:D) (aq aa:Nat) (r3:List D) (q3:Nat) (N:Nat) (h :
Br (decide (n7<n6)) (∀ b,N<=b->BCalls prog 52 [.pk,.i,.str,.str,.i,.dc,.dc,.dc,.dc,.row 29 9,.sl 0,.i,.i] [.pb 0 0 0 0,.j
 (IntKind.i64.wrap (n1 - 1))] [Bx.var [.sv ab 0 ac ae,.j ah,.j ai]] b (λn s a c x d e f g h i j k l m o=>b<=o->Bel o
 (D.sl i 0 j k)->Bel o (D.ag g)->(g.length=g.length/\h=h)/\∀ b p,o<=p->Fresh N0 p b [D.ag g,x,d,e,f,D.sl I 2 J
 O,U,Y,D.ag r3]->(aq=r3.length/\aa=q3)/\zB r3 [D.ag [D.j n,D.t s,D.t a,D.j c,x,d,e,f,D.sl b 9 g h]] 136/\∀ (o
 : Nat),xO E Q N0 n1 n6 (IntKind.i64.wrap (n7+1)) i j k l m au aw ax ay az a1 a6 a7 a8 ba bb bc bd bg
 bh aj ak al am ao I J O U Y (r3++[D.ag [D.j n,D.t s,D.t a,D.j c,x,d,e,f,D.sl b 9 g h]]).length o (r3 ++
 [D.ag [D.j n,D.t s,D.t a,D.j c,x,d,e,f,D.sl b 9 g h]]) o p)) (zO E [.var [.sv none 0 [] 0,.j 0,.j 0]]/\(aq=r3.length/\aa =
 q3)/\uP N (Q aj ak al am (D.j ao) (D.sl I 2 J O) U Y r3 aa ab ac ae ah ai))):xO E Q N0 n1 n6 n7 ab ac ae ah ai au aw ax ay az a1 a6 a7 a8 ba bb bc bd bg bh aj ak al am ao I J O U Y aq aa r3 q3 N:=
  zBP zn h
theorem tE (E:Env) (Q:QT [Sh.pk,(Sh.int IntKind.i64),Sh.str,Sh.str,(Sh.int IntKind.i64),Sh.dc,Sh.dc,Sh.dc,Sh.dc,(Sh.row (OfNat.ofNat 29) 9),(Sh.sl 0),(Sh.int IntKind.i64),(Sh.int IntKind.i64)]) (N0:Nat) (n1 n6 n7:Int) (ac:Option Addr) (ae:List D) (ah:Nat) (ai aj ax:Int) (ay az:ByteArray) (a1 a6:Int) (a7:Option Addr) (a8:List D) (ba:Nat) (bb:Int) (bc:Option Addr) (bd:List D) (bg:Nat) (bh:Option Addr) (bi:List D) (bj:Nat) (ak:Int) (al am:ByteArray) (ao aq:Int) (I:Option Addr) (J:List D) (O:Nat) (au:Int) (U:Option Addr) (Y:List D) (aa aw ab:Nat) (r3:List D) (q3:Nat) (N:Nat) (h :
Br (decide (n7<n6)) (∀ b,N<=b->BCalls prog 52 [.pk,.i,.str,.str,.i,.dc,.dc,.dc,.dc,.row 29 9,.sl 0,.i,.i] [.pb 0 0 0 0,.j
 (IntKind.i64.wrap (n1 - 1))] [Bx.var [.sv ac 0 ae ah,.j ai,.j aj]] b (λn s a c x d e f g h i j k l m o=>b<=o->Bel o
 (D.sl i 0 j k)->Bel o (D.ag g)->(g.length=g.length/\h=h)/\∀ b p,o<=p->Fresh N0 p b [D.ag g,x,d,e,f,D.sl I 2 J
 O,D.sl U 2 Y aa,D.ag r3]->(aw=r3.length/\ab=q3)/\zB r3 [D.ag [D.j n,D.t s,D.t a,D.j c,x,d,e,f,D.sl b 9 g h]]
 136/\∀ (o:Nat),xP E Q N0 n1 n6 (IntKind.i64.wrap (n7+1)) i j k l m ax ay az a1 a6 a7 a8 ba bb bc bd bg
 bh bi bj ak al am ao aq I J O au U Y aa (r3++[D.ag [D.j n,D.t s,D.t a,D.j c,x,d,e,f,D.sl b 9 g
 h]]).length o (r3++[D.ag [D.j n,D.t s,D.t a,D.j c,x,d,e,f,D.sl b 9 g h]]) o p)) (zO E [.var [.sv none 0 [] 0,.j 0,.j 0]]/\(aw
 = r3.length/\ab=q3)/\uP N (Q ak al am ao (D.j aq) (D.sl I 2 J O) (D.j au) (D.sl U 2 Y aa) r3 ab ac ae ah ai aj))):xP E Q N0 n1 n6 n7 ac ae ah ai aj ax ay az a1 a6 a7 a8 ba bb bc bd bg bh bi bj ak al am ao aq I J O au U Y aa aw ab r3 q3 N:=
  zBP zn h
end Go.Proofs.YtfajiphkncipoaaGreatDoor
