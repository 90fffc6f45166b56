/- Printed by gen.py: what the functions come to. -/
import Derived.Test.YtnmnahkkcfghjaaGreatJh
set_option linter.unusedVariables false
set_option maxRecDepth 100000
namespace Go.Proofs.YtnmnahkkcfghjaaGreat
open Go Go.Proofs Go.Proofs.Tryz
def shA:FuncId->List Sh:=λf=>match zLj f [(85,[.pk,.int .i64,.str,.str,.int .i64,.dc,.dc,.dc,.dc,.row 29 9]),(86,[.pk,.int .i64,.str,.str,.int .i64,.dc,.dc,.dc,.dc,.row 29 9]),(49,[.pk,.int .i64,.str,.str,.int .i64,.dc,.dc,.dc,.dc,.row 29 9]),(80,[.row 0 1000007,.pk,.int .i64,.str,.str,.int .i64,.dc,.dc,.dc,.dc,.row 29 9]),(46,[.row 0 1000007,.pk,.int .i64,.str,.str,.int .i64,.dc,.dc,.dc,.dc,.row 29 9])] with
 | []=>sh f
 | l=>l
theorem zP7 {f:FuncId} {rs:List Sh} {Q:QT rs} {N:Nat} (H:Hint) {args:List PV} {F:Prop} (h:F) (hc:xk prog f=true:=by kernel_rfl) (I:F=zHp prog shA f rs Q N H 400 args:=by kernel_rfl):ACalls prog f rs args N Q:=zOl zJ8 hc I h
theorem zKN {f:FuncId} {full:List Sh} {Q:QT full} {N:Nat} (H:Hint) {args:List PV} {bx:List Bx} {F:Env->Prop} (h:∀ E,F E) (hc:xk prog f=true:=by kernel_rfl) (I:∀ E,F E=zGl prog shA f full Q N H 400 args bx E:=by intro E;kernel_rfl):BCalls prog f full args bx N Q:=zLo zJ8 hc I h
theorem zAH {f:FuncId} {rs:List Sh} {Q:QT rs} {N0:Nat} {M:Mode} (H:Hint) {I:List Item} {st:St} {F:Prop} (h:F) (J:F=zBU st λst=>W prog shA f rs Q N0 M H 400 true I st:=by kernel_rfl):AT prog f rs Q N0 M I st:=zRk zJ8 J h
def zFF:Hint:=⟨[],[],[(4,hs 6 [ec 4 [21]]),(6,[en 0,en 1,en 2,en 3,eh 4,ec 5 [27,31],eh 6])]⟩
def zk:Hint:=⟨[hc 18 [0,1,4,5,6,7] [] [(5,8,29,9)]],[hc 11 [0,1,4,5] [] [(5,8,29,9)],hc 13 [0,1,4,5] [] [(5,8,29,9)],hc 16 [0,1,4,5] [] [(5,8,29,9)]],[(20,[en 0,en 1,en 2,en 3,en 4,eh 5,{ i:=6,hard:=true,cl:=[69],fs:=[5,69] },eh 7,en 8,eh 9])]⟩
def tK:Hint:=⟨[hc 10 [2,3,4,5],hc 15 [2,3,6]],[],[(6,[en 0,en 1,eh 2,en 3,eh 4,en 5,eh 6]),(12,hs 3 [ec 1 [34]]),(17,hs 4 [ec 2 [42,43]])]⟩
def zFi:Hint:=⟨[],[],[(10,[en 0,en 1,eh 2,{ i:=3,hard:=true,cl:=[32],fs:=[3,32] },eh 4,en 5,eh 6])]⟩
def zq (E:Env) (Q:QT [.pk,.i,.str,.str,.i,.dc,.dc,.dc,.dc,.row 29 9,.sl 0,.i,.i]) (N0:Nat) (n1:Int) (I:Option Addr) (J:List D) (O:Nat) (U Y aa:Int) (ab ac:ByteArray) (ae ah:Int) (ai:Option Addr) (aj:List D) (ak:Nat) (al:Int) (am:Option Addr) (ao:List D) (aq:Nat) (au:Option Addr) (aw:List D) (ax:Nat) (ay:Int) (az a2:ByteArray) (a3 a4:Int) (a5:Option Addr) (a6:List D) (a7:Nat) (a8:Int) (a9:Option Addr) (ba:List D) (bb bc bg:Nat) (r3:List D) (q3:Nat) (N:Nat):Prop:=AT prog 46 [.pk,.i,.str,.str,.i,.dc,.dc,.dc,.dc,.row 29 9,.sl 0,.i,.i] Q N0 (.io E [.var [.sv none 0 [] 0,.int .i64 0,.int .i64 0]]) (rt prog 46 11) ⟨.pb 0 0 0 0::.int .i64 n1::an 2 (.pb 1 0 0 0::.pb 2 0 0 0::an 68 []),[.var [.sv I 0 J O,.int .i64 U,.int .i64 Y],.var [.int .i64 aa,.str ab,.str ac,.int .i64 ae,.int .i64 ah,.sv ai 2 aj ak,.int .i64 al,.sv am 2 ao aq,.sv au 9 aw ax],.var [.int .i64 ay,.str az,.str a2,.int .i64 a3,.int .i64 a4,.sv a5 2 a6 a7,.int .i64 a8,.sv a9 2 ba bb,.sb 3 9 0 bc bg],.arr 29 9 r3 q3],N,some (yi E 0 [.var [.sv none 0 [] 0,.int .i64 0,.int .i64 0]],[])⟩
def xi (E:Env) (Q:QT [.ag 2,.sl 0,.i,.i]) (N0:Nat) (n4 n5:Int) (I:Option Addr) (J:List D) (O:Nat) (U Y aa:Int) (ab:Option Addr) (ac:List D) (ae:Nat) (y2:D) (N:Nat):Prop:=AT prog 50 [.ag 2,.sl 0,.i,.i] Q N0 (.io E [.var [.sv none 0 [] 0,.int .i64 0,.int .i64 0]]) (zE prog 50 10) ⟨an 2 (.pb 1 0 0 0::.pb 2 0 0 0::.int .i64 n4::.int .i64 n5::an 40 []),[.var [.sv I 0 J O,.int .i64 U,.int .i64 Y],.var [.int .i64 aa,.sv ab 2 ac ae],.vd y2 2],N,some (yi E 0 [.var [.sv none 0 [] 0,.int .i64 0,.int .i64 0]],[])⟩
def xh (E:Env) (Q:QT [.ag 2,.sl 0,.i,.i]) (N0:Nat) (n6:Int) (I:Option Addr) (J:List D) (O:Nat) (U Y aa:Int) (ab:Option Addr) (ac:List D) (ae:Nat) (y2:D) (N:Nat):Prop:=AT prog 50 [.ag 2,.sl 0,.i,.i] Q N0 (.io E [.var [.sv none 0 [] 0,.int .i64 0,.int .i64 0]]) (zE prog 50 15) ⟨an 2 (.pb 1 0 0 0::.pb 2 0 0 0::an 2 (.int .i64 n6::an 39 [])),[.var [.sv I 0 J O,.int .i64 U,.int .i64 Y],.var [.int .i64 aa,.sv ab 2 ac ae],.vd y2 2],N,some (yi E 0 [.var [.sv none 0 [] 0,.int .i64 0,.int .i64 0]],[])⟩
def wM (E:Env) (Q:QT [.pk,.i,.str,.str,.i,.dc,.dc,.dc,.dc,.row 29 9,.sl 0,.i,.i]) (N0:Nat) (n1:Int) (I:Option Addr) (J:List D) (O:Nat) (U Y aa:Int) (ab ac:ByteArray) (ae ah:Int) (ai:Option Addr) (aj:List D) (ak:Nat) (al:Int) (am:Option Addr) (ao:List D) (aq:Nat) (au:Option Addr) (aw:List D) (ax:Nat) (ay:Int) (az a2:ByteArray) (a3:Int) (a4 a5:D) (a6:Int) (a7:Option Addr) (a8:List D) (a9 ba bb:Nat) (r3:List D) (q3:Nat) (N:Nat):Prop:=AT prog 46 [.pk,.i,.str,.str,.i,.dc,.dc,.dc,.dc,.row 29 9,.sl 0,.i,.i] Q N0 (.io E [.var [.sv none 0 [] 0,.int .i64 0,.int .i64 0]]) (rt prog 46 13) ⟨.pb 0 0 0 0::.int .i64 n1::an 2 (.pb 1 0 0 0::.pb 2 0 0 0::an 68 []),[.var [.sv I 0 J O,.int .i64 U,.int .i64 Y],.var [.int .i64 aa,.str ab,.str ac,.int .i64 ae,.int .i64 ah,.sv ai 2 aj ak,.int .i64 al,.sv am 2 ao aq,.sv au 9 aw ax],.var [.int .i64 ay,.str az,.str a2,.int .i64 a3,.dc a4,.dc a5,.int .i64 a6,.sv a7 2 a8 a9,.sb 3 9 0 ba bb],.arr 29 9 r3 q3],N,some (yi E 0 [.var [.sv none 0 [] 0,.int .i64 0,.int .i64 0]],[])⟩
def wX (E:Env) (Q:QT [.pk,.i,.str,.str,.i,.dc,.dc,.dc,.dc,.row 29 9,.sl 0,.i,.i]) (N0:Nat) (n1:Int) (I:Option Addr) (J:List D) (O:Nat) (U Y aa:Int) (ab ac:ByteArray) (ae ah:Int) (ai:Option Addr) (aj:List D) (ak:Nat) (al:Int) (am:Option Addr) (ao:List D) (aq:Nat) (au:Option Addr) (aw:List D) (ax:Nat) (ay:Int) (az a2:ByteArray) (a3 a4:Int) (a5:Option Addr) (a6:List D) (a7:Nat) (a8:Int) (a9:Option Addr) (ba:List D) (bb bc bg:Nat) (r3:List D) (q3:Nat) (N:Nat):Prop:=AT prog 46 [.pk,.i,.str,.str,.i,.dc,.dc,.dc,.dc,.row 29 9,.sl 0,.i,.i] Q N0 (.io E [.var [.sv none 0 [] 0,.int .i64 0,.int .i64 0]]) (rt prog 46 13) ⟨.pb 0 0 0 0::.int .i64 n1::an 2 (.pb 1 0 0 0::.pb 2 0 0 0::an 68 []),[.var [.sv I 0 J O,.int .i64 U,.int .i64 Y],.var [.int .i64 aa,.str ab,.str ac,.int .i64 ae,.int .i64 ah,.sv ai 2 aj ak,.int .i64 al,.sv am 2 ao aq,.sv au 9 aw ax],.var [.int .i64 ay,.str az,.str a2,.int .i64 a3,.int .i64 a4,.sv a5 2 a6 a7,.int .i64 a8,.sv a9 2 ba bb,.sb 3 9 0 bc bg],.arr 29 9 r3 q3],N,some (yi E 0 [.var [.sv none 0 [] 0,.int .i64 0,.int .i64 0]],[])⟩
def vq (E:Env) (Q:QT [.pk,.i,.str,.str,.i,.dc,.dc,.dc,.dc,.row 29 9,.sl 0,.i,.i]) (N0:Nat) (n1:Int) (I:Option Addr) (J:List D) (O:Nat) (U Y aa:Int) (ab ac:ByteArray) (ae ah:Int) (ai:Option Addr) (aj:List D) (ak:Nat) (al:Int) (am:Option Addr) (ao:List D) (aq:Nat) (au:Option Addr) (aw:List D) (ax:Nat) (ay:Int) (az a2:ByteArray) (a3:Int) (a4 a5 a6 a7:D) (a8 a9:Nat) (r3:List D) (q3:Nat) (N:Nat):Prop:=AT prog 46 [.pk,.i,.str,.str,.i,.dc,.dc,.dc,.dc,.row 29 9,.sl 0,.i,.i] Q N0 (.io E [.var [.sv none 0 [] 0,.int .i64 0,.int .i64 0]]) (rt prog 46 16) ⟨.pb 0 0 0 0::.int .i64 n1::an 2 (.pb 1 0 0 0::.pb 2 0 0 0::an 68 []),[.var [.sv I 0 J O,.int .i64 U,.int .i64 Y],.var [.int .i64 aa,.str ab,.str ac,.int .i64 ae,.int .i64 ah,.sv ai 2 aj ak,.int .i64 al,.sv am 2 ao aq,.sv au 9 aw ax],.var [.int .i64 ay,.str az,.str a2,.int .i64 a3,.dc a4,.dc a5,.dc a6,.dc a7,.sb 3 9 0 a8 a9],.arr 29 9 r3 q3],N,some (yi E 0 [.var [.sv none 0 [] 0,.int .i64 0,.int .i64 0]],[])⟩
def wH (E:Env) (Q:QT [.pk,.i,.str,.str,.i,.dc,.dc,.dc,.dc,.row 29 9,.sl 0,.i,.i]) (N0:Nat) (n1:Int) (I:Option Addr) (J:List D) (O:Nat) (U Y aa:Int) (ab ac:ByteArray) (ae ah:Int) (ai:Option Addr) (aj:List D) (ak:Nat) (al:Int) (am:Option Addr) (ao:List D) (aq:Nat) (au:Option Addr) (aw:List D) (ax:Nat) (ay:Int) (az a2:ByteArray) (a3:Int) (a4 a5:D) (a6:Int) (a7:Option Addr) (a8:List D) (a9 ba bb:Nat) (r3:List D) (q3:Nat) (N:Nat):Prop:=AT prog 46 [.pk,.i,.str,.str,.i,.dc,.dc,.dc,.dc,.row 29 9,.sl 0,.i,.i] Q N0 (.io E [.var [.sv none 0 [] 0,.int .i64 0,.int .i64 0]]) (rt prog 46 16) ⟨.pb 0 0 0 0::.int .i64 n1::an 2 (.pb 1 0 0 0::.pb 2 0 0 0::an 68 []),[.var [.sv I 0 J O,.int .i64 U,.int .i64 Y],.var [.int .i64 aa,.str ab,.str ac,.int .i64 ae,.int .i64 ah,.sv ai 2 aj ak,.int .i64 al,.sv am 2 ao aq,.sv au 9 aw ax],.var [.int .i64 ay,.str az,.str a2,.int .i64 a3,.dc a4,.dc a5,.int .i64 a6,.sv a7 2 a8 a9,.sb 3 9 0 ba bb],.arr 29 9 r3 q3],N,some (yi E 0 [.var [.sv none 0 [] 0,.int .i64 0,.int .i64 0]],[])⟩
def wF (E:Env) (Q:QT [.pk,.i,.str,.str,.i,.dc,.dc,.dc,.dc,.row 29 9,.sl 0,.i,.i]) (N0:Nat) (n1:Int) (I:Option Addr) (J:List D) (O:Nat) (U Y aa:Int) (ab ac:ByteArray) (ae ah:Int) (ai:Option Addr) (aj:List D) (ak:Nat) (al:Int) (am:Option Addr) (ao:List D) (aq:Nat) (au:Option Addr) (aw:List D) (ax:Nat) (ay:Int) (az a2:ByteArray) (a3 a4:Int) (a5:Option Addr) (a6:List D) (a7:Nat) (a8 a9:D) (ba bb:Nat) (r3:List D) (q3:Nat) (N:Nat):Prop:=AT prog 46 [.pk,.i,.str,.str,.i,.dc,.dc,.dc,.dc,.row 29 9,.sl 0,.i,.i] Q N0 (.io E [.var [.sv none 0 [] 0,.int .i64 0,.int .i64 0]]) (rt prog 46 16) ⟨.pb 0 0 0 0::.int .i64 n1::an 2 (.pb 1 0 0 0::.pb 2 0 0 0::an 68 []),[.var [.sv I 0 J O,.int .i64 U,.int .i64 Y],.var [.int .i64 aa,.str ab,.str ac,.int .i64 ae,.int .i64 ah,.sv ai 2 aj ak,.int .i64 al,.sv am 2 ao aq,.sv au 9 aw ax],.var [.int .i64 ay,.str az,.str a2,.int .i64 a3,.int .i64 a4,.sv a5 2 a6 a7,.dc a8,.dc a9,.sb 3 9 0 ba bb],.arr 29 9 r3 q3],N,some (yi E 0 [.var [.sv none 0 [] 0,.int .i64 0,.int .i64 0]],[])⟩
def wV (E:Env) (Q:QT [.pk,.i,.str,.str,.i,.dc,.dc,.dc,.dc,.row 29 9,.sl 0,.i,.i]) (N0:Nat) (n1:Int) (I:Option Addr) (J:List D) (O:Nat) (U Y aa:Int) (ab ac:ByteArray) (ae ah:Int) (ai:Option Addr) (aj:List D) (ak:Nat) (al:Int) (am:Option Addr) (ao:List D) (aq:Nat) (au:Option Addr) (aw:List D) (ax:Nat) (ay:Int) (az a2:ByteArray) (a3 a4:Int) (a5:Option Addr) (a6:List D) (a7:Nat) (a8:Int) (a9:Option Addr) (ba:List D) (bb bc bg:Nat) (r3:List D) (q3:Nat) (N:Nat):Prop:=AT prog 46 [.pk,.i,.str,.str,.i,.dc,.dc,.dc,.dc,.row 29 9,.sl 0,.i,.i] Q N0 (.io E [.var [.sv none 0 [] 0,.int .i64 0,.int .i64 0]]) (rt prog 46 16) ⟨.pb 0 0 0 0::.int .i64 n1::an 2 (.pb 1 0 0 0::.pb 2 0 0 0::an 68 []),[.var [.sv I 0 J O,.int .i64 U,.int .i64 Y],.var [.int .i64 aa,.str ab,.str ac,.int .i64 ae,.int .i64 ah,.sv ai 2 aj ak,.int .i64 al,.sv am 2 ao aq,.sv au 9 aw ax],.var [.int .i64 ay,.str az,.str a2,.int .i64 a3,.int .i64 a4,.sv a5 2 a6 a7,.int .i64 a8,.sv a9 2 ba bb,.sb 3 9 0 bc bg],.arr 29 9 r3 q3],N,some (yi E 0 [.var [.sv none 0 [] 0,.int .i64 0,.int .i64 0]],[])⟩
def wO (E:Env) (Q:QT [.pk,.i,.str,.str,.i,.dc,.dc,.dc,.dc,.row 29 9,.sl 0,.i,.i]) (N0:Nat) (n1 n6 n7:Int) (I:Option Addr) (J:List D) (O:Nat) (U Y aa:Int) (ab ac:ByteArray) (ae ah:Int) (ai:Option Addr) (aj:List D) (ak:Nat) (al:Int) (am:Option Addr) (ao:List D) (aq:Nat) (au:Option Addr) (aw:List D) (ax:Nat) (ay:Int) (az a2:ByteArray) (a3:Int) (a4 a5 a6 a7:D) (a8 a9:Nat) (r3:List D) (q3:Nat) (N:Nat):Prop:=AT prog 46 [.pk,.i,.str,.str,.i,.dc,.dc,.dc,.dc,.row 29 9,.sl 0,.i,.i] Q N0 (.io E [.var [.sv none 0 [] 0,.int .i64 0,.int .i64 0]]) (zE prog 46 18) ⟨.pb 0 0 0 0::.int .i64 n1::an 2 (.pb 1 0 0 0::.pb 2 0 0 0::.int .i64 n6::.int .i64 n7::an 66 []),[.var [.sv I 0 J O,.int .i64 U,.int .i64 Y],.var [.int .i64 aa,.str ab,.str ac,.int .i64 ae,.int .i64 ah,.sv ai 2 aj ak,.int .i64 al,.sv am 2 ao aq,.sv au 9 aw ax],.var [.int .i64 ay,.str az,.str a2,.int .i64 a3,.dc a4,.dc a5,.dc a6,.dc a7,.sb 3 9 0 a8 a9],.arr 29 9 r3 q3],N,some (yi E 0 [.var [.sv none 0 [] 0,.int .i64 0,.int .i64 0]],[])⟩
def xC (E:Env) (Q:QT [.pk,.i,.str,.str,.i,.dc,.dc,.dc,.dc,.row 29 9,.sl 0,.i,.i]) (N0:Nat) (n1 n6 n7:Int) (I:Option Addr) (J:List D) (O:Nat) (U Y aa:Int) (ab ac:ByteArray) (ae ah:Int) (ai:Option Addr) (aj:List D) (ak:Nat) (al:Int) (am:Option Addr) (ao:List D) (aq:Nat) (au:Option Addr) (aw:List D) (ax:Nat) (ay:Int) (az a2:ByteArray) (a3:Int) (a4 a5:D) (a6:Int) (a7:Option Addr) (a8:List D) (a9 ba bb:Nat) (r3:List D) (q3:Nat) (N:Nat):Prop:=AT prog 46 [.pk,.i,.str,.str,.i,.dc,.dc,.dc,.dc,.row 29 9,.sl 0,.i,.i] Q N0 (.io E [.var [.sv none 0 [] 0,.int .i64 0,.int .i64 0]]) (zE prog 46 18) ⟨.pb 0 0 0 0::.int .i64 n1::an 2 (.pb 1 0 0 0::.pb 2 0 0 0::.int .i64 n6::.int .i64 n7::an 66 []),[.var [.sv I 0 J O,.int .i64 U,.int .i64 Y],.var [.int .i64 aa,.str ab,.str ac,.int .i64 ae,.int .i64 ah,.sv ai 2 aj ak,.int .i64 al,.sv am 2 ao aq,.sv au 9 aw ax],.var [.int .i64 ay,.str az,.str a2,.int .i64 a3,.dc a4,.dc a5,.int .i64 a6,.sv a7 2 a8 a9,.sb 3 9 0 ba bb],.arr 29 9 r3 q3],N,some (yi E 0 [.var [.sv none 0 [] 0,.int .i64 0,.int .i64 0]],[])⟩
def yw (E:Env) (Q:QT [.pk,.i,.str,.str,.i,.dc,.dc,.dc,.dc,.row 29 9,.sl 0,.i,.i]) (N0:Nat) (n1 n6 n7:Int) (I:Option Addr) (J:List D) (O:Nat) (U Y aa:Int) (ab ac:ByteArray) (ae ah:Int) (ai:Option Addr) (aj:List D) (ak:Nat) (al:Int) (am:Option Addr) (ao:List D) (aq:Nat) (au:Option Addr) (aw:List D) (ax:Nat) (ay:Int) (az a2:ByteArray) (a3 a4:Int) (a5:Option Addr) (a6:List D) (a7:Nat) (a8 a9:D) (ba bb:Nat) (r3:List D) (q3:Nat) (N:Nat):Prop:=AT prog 46 [.pk,.i,.str,.str,.i,.dc,.dc,.dc,.dc,.row 29 9,.sl 0,.i,.i] Q N0 (.io E [.var [.sv none 0 [] 0,.int .i64 0,.int .i64 0]]) (zE prog 46 18) ⟨.pb 0 0 0 0::.int .i64 n1::an 2 (.pb 1 0 0 0::.pb 2 0 0 0::.int .i64 n6::.int .i64 n7::an 66 []),[.var [.sv I 0 J O,.int .i64 U,.int .i64 Y],.var [.int .i64 aa,.str ab,.str ac,.int .i64 ae,.int .i64 ah,.sv ai 2 aj ak,.int .i64 al,.sv am 2 ao aq,.sv au 9 aw ax],.var [.int .i64 ay,.str az,.str a2,.int .i64 a3,.int .i64 a4,.sv a5 2 a6 a7,.dc a8,.dc a9,.sb 3 9 0 ba bb],.arr 29 9 r3 q3],N,some (yi E 0 [.var [.sv none 0 [] 0,.int .i64 0,.int .i64 0]],[])⟩
def yy (E:Env) (Q:QT [.pk,.i,.str,.str,.i,.dc,.dc,.dc,.dc,.row 29 9,.sl 0,.i,.i]) (N0:Nat) (n1 n6 n7:Int) (I:Option Addr) (J:List D) (O:Nat) (U Y aa:Int) (ab ac:ByteArray) (ae ah:Int) (ai:Option Addr) (aj:List D) (ak:Nat) (al:Int) (am:Option Addr) (ao:List D) (aq:Nat) (au:Option Addr) (aw:List D) (ax:Nat) (ay:Int) (az a2:ByteArray) (a3 a4:Int) (a5:Option Addr) (a6:List D) (a7:Nat) (a8:Int) (a9:Option Addr) (ba:List D) (bb bc bg:Nat) (r3:List D) (q3:Nat) (N:Nat):Prop:=AT prog 46 [.pk,.i,.str,.str,.i,.dc,.dc,.dc,.dc,.row 29 9,.sl 0,.i,.i] Q N0 (.io E [.var [.sv none 0 [] 0,.int .i64 0,.int .i64 0]]) (zE prog 46 18) ⟨.pb 0 0 0 0::.int .i64 n1::an 2 (.pb 1 0 0 0::.pb 2 0 0 0::.int .i64 n6::.int .i64 n7::an 66 []),[.var [.sv I 0 J O,.int .i64 U,.int .i64 Y],.var [.int .i64 aa,.str ab,.str ac,.int .i64 ae,.int .i64 ah,.sv ai 2 aj ak,.int .i64 al,.sv am 2 ao aq,.sv au 9 aw ax],.var [.int .i64 ay,.str az,.str a2,.int .i64 a3,.int .i64 a4,.sv a5 2 a6 a7,.int .i64 a8,.sv a9 2 ba bb,.sb 3 9 0 bc bg],.arr 29 9 r3 q3],N,some (yi E 0 [.var [.sv none 0 [] 0,.int .i64 0,.int .i64 0]],[])⟩
theorem zDx (N:Nat) (n0:Int) (Q:QT [.pk,.int .i64,.str,.str,.int .i64,.dc,.dc,.dc,.dc,.row 29 9]) (h :
uP N (Q 2 b0 b0 n0 (D.j 0) (D.sl none 2 [] 0) (D.j 0) (D.sl none 2 [] 0) [] 0)):ACalls prog 85 [.pk,.int .i64,.str,.str,.int .i64,.dc,.dc,.dc,.dc,.row 29 9] [PV.int .i64 n0] N Q:=
 zP7 H0 h
theorem zDI (N:Nat) (n0:Int) (Q:QT [.pk,.int .i64,.str,.str,.int .i64,.dc,.dc,.dc,.dc,.row 29 9]) (h :
uP N (Q 3 b0 b0 n0 (D.j 0) (D.sl none 2 [] 0) (D.j 0) (D.sl none 2 [] 0) [] 0)):ACalls prog 86 [.pk,.int .i64,.str,.str,.int .i64,.dc,.dc,.dc,.dc,.row 29 9] [PV.int .i64 n0] N Q:=
 zP7 H0 h
theorem qG (N:Nat) (I:ByteArray) (Q:QT [.pk,.int .i64,.str,.str,.int .i64,.dc,.dc,.dc,.dc,.row 29 9]) (h :
uP N (Q 1 I b0 0 (D.j 0) (D.sl none 2 [] 0) (D.j 0) (D.sl none 2 [] 0) [] 0)):ACalls prog 49 [.pk,.int .i64,.str,.str,.int .i64,.dc,.dc,.dc,.dc,.row 29 9] [PV.str I] N Q:=
 zP7 H0 h
theorem zBL (N:Nat) (I:Option Addr) (J:List D) (O:Nat) (U Y:Int) (Q:QT [(Sh.ag 9),(Sh.sl 0),(Sh.int IntKind.i64),(Sh.int IntKind.i64)]) (h:∀ E:Env,
Bel N (D.sl I 0 J O)->∀ b,N<=b->BCalls prog 35 [.i,.sl 0,.i,.i] [.pb 0 0 0 0,.j 4] [Bx.var [.sv I 0 J O,.j
 U,.j Y]] b (λn a c d e f g=>b<=g->Bel g (D.sl a 0 c d)->∀ b,g<=b->BCalls prog 46 [.pk,.i,.str,.str,.i,.dc,.dc,.dc,.dc,
 .row 29 9,.sl 0,.i,.i] [.pb 0 0 0 0,.j (IntKind.i64.wrap (1+n))] [Bx.var [.sv a 0 c d,.j e,.j f]] b (λa s c d x e f g h i j
 k l m n o=>b<=o->Bel o (D.sl j 0 k l)->Bel o (D.ag h)->∀ b,o<=b->BCalls prog 35 [.i,.sl 0,.i,.i] [.pb 0 0 0 0,.j 14]
 [Bx.var [.sv j 0 k l,.j m,.j n]] b (λj k l m n o p=>b<=p->Bel p (D.sl k 0 l m)->Br (j==0) (∀ a,p<=a ->
 BCalls prog 35 [.i,.sl 0,.i,.i] [.pb 0 0 0 0,.j 15] [Bx.var [.sv k 0 l m,.j n,.j o]] a (λb j k l m n o=>a<=o->Bel o
 (D.sl j 0 k l)->w4 (h.length=h.length/\i=i) (∀ a p,o<=p->Fresh N p a [D.ag h,x,e,f,g]->zR E [.var [.sv none 0
 [] 0,.j 0,.j 0]]/\uP p (Q (D.ag [D.j b,D.t s,D.t c,D.j d,x,e,f,g,D.sl a 9 h i]) j k l m n)))) (Br (j==1) (∀
 b,p<=b->BCalls prog 47 [.i,.sl 0,.i,.i,.sl 0] [.pb 0 0 0 0,.sb 1 0 0 5 5] [Bx.var [.sv k 0 l m,.j n,.j o],Bx.arr 3 0 [D.j 0,D.j 1,
 D.j 10006,D.j 10007,D.j (-1)] 5] b (λd j k l m n o p q r=>b<=r->Bel r (D.sl j 0 k l)->Bel r (D.sl o 0 p
 q)->w4 (h.length=h.length/\i=i) (∀ b o,r<=o->Fresh N o b [D.ag h,x,e,f,g]->zR E [.var [.sv none 0 [] 0,.j 0,
 .j 0]]/\uP o (Q (D.ag [D.j a,D.t s,D.t c,D.j d,x,e,f,g,D.sl b 9 h i]) j k l m n)))) (Br (j==2) (cP [D.t b0,D.t
 (bytes [120]),D.t (bytes [108,101,116]),D.t (bytes [97,98,99,100,101]),D.t (bytes [43])] 48 9 5 k l m n o p (λb j k l m n
 _ _ _ o=>w4 (h.length=h.length/\i=i) (∀ p q,o<=q->Fresh N q p [D.ag h,x,e,f,g]->zR E [.var [.sv none
 0 [] 0,.j 0,.j 0]]/\uP q (Q (D.ag [D.j a,D.t b,D.t c,D.j d,x,e,f,g,D.sl p 9 h i]) j k l m n)))) (Br (j==3)
 (∀ b,p<=b->ACalls prog 49 [.pk,.i,.str,.str,.i,.dc,.dc,.dc,.dc,.row 29 9] [.str (bytes [120])] b (λj p q r t u v w y
 z A=>b<=A->Bel A (D.ag y)->(y.length=y.length/\z=z)/\∀ b B,A<=B->Fresh N B b [D.ag y,t,u,v,w,
 x,e,f,g,D.ag h]->(h.length=h.length/\i=i)/\zA h [D.ag [D.j j,D.t p,D.t q,D.j r,t,u,v,w,D.sl b
 9 y z]] 136/\∀ (i:Nat),w4 ((h++[D.ag [D.j j,D.t p,D.t q,D.j r,t,u,v,w,D.sl b 9 y z]]).length=(h++[D.ag
 [D.j j,D.t p,D.t q,D.j r,t,u,v,w,D.sl b 9 y z]]).length/\i=i) (∀ A C,B<=C->Fresh N C A [D.ag (h
 ++ [D.ag [D.j j,D.t p,D.t q,D.j r,t,u,v,w,D.sl b 9 y z]]),x,e,f,g]->zR E [.var [.sv none 0 [] 0,.j 0,.j 0]]/\∀
 B,C<=B->Q (D.ag [D.j a,D.t s,D.t c,D.j d,x,e,f,g,D.sl A 9 (h++[D.ag [D.j j,D.t p,D.t q,D.j r,t,u,v,
 w,D.sl b 9 y z]]) i]) k l m n o B))) (Br (j==4) (cA 2 50 [] k l m n o p (λb e j k l m n=>w4
 (h.length=h.length/\i=i) (∀ o p,n<=p->Fresh N p o [D.ag h,(b.cell 0),(b.cell 1),f,g]->zR E [.var [.sv none 0
 [] 0,.j 0,.j 0]]/\uP p (Q (D.ag [D.j a,D.t s,D.t c,D.j d,(b.cell 0),(b.cell 1),f,g,D.sl o 9 h i]) e j k l
 m)))) (Br (j==5) (cP [D.t (bytes [120]),D.t (bytes [122])] 48 9 2 k l m n o p (λb c j k l m _ _ _ n=>w4
 (h.length=h.length/\i=i) (∀ o p,n<=p->Fresh N p o [D.ag h,x,e,f,g]->zR E [.var [.sv none 0 [] 0,.j 0,.j 0]] /\
 uP p (Q (D.ag [D.j a,D.t s,D.t b,D.j d,x,e,f,g,D.sl o 9 h i]) c j k l m)))) (w4 (h.length=h.length/\i =
 i) (∀ b j,p<=j->Fresh N j b [D.ag h,x,e,f,g]->zR E [.var [.sv none 0 [] 0,.j 0,.j 0]]/\uP j (Q (D.ag [D.j a,D.t s,D.t
 c,D.j d,x,e,f,g,D.sl b 9 h i]) k l m n o)))))))))))):BCalls prog 25 [(Sh.ag 9),(Sh.sl 0),(Sh.int IntKind.i64),(Sh.int IntKind.i64)] [.pb 0 0 0 0] [.var [.sv I 0 J O,.int .i64 U,.int .i64 Y]] N Q:=
  zKN zFi h
theorem sc (N:Nat) (n1:Int) (I:Option Addr) (J:List D) (O:Nat) (U Y:Int) (Q:QT [Sh.pk,(Sh.int IntKind.i64),Sh.str,Sh.str,(Sh.int IntKind.i64),Sh.dc,Sh.dc,Sh.dc,Sh.dc,(Sh.row (OfNat.ofNat 29) 9),(Sh.sl 0),(Sh.int IntKind.i64),(Sh.int IntKind.i64)]) (h:∀ E:Env,
Bel N (D.sl I 0 J O)->Br (decide (n1<2)) (∀ b,N<=b->BCalls prog 80 [.pk,.i,.str,.str,.i,.dc,.dc,.dc,.dc,.row 29 9,
 .sl 0,.i,.i] [.pb 0 0 0 0] [Bx.var [.sv I 0 J O,.j U,.j Y]] b (λn s a c x d e f g h i j k l m o=>b<=o ->
 Bel o (D.sl i 0 j k)->Bel o (D.ag g)->zR E [.var [.sv none 0 [] 0,.j 0,.j 0]]/\(g.length=g.length/\h=h)/\uP o (Q n s a c x d e
 f g h i j k l m))) (cB 24 [.j 5] I J O U Y N (λb a c d e f g=>Br b (∀ b,g<=b->BCalls prog 80 [.pk,.i,
 .str,.str,.i,.dc,.dc,.dc,.dc,.row 29 9,.sl 0,.i,.i] [.pb 0 0 0 0] [Bx.var [.sv a 0 c d,.j e,.j f]] b (λa c d e f g h
 i j k l m n o p q=>b<=q->Bel q (D.sl l 0 m n)->Bel q (D.ag j)->zR E [.var [.sv none 0 [] 0,.j 0,.j 0]]/\(j.length
 = j.length/\k=k)/\uP q (Q a c d e f g h i j k l m n o p))) (∀ b,g<=b->BCalls prog 47 [.i,.sl 0,.i,.i,.sl
 0] [.pb 0 0 0 0,.sb 1 0 0 12 12] [Bx.var [.sv a 0 c d,.j e,.j f],Bx.arr 3 0 [D.j 4,D.j 5,D.j 6,D.j 7,D.j 8,D.j 9,D.j 10,D.j 11,D.j 12,
 D.j 13,D.j 10,D.j 4] 12] b (λa c d e f g h i j k=>b<=k->Bel k (D.sl c 0 d e)->Bel k (D.sl h 0 i j)->Br
 (a==4) (cP [D.t (bytes [43]),D.t (bytes [45]),D.t (bytes [42]),D.t (bytes [61]),D.t (bytes [60]),D.t (bytes [38]),D.t (bytes [124]),D.t (bytes
 [33])] 48 9 8 c d e f g k (λb c d e f g _ _ _ h=>zq E Q N n1 c d e f g 0 b0 b0 0 0 none []
 0 0 none [] 0 none [] 0 a b b0 0 0 none [] 0 0 none [] 0 0 0 [] 0 h)) (Br (a==6) (cP [D.t (bytes [120]),D.t (bytes [121]),D.t (bytes [102])] 48 9
 3 c d e f g k (λb c d e f g _ _ _ h=>zq E Q N n1 c d e f g 0 b0 b0 0 0 none [] 0 0 none
 [] 0 none [] 0 a b b0 0 0 none [] 0 0 none [] 0 0 0 [] 0 h)) (Br (a==8) (cP [D.t (bytes [120]),D.t (bytes [121]),D.t (bytes [102])] 48 9 3 c
 d e f g k (λb c d e f g _ _ _ h=>zq E Q N n1 c d e f g 0 b0 b0 0 0 none [] 0 0 none
 [] 0 none [] 0 a b b0 0 0 none [] 0 0 none [] 0 0 0 [] 0 h)) (Br (a==9) (cP [D.t (bytes [120]),D.t (bytes [121]),D.t (bytes [102])] 48 9 3 c
 d e f g k (λb c d e f g _ _ _ h=>zq E Q N n1 c d e f g 0 b0 b0 0 0 none [] 0 0 none
 [] 0 none [] 0 a b b0 0 0 none [] 0 0 none [] 0 0 0 [] 0 h)) (zq E Q N n1 c d e f g 0 b0 b0 0 0 none [] 0 0 none [] 0 none [] 0
 a b0 b0 0 0 none [] 0 0 none [] 0 0 0 [] 0 k))))))))):BCalls prog 46 [Sh.pk,(Sh.int IntKind.i64),Sh.str,Sh.str,(Sh.int IntKind.i64),Sh.dc,Sh.dc,Sh.dc,Sh.dc,(Sh.row (OfNat.ofNat 29) 9),(Sh.sl 0),(Sh.int IntKind.i64),(Sh.int IntKind.i64)] [.pb 0 0 0 0,.int .i64 n1] [.var [.sv I 0 J O,.int .i64 U,.int .i64 Y]] N Q:=
  zKN zk h
theorem qN (N:Nat) (m1 c1:Nat) (I:Option Addr) (J:List D) (O:Nat) (Y aa:Int) (U:List D) (ab:Nat) (Q:QT [(Sh.int IntKind.i64),(Sh.sl 0),(Sh.int IntKind.i64),(Sh.int IntKind.i64),(Sh.sl 0)]) (h:∀ E:Env,
Bel N (D.sl I 0 J O)->Bel N (D.sl none 0 U ab)->∀ b,N<=b->BCalls prog 35 [.i,.sl 0,.i,.i] [.pb 0 0 0 0,.j (m1:Int)]
 [Bx.var [.sv I 0 J O,.j Y,.j aa]] b (λn a c d e f g=>b<=g->Bel g (D.sl a 0 c d)->(0<=n/\n<(m1:Int)/\(0+n.toNat
 : Nat)<U.length)/\(0+n.toNat:Nat)<U.length/\∃ b:Int,List.getD U (0+n.toNat:Nat) default=D.j b/\zR E [.var [.sv none 0 [] 0,.j
 0,.j 0],.arr 3 0 [] 0]/\uP g (Q b a c d e f none U ab))):BCalls prog 47 [(Sh.int IntKind.i64),(Sh.sl 0),(Sh.int IntKind.i64),(Sh.int IntKind.i64),(Sh.sl 0)] [.pb 0 0 0 0,.sb 1 0 0 m1 c1] [.var [.sv I 0 J O,.int .i64 Y,.int .i64 aa],.arr 3 0 U ab] N Q:=
  zKN H0 h
theorem zBH (N:Nat) (I:Option Addr) (J:List D) (O:Nat) (U Y:Int) (Q:QT [(Sh.ag 2),(Sh.sl 0),(Sh.int IntKind.i64),(Sh.int IntKind.i64)]) (h:∀ E:Env,
Bel N (D.sl I 0 J O)->cA 2 38 [.j 4] I J O U Y N (λx a b c n d e=>∀ f,e<=f->BCalls prog 35 [.i,
 .sl 0,.i,.i] [.pb 0 0 0 0,.j 10] [Bx.var [.sv a 0 b c,.j n,.j d]] f (λa b c d e g h=>f<=h->Bel h (D.sl b 0 c d)->Br
 (a==0) (∀ a,h<=a->BCalls prog 35 [.i,.sl 0,.i,.i] [.pb 0 0 0 0,.j 6] [Bx.var [.sv b 0 c d,.j e,.j g]] a (λb c d e f
 g h=>a<=h->Bel h (D.sl c 0 d e)->zR E [.var [.sv none 0 [] 0,.j 0,.j 0]]/\uP h (Q (D.ag [D.j b,(x.cell 1)]) c d e f g)))
 (Br (a==1) (∃ a f,∃ i:Nat,(x.cell 1)=D.sl a 2 f i/\kA 2 52 [] h (λh j=>zLT a f i [h]/\zA f [h] 32/\∀
 (a:Nat),w4 ((f++[h]).length=(f++[h]).length/\a=a) (∀ i k,j<=k->Fresh N k i [D.ag (f++[h]),(x.cell 0)]->zR E
 [.var [.sv none 0 [] 0,.j 0,.j 0]]/\uP k (Q (D.ag [(x.cell 0),D.sl i 2 (f++[h]) a]) b c d e g)))) (Br (a==2) (∀ a,h<=a ->
 BCalls prog 35 [.i,.sl 0,.i,.i] [.pb 0 0 0 0,.j 6] [Bx.var [.sv b 0 c d,.j e,.j g]] a (λb c d e f g h=>a<=h->Bel
 h (D.sl c 0 d e)->xi E Q N (IntKind.i64.wrap (1+b)) 0 c d e f g 0 none [] 0 x h)) (Br (a==3) (xh E Q
 N 0 b c d e g 0 none [] 0 x h) (zR E [.var [.sv none 0 [] 0,.j 0,.j 0]]/\uP h (Q x b c d e g)))))))):BCalls prog 50 [(Sh.ag 2),(Sh.sl 0),(Sh.int IntKind.i64),(Sh.int IntKind.i64)] [.pb 0 0 0 0] [.var [.sv I 0 J O,.int .i64 U,.int .i64 Y]] N Q:=
  zKN tK h
theorem zBo (N:Nat) (I:Option Addr) (J:List D) (O:Nat) (U Y:Int) (Q:QT [Sh.pk,(Sh.int IntKind.i64),Sh.str,Sh.str,(Sh.int IntKind.i64),Sh.dc,Sh.dc,Sh.dc,Sh.dc,(Sh.row (OfNat.ofNat 29) 9),(Sh.sl 0),(Sh.int IntKind.i64),(Sh.int IntKind.i64)]) (h:∀ E:Env,
Bel N (D.sl I 0 J O)->∀ b,N<=b->BCalls prog 35 [.i,.sl 0,.i,.i] [.pb 0 0 0 0,.j 4] [Bx.var [.sv I 0 J O,.j
 U,.j Y]] b (λn a c d e f g=>b<=g->Bel g (D.sl a 0 c d)->Br (n==0) (∀ b,g<=b->BCalls prog 47 [.i,.sl 0,.i,.i,.sl 0] [.pb
 0 0 0 0,.sb 1 0 0 5 5] [Bx.var [.sv a 0 c d,.j e,.j f],Bx.arr 3 0 [D.j 0,D.j 1,D.j 2,D.j 3,D.j 10006] 5] b (λa c d e f g h i
 j k=>b<=k->Bel k (D.sl c 0 d e)->Bel k (D.sl h 0 i j)->∀ b,k<=b->ACalls prog 85 [.pk,.i,.str,.str,.i,.dc,.dc,.dc,.dc,
 .row 29 9] [.j a] b (λa s h i x j k l m n o=>b<=o->Bel o (D.ag m)->zR E [.var [.sv none 0 [] 0,.j 0,.j 0]]/\(m.length
 = m.length/\n=n)/\uP o (Q a s h i x j k l m n c d e f g)))) (Br (n==1) (∀ b,g<=b->BCalls prog 35 [.i,.sl 0,.i,
 .i] [.pb 0 0 0 0,.j 2] [Bx.var [.sv a 0 c d,.j e,.j f]] b (λa c d e f g h=>b<=h->Bel h (D.sl c 0 d e)->∀ b,h<=b
 -> ACalls prog 86 [.pk,.i,.str,.str,.i,.dc,.dc,.dc,.dc,.row 29 9] [.j a] b (λa h i j k l m n o p q=>b<=q->Bel
 q (D.ag o)->zR E [.var [.sv none 0 [] 0,.j 0,.j 0]]/\(o.length=o.length/\p=p)/\uP q (Q a h i j k l m n o p
 c d e f g)))) (cP [D.t (bytes [120]),D.t (bytes [121]),D.t (bytes [102])] 48 9 3 a c d e f g (λa b c d e f _ _ _
 g=>∀ h,g<=h->ACalls prog 49 [.pk,.i,.str,.str,.i,.dc,.dc,.dc,.dc,.row 29 9] [.str a] h (λa g i j k l m n o
 p q=>h<=q->Bel q (D.ag o)->zR E [.var [.sv none 0 [] 0,.j 0,.j 0]]/\(o.length=o.length/\p=p)/\uP q (Q a g i j
 k l m n o p b c d e f))))))):BCalls prog 80 [Sh.pk,(Sh.int IntKind.i64),Sh.str,Sh.str,(Sh.int IntKind.i64),Sh.dc,Sh.dc,Sh.dc,Sh.dc,(Sh.row (OfNat.ofNat 29) 9),(Sh.sl 0),(Sh.int IntKind.i64),(Sh.int IntKind.i64)] [.pb 0 0 0 0] [.var [.sv I 0 J O,.int .i64 U,.int .i64 Y]] N Q:=
  zKN H0 h
theorem zB4 (E:Env) (Q:QT [Sh.pk,(Sh.int IntKind.i64),Sh.str,Sh.str,(Sh.int IntKind.i64),Sh.dc,Sh.dc,Sh.dc,Sh.dc,(Sh.row (OfNat.ofNat 29) 9),(Sh.sl 0),(Sh.int IntKind.i64),(Sh.int IntKind.i64)]) (N0:Nat) (n1:Int) (J:Option Addr) (O:List D) (U:Nat) (Y aa ab:Int) (ac ae:ByteArray) (ah ai:Int) (aj:Option Addr) (ak:List D) (al:Nat) (am:Int) (ao:Option Addr) (aq:List D) (au:Nat) (aw:Option Addr) (ax:List D) (ay:Nat) (I:Int) (az a2:ByteArray) (a3 ba:Int) (bb:Option Addr) (bc:List D) (bg:Nat) (a4:Int) (a5:Option Addr) (a6:List D) (a7 a8 a9:Nat) (r3:List D) (q3:Nat) (N:Nat) (h :
Br (I==6) (cA 2 38 [.j 2] J O U Y aa N (λx a b c n d e=>wM E Q N0 n1 a b c n d ab ac ae ah ai aj
 ak al am ao aq au aw ax ay I az a2 a3 (x.cell 0) (x.cell 1) a4 a5 a6 a7 a8 a9 r3 q3 e)) (Br (I==9) (cA 2 38 [.j 2]
 J O U Y aa N (λa b c d e f g=>wM E Q N0 n1 b c d e f ab ac ae ah ai aj ak al am ao
 aq au aw ax ay I az a2 a3 (a.cell 0) (a.cell 1) a4 a5 a6 a7 a8 a9 r3 q3 g)) (wX E Q N0 n1 J O U
 Y aa ab ac ae ah ai aj ak al am ao aq au aw ax ay I az a2 a3 ba bb bc bg a4 a5 a6 a7 a8 a9 r3 q3
 N))):zq E Q N0 n1 J O U Y aa ab ac ae ah ai aj ak al am ao aq au aw ax ay I az a2 a3 ba bb bc bg a4 a5 a6 a7 a8 a9 r3 q3 N:=
  zAH zk h
theorem xc (N:Nat) (n1:Int) (I:Option Addr) (J:List D) (O:Nat) (U Y:Int) (Q:QT [(Sh.ag 2),(Sh.sl 0),(Sh.int IntKind.i64),(Sh.int IntKind.i64)]) (h:∀ E:Env,
Bel N (D.sl I 0 J O)->Br (decide (n1<2)) (∀ b,N<=b->BCalls prog 47 [.i,.sl 0,.i,.i,.sl 0] [.pb 0 0 0 0,.sb 1 0 0 3 3]
 [Bx.var [.sv I 0 J O,.j U,.j Y],Bx.arr 3 0 [D.j 1,D.j 1,D.j 2] 3] b (λn a c d e f g h i j=>b<=j->Bel j (D.sl a
 0 c d)->Bel j (D.sl g 0 h i)->zR E [.var [.sv none 0 [] 0,.j 0,.j 0]]/\uP j (Q (D.ag [D.j n,D.sl none 2 [] 0]) a c d e f))) (cB 24 [.j 2]
 I J O U Y N (λb a c d e f g=>Br b (∀ b,g<=b->BCalls prog 47 [.i,.sl 0,.i,.i,.sl 0] [.pb 0 0 0 0,.sb 1 0 0 3 3]
 [Bx.var [.sv a 0 c d,.j e,.j f],Bx.arr 3 0 [D.j 1,D.j 1,D.j 2] 3] b (λa c d e f g h i j k=>b<=k->Bel k (D.sl c
 0 d e)->Bel k (D.sl h 0 i j)->zR E [.var [.sv none 0 [] 0,.j 0,.j 0]]/\uP k (Q (D.ag [D.j a,D.sl none 2 [] 0]) c d e f g)))
 (cB 24 [.j 2] a c d e f g (λa b c d e f g=>Br a (cA 2 38 [.j (IntKind.i64.wrap (n1 - 1))] b c d e f g (λx a
 b c d e f=>kA 2 54 [.dg 2 x] f (λf g=>zR E [.var [.sv none 0 [] 0,.j 0,.j 0]]/\uP g (Q f a b c d e)))) (cA 2 38
 [.j (IntKind.i64.wrap (n1 - 1))] b c d e f g (λa b c d e f g=>cA 2 38 [.j (IntKind.i64.wrap (n1 - 1))] b c d e f
 g (λb c d e f g h=>kA 2 55 [.dg 2 a,.dg 2 b] h (λa b=>zR E [.var [.sv none 0 [] 0,.j 0,.j 0]]/\uP b (Q a c
 d e f g)))))))))):BCalls prog 38 [(Sh.ag 2),(Sh.sl 0),(Sh.int IntKind.i64),(Sh.int IntKind.i64)] [.pb 0 0 0 0,.int .i64 n1] [.var [.sv I 0 J O,.int .i64 U,.int .i64 Y]] N Q:=
  zKN zFF h
theorem t4 (E:Env) (Q:QT [(Sh.ag 2),(Sh.sl 0),(Sh.int IntKind.i64),(Sh.int IntKind.i64)]) (N0:Nat) (n4 n5:Int) (I:Option Addr) (J:List D) (O:Nat) (U Y aa:Int) (ab:Option Addr) (ac:List D) (ae:Nat) (y2:D) (N:Nat) (h :
Br (decide (n5<n4)) (kA 2 54 [.dg 2 y2] N (λx a=>xi E Q N0 n4 (IntKind.i64.wrap (n5+1)) I J O U Y aa ab ac
 ae x a)) (zR E [.var [.sv none 0 [] 0,.j 0,.j 0]]/\uP N (Q y2 I J O U Y))):xi E Q N0 n4 n5 I J O U Y aa ab ac ae y2 N:=
  zAH tK h
theorem th (E:Env) (Q:QT [(Sh.ag 2),(Sh.sl 0),(Sh.int IntKind.i64),(Sh.int IntKind.i64)]) (N0:Nat) (n6:Int) (I:Option Addr) (J:List D) (O:Nat) (U Y aa:Int) (ab:Option Addr) (ac:List D) (ae:Nat) (y2:D) (N:Nat) (h :
Br (decide (n6<3)) (kA 2 55 [.dg 2 y2,.dg 2 y2] N (λx a=>xh E Q N0 (IntKind.i64.wrap (n6+1)) I J O U Y aa ab
 ac ae x a)) (zR E [.var [.sv none 0 [] 0,.j 0,.j 0]]/\uP N (Q y2 I J O U Y))):xh E Q N0 n6 I J O U Y aa ab ac ae y2 N:=
  zAH tK h
theorem zCs (E:Env) (Q:QT [Sh.pk,(Sh.int IntKind.i64),Sh.str,Sh.str,(Sh.int IntKind.i64),Sh.dc,Sh.dc,Sh.dc,Sh.dc,(Sh.row (OfNat.ofNat 29) 9),(Sh.sl 0),(Sh.int IntKind.i64),(Sh.int IntKind.i64)]) (N0:Nat) (n1:Int) (J:Option Addr) (O:List D) (U:Nat) (Y aa ab:Int) (ac ae:ByteArray) (ah ai:Int) (aj:Option Addr) (ak:List D) (al:Nat) (am:Int) (ao:Option Addr) (aq:List D) (au:Nat) (aw:Option Addr) (ax:List D) (ay:Nat) (I:Int) (az a7:ByteArray) (a2:Int) (a3 a4:D) (a8:Int) (a9:Option Addr) (ba:List D) (bb a5 a6:Nat) (r3:List D) (q3:Nat) (N:Nat) (h :
Br (I==9) (cP [D.t (bytes [122]),D.t (bytes [119])] 48 9 2 J O U Y aa N (λs a b c n d _ _ _ e=>cA 2 38 [.j 2] a b c n
 d e (λx a b c d e f=>vq E Q N0 n1 a b c d e ab ac ae ah ai aj ak al am ao aq au aw ax
 ay I az s a2 a3 a4 (x.cell 0) (x.cell 1) a5 a6 r3 q3 f))) (wH E Q N0 n1 J O U Y aa ab ac ae ah ai aj
 ak al am ao aq au aw ax ay I az a7 a2 a3 a4 a8 a9 ba bb a5 a6 r3 q3 N)):wM E Q N0 n1 J O U Y aa ab ac ae ah ai aj ak al am ao aq au aw ax ay I az a7 a2 a3 a4 a8 a9 ba bb a5 a6 r3 q3 N:=
  zAH zk h
theorem pe (E:Env) (Q:QT [Sh.pk,(Sh.int IntKind.i64),Sh.str,Sh.str,(Sh.int IntKind.i64),Sh.dc,Sh.dc,Sh.dc,Sh.dc,(Sh.row (OfNat.ofNat 29) 9),(Sh.sl 0),(Sh.int IntKind.i64),(Sh.int IntKind.i64)]) (N0:Nat) (n1:Int) (J:Option Addr) (O:List D) (U:Nat) (Y aa ab:Int) (ac ae:ByteArray) (ah ai:Int) (aj:Option Addr) (ak:List D) (al:Nat) (am:Int) (ao:Option Addr) (aq:List D) (au:Nat) (aw:Option Addr) (ax:List D) (ay:Nat) (I:Int) (az a9:ByteArray) (a2 a3:Int) (a4:Option Addr) (a5:List D) (a6:Nat) (ba:Int) (bb:Option Addr) (bc:List D) (bg a7 a8:Nat) (r3:List D) (q3:Nat) (N:Nat) (h :
Br (I==9) (cP [D.t (bytes [122]),D.t (bytes [119])] 48 9 2 J O U Y aa N (λs a b c n d _ _ _ e=>cA 2 38 [.j 2] a b c n
 d e (λx a b c d e f=>wF E Q N0 n1 a b c d e ab ac ae ah ai aj ak al am ao aq au aw ax
 ay I az s a2 a3 a4 a5 a6 (x.cell 0) (x.cell 1) a7 a8 r3 q3 f))) (wV E Q N0 n1 J O U Y aa ab ac ae ah
 ai aj ak al am ao aq au aw ax ay I az a9 a2 a3 a4 a5 a6 ba bb bc bg a7 a8 r3 q3 N)):wX E Q N0 n1 J O U Y aa ab ac ae ah ai aj ak al am ao aq au aw ax ay I az a9 a2 a3 a4 a5 a6 ba bb bc bg a7 a8 r3 q3 N:=
  zAH zk h
theorem zCh (E:Env) (Q:QT [Sh.pk,(Sh.int IntKind.i64),Sh.str,Sh.str,(Sh.int IntKind.i64),Sh.dc,Sh.dc,Sh.dc,Sh.dc,(Sh.row (OfNat.ofNat 29) 9),(Sh.sl 0),(Sh.int IntKind.i64),(Sh.int IntKind.i64)]) (N0:Nat) (n1:Int) (a0_0:Option Addr) (e0_0:List D) (c0_0:Nat) (n0_1 n0_2 n1_0:Int) (s1_1 s1_2:ByteArray) (n1_3 n1_4:Int) (a1_5:Option Addr) (e1_5:List D) (c1_5:Nat) (n1_6:Int) (a1_7:Option Addr) (e1_7:List D) (c1_7:Nat) (a1_8:Option Addr) (e1_8:List D) (c1_8:Nat) (n2_0:Int) (s2_1 s2_2:ByteArray) (n2_3:Int) (x2_4 x2_5 x2_6 x2_7:D) (m2_8 c2_8:Nat) (r3:List D) (q3:Nat) (N:Nat) (h :
(m2_8=r3.length/\c2_8=q3)/\∀ a,ApA a r3->∀ b,N<=b->ux b [a]->ACalls prog 81 [.i] [.dg 9 (D.ag [D.j n2_0,D.t s2_1,D.t s2_2,D.j n2_3,
 x2_4,x2_5,x2_6,x2_7,D.sl a 9 r3 c2_8])] b (fun n a=>b<=a->wO E Q N0 n1 n 0 a0_0 e0_0 c0_0 n0_1 n0_2 n1_0 s1_1 s1_2 n1_3 n1_4 a1_5 e1_5
 c1_5 n1_6 a1_7 e1_7 c1_7 a1_8 e1_8 c1_8 n2_0 s2_1 s2_2 n2_3 x2_4 x2_5 x2_6 x2_7 m2_8 c2_8 r3 q3 a)):vq E Q N0 n1 a0_0 e0_0 c0_0 n0_1 n0_2 n1_0 s1_1 s1_2 n1_3 n1_4 a1_5 e1_5 c1_5 n1_6 a1_7 e1_7 c1_7 a1_8 e1_8 c1_8 n2_0 s2_1 s2_2 n2_3 x2_4 x2_5 x2_6 x2_7 m2_8 c2_8 r3 q3 N:=
  zAH zk h
theorem pq (E:Env) (Q:QT [Sh.pk,(Sh.int IntKind.i64),Sh.str,Sh.str,(Sh.int IntKind.i64),Sh.dc,Sh.dc,Sh.dc,Sh.dc,(Sh.row (OfNat.ofNat 29) 9),(Sh.sl 0),(Sh.int IntKind.i64),(Sh.int IntKind.i64)]) (N0:Nat) (n1:Int) (a0_0:Option Addr) (e0_0:List D) (c0_0:Nat) (n0_1 n0_2 n1_0:Int) (s1_1 s1_2:ByteArray) (n1_3 n1_4:Int) (a1_5:Option Addr) (e1_5:List D) (c1_5:Nat) (n1_6:Int) (a1_7:Option Addr) (e1_7:List D) (c1_7:Nat) (a1_8:Option Addr) (e1_8:List D) (c1_8:Nat) (n2_0:Int) (s2_1 s2_2:ByteArray) (n2_3:Int) (x2_4 x2_5:D) (n2_6:Int) (a2_7:Option Addr) (e2_7:List D) (c2_7 m2_8 c2_8:Nat) (r3:List D) (q3:Nat) (N:Nat) (h :
(m2_8=r3.length/\c2_8=q3)/\∀ a,ApA a r3->∀ b,N<=b->ux b [a]->ACalls prog 81 [.i] [.dg 9 (D.ag [D.j n2_0,D.t s2_1,D.t s2_2,D.j n2_3,
 x2_4,x2_5,D.j n2_6,D.sl a2_7 2 e2_7 c2_7,D.sl a 9 r3 c2_8])] b (fun n a=>b<=a->xC E Q N0 n1 n 0 a0_0 e0_0 c0_0 n0_1 n0_2 n1_0 s1_1
 s1_2 n1_3 n1_4 a1_5 e1_5 c1_5 n1_6 a1_7 e1_7 c1_7 a1_8 e1_8 c1_8 n2_0 s2_1 s2_2 n2_3 x2_4 x2_5 n2_6 a2_7 e2_7 c2_7 m2_8 c2_8 r3 q3 a)):wH E Q N0 n1 a0_0 e0_0 c0_0 n0_1 n0_2 n1_0 s1_1 s1_2 n1_3 n1_4 a1_5 e1_5 c1_5 n1_6 a1_7 e1_7 c1_7 a1_8 e1_8 c1_8 n2_0 s2_1 s2_2 n2_3 x2_4 x2_5 n2_6 a2_7 e2_7 c2_7 m2_8 c2_8 r3 q3 N:=
  zAH zk h
theorem pQ (E:Env) (Q:QT [Sh.pk,(Sh.int IntKind.i64),Sh.str,Sh.str,(Sh.int IntKind.i64),Sh.dc,Sh.dc,Sh.dc,Sh.dc,(Sh.row (OfNat.ofNat 29) 9),(Sh.sl 0),(Sh.int IntKind.i64),(Sh.int IntKind.i64)]) (N0:Nat) (n1:Int) (a0_0:Option Addr) (e0_0:List D) (c0_0:Nat) (n0_1 n0_2 n1_0:Int) (s1_1 s1_2:ByteArray) (n1_3 n1_4:Int) (a1_5:Option Addr) (e1_5:List D) (c1_5:Nat) (n1_6:Int) (a1_7:Option Addr) (e1_7:List D) (c1_7:Nat) (a1_8:Option Addr) (e1_8:List D) (c1_8:Nat) (n2_0:Int) (s2_1 s2_2:ByteArray) (n2_3 n2_4:Int) (a2_5:Option Addr) (e2_5:List D) (c2_5:Nat) (x2_6 x2_7:D) (m2_8 c2_8:Nat) (r3:List D) (q3:Nat) (N:Nat) (h :
(m2_8=r3.length/\c2_8=q3)/\∀ a,ApA a r3->∀ b,N<=b->ux b [a]->ACalls prog 81 [.i] [.dg 9 (D.ag [D.j n2_0,D.t s2_1,D.t s2_2,D.j n2_3,D.j
 n2_4,D.sl a2_5 2 e2_5 c2_5,x2_6,x2_7,D.sl a 9 r3 c2_8])] b (fun n a=>b<=a->yw E Q N0 n1 n 0 a0_0 e0_0 c0_0 n0_1 n0_2 n1_0 s1_1 s1_2
 n1_3 n1_4 a1_5 e1_5 c1_5 n1_6 a1_7 e1_7 c1_7 a1_8 e1_8 c1_8 n2_0 s2_1 s2_2 n2_3 n2_4 a2_5 e2_5 c2_5 x2_6 x2_7 m2_8 c2_8 r3 q3 a)):wF E Q N0 n1 a0_0 e0_0 c0_0 n0_1 n0_2 n1_0 s1_1 s1_2 n1_3 n1_4 a1_5 e1_5 c1_5 n1_6 a1_7 e1_7 c1_7 a1_8 e1_8 c1_8 n2_0 s2_1 s2_2 n2_3 n2_4 a2_5 e2_5 c2_5 x2_6 x2_7 m2_8 c2_8 r3 q3 N:=
  zAH zk h
theorem zAA (E:Env) (Q:QT [Sh.pk,(Sh.int IntKind.i64),Sh.str,Sh.str,(Sh.int IntKind.i64),Sh.dc,Sh.dc,Sh.dc,Sh.dc,(Sh.row (OfNat.ofNat 29) 9),(Sh.sl 0),(Sh.int IntKind.i64),(Sh.int IntKind.i64)]) (N0:Nat) (n1:Int) (a0_0:Option Addr) (e0_0:List D) (c0_0:Nat) (n0_1 n0_2 n1_0:Int) (s1_1 s1_2:ByteArray) (n1_3 n1_4:Int) (a1_5:Option Addr) (e1_5:List D) (c1_5:Nat) (n1_6:Int) (a1_7:Option Addr) (e1_7:List D) (c1_7:Nat) (a1_8:Option Addr) (e1_8:List D) (c1_8:Nat) (n2_0:Int) (s2_1 s2_2:ByteArray) (n2_3 n2_4:Int) (a2_5:Option Addr) (e2_5:List D) (c2_5:Nat) (n2_6:Int) (a2_7:Option Addr) (e2_7:List D) (c2_7 m2_8 c2_8:Nat) (r3:List D) (q3:Nat) (N:Nat) (h :
(m2_8=r3.length/\c2_8=q3)/\∀ a,ApA a r3->∀ b,N<=b->ux b [a]->ACalls prog 81 [.i] [.dg 9 (D.ag [D.j n2_0,D.t s2_1,D.t s2_2,D.j n2_3,D.j
 n2_4,D.sl a2_5 2 e2_5 c2_5,D.j n2_6,D.sl a2_7 2 e2_7 c2_7,D.sl a 9 r3 c2_8])] b (fun n a=>b<=a->yy E Q N0 n1 n 0 a0_0 e0_0 c0_0 n0_1
 n0_2 n1_0 s1_1 s1_2 n1_3 n1_4 a1_5 e1_5 c1_5 n1_6 a1_7 e1_7 c1_7 a1_8 e1_8 c1_8 n2_0 s2_1 s2_2 n2_3 n2_4 a2_5 e2_5 c2_5 n2_6 a2_7 e2_7 c2_7 m2_8 c2_8 r3 q3 a)):wV E Q N0 n1 a0_0 e0_0 c0_0 n0_1 n0_2 n1_0 s1_1 s1_2 n1_3 n1_4 a1_5 e1_5 c1_5 n1_6 a1_7 e1_7 c1_7 a1_8 e1_8 c1_8 n2_0 s2_1 s2_2 n2_3 n2_4 a2_5 e2_5 c2_5 n2_6 a2_7 e2_7 c2_7 m2_8 c2_8 r3 q3 N:=
  zAH zk h
theorem sT (E:Env) (Q:QT [Sh.pk,(Sh.int IntKind.i64),Sh.str,Sh.str,(Sh.int IntKind.i64),Sh.dc,Sh.dc,Sh.dc,Sh.dc,(Sh.row (OfNat.ofNat 29) 9),(Sh.sl 0),(Sh.int IntKind.i64),(Sh.int IntKind.i64)]) (N0:Nat) (n1 n6 n7:Int) (aa:Option Addr) (ab:List D) (ac:Nat) (ae ah ao:Int) (aq au:ByteArray) (aw ax:Int) (ay:Option Addr) (az:List D) (a2:Nat) (a3:Int) (a4:Option Addr) (a5:List D) (a6:Nat) (a7:Option Addr) (a8:List D) (a9:Nat) (ai:Int) (aj ak:ByteArray) (al:Int) (I J O U:D) (am Y:Nat) (r3:List D) (q3:Nat) (N:Nat) (h :
Br (decide (n7<n6)) (∀ b,N<=b->BCalls prog 46 [.pk,.i,.str,.str,.i,.dc,.dc,.dc,.dc,.row 29 9,.sl 0,.i,.i] [.pb 0 0 0 0,.j
 (IntKind.i64.wrap (n1 - 1))] [Bx.var [.sv aa 0 ab ac,.j ae,.j ah]] b (λn s a c x d e f g h i j k l m o=>b<=o->Bel o
 (D.sl i 0 j k)->Bel o (D.ag g)->(g.length=g.length/\h=h)/\∀ b p,o<=p->Fresh N0 p b [D.ag g,x,d,e,f,I,J,O,
 U,D.ag r3]->(am=r3.length/\Y=q3)/\zA r3 [D.ag [D.j n,D.t s,D.t a,D.j c,x,d,e,f,D.sl b 9 g h]] 136/\∀ (o:Nat),
 wO E Q N0 n1 n6 (IntKind.i64.wrap (n7+1)) i j k l m ao aq au aw ax ay az a2 a3 a4 a5 a6 a7 a8 a9 ai aj
 ak al I J O U (r3++[D.ag [D.j n,D.t s,D.t a,D.j c,x,d,e,f,D.sl b 9 g h]]).length o (r3++[D.ag [D.j n,D.t s,D.t a,
 D.j c,x,d,e,f,D.sl b 9 g h]]) o p)) (zR E [.var [.sv none 0 [] 0,.j 0,.j 0]]/\(am=r3.length/\Y=q3)/\uP N (Q ai aj ak
 al I J O U r3 Y aa ab ac ae ah))):wO E Q N0 n1 n6 n7 aa ab ac ae ah ao aq au aw ax ay az a2 a3 a4 a5 a6 a7 a8 a9 ai aj ak al I J O U am Y r3 q3 N:=
  zAH zk h
theorem uU (E:Env) (Q:QT [Sh.pk,(Sh.int IntKind.i64),Sh.str,Sh.str,(Sh.int IntKind.i64),Sh.dc,Sh.dc,Sh.dc,Sh.dc,(Sh.row (OfNat.ofNat 29) 9),(Sh.sl 0),(Sh.int IntKind.i64),(Sh.int IntKind.i64)]) (N0:Nat) (n1 n6 n7:Int) (ab:Option Addr) (ac:List D) (ae:Nat) (ah ai au:Int) (aw ax:ByteArray) (ay az:Int) (a2:Option Addr) (a3:List D) (a4:Nat) (a5:Int) (a6:Option Addr) (a7:List D) (a8:Nat) (a9:Option Addr) (ba:List D) (bb:Nat) (aj:Int) (ak al:ByteArray) (am:Int) (I J:D) (ao:Int) (O:Option Addr) (U:List D) (Y aq aa:Nat) (r3:List D) (q3:Nat) (N:Nat) (h :
Br (decide (n7<n6)) (∀ b,N<=b->BCalls prog 46 [.pk,.i,.str,.str,.i,.dc,.dc,.dc,.dc,.row 29 9,.sl 0,.i,.i] [.pb 0 0 0 0,.j
 (IntKind.i64.wrap (n1 - 1))] [Bx.var [.sv ab 0 ac ae,.j ah,.j ai]] b (λn s a c x d e f g h i j k l m o=>b<=o->Bel o
 (D.sl i 0 j k)->Bel o (D.ag g)->(g.length=g.length/\h=h)/\∀ b p,o<=p->Fresh N0 p b [D.ag g,x,d,e,f,I,J,D.sl O
 2 U Y,D.ag r3]->(aq=r3.length/\aa=q3)/\zA r3 [D.ag [D.j n,D.t s,D.t a,D.j c,x,d,e,f,D.sl b 9 g h]] 136/\∀ (o :
 Nat),xC E Q N0 n1 n6 (IntKind.i64.wrap (n7+1)) i j k l m au aw ax ay az a2 a3 a4 a5 a6 a7 a8 a9 ba bb
 aj ak al am I J ao O U Y (r3++[D.ag [D.j n,D.t s,D.t a,D.j c,x,d,e,f,D.sl b 9 g h]]).length o (r3++[D.ag
 [D.j n,D.t s,D.t a,D.j c,x,d,e,f,D.sl b 9 g h]]) o p)) (zR E [.var [.sv none 0 [] 0,.j 0,.j 0]]/\(aq=r3.length/\aa=q3) /\
 uP N (Q aj ak al am I J (D.j ao) (D.sl O 2 U Y) r3 aa ab ac ae ah ai))):xC E Q N0 n1 n6 n7 ab ac ae ah ai au aw ax ay az a2 a3 a4 a5 a6 a7 a8 a9 ba bb aj ak al am I J ao O U Y aq aa r3 q3 N:=
  zAH zk h
theorem uZ (E:Env) (Q:QT [Sh.pk,(Sh.int IntKind.i64),Sh.str,Sh.str,(Sh.int IntKind.i64),Sh.dc,Sh.dc,Sh.dc,Sh.dc,(Sh.row (OfNat.ofNat 29) 9),(Sh.sl 0),(Sh.int IntKind.i64),(Sh.int IntKind.i64)]) (N0:Nat) (n1 n6 n7:Int) (ab:Option Addr) (ac:List D) (ae:Nat) (ah ai au:Int) (aw ax:ByteArray) (ay az:Int) (a2:Option Addr) (a3:List D) (a4:Nat) (a5:Int) (a6:Option Addr) (a7:List D) (a8:Nat) (a9:Option Addr) (ba:List D) (bb:Nat) (aj:Int) (ak al:ByteArray) (am ao:Int) (I:Option Addr) (J:List D) (O:Nat) (U Y:D) (aq aa:Nat) (r3:List D) (q3:Nat) (N:Nat) (h :
Br (decide (n7<n6)) (∀ b,N<=b->BCalls prog 46 [.pk,.i,.str,.str,.i,.dc,.dc,.dc,.dc,.row 29 9,.sl 0,.i,.i] [.pb 0 0 0 0,.j
 (IntKind.i64.wrap (n1 - 1))] [Bx.var [.sv ab 0 ac ae,.j ah,.j ai]] b (λn s a c x d e f g h i j k l m o=>b<=o->Bel o
 (D.sl i 0 j k)->Bel o (D.ag g)->(g.length=g.length/\h=h)/\∀ b p,o<=p->Fresh N0 p b [D.ag g,x,d,e,f,D.sl I 2 J
 O,U,Y,D.ag r3]->(aq=r3.length/\aa=q3)/\zA r3 [D.ag [D.j n,D.t s,D.t a,D.j c,x,d,e,f,D.sl b 9 g h]] 136/\∀ (o
 : Nat),yw E Q N0 n1 n6 (IntKind.i64.wrap (n7+1)) i j k l m au aw ax ay az a2 a3 a4 a5 a6 a7 a8 a9 ba
 bb aj ak al am ao I J O U Y (r3++[D.ag [D.j n,D.t s,D.t a,D.j c,x,d,e,f,D.sl b 9 g h]]).length o (r3 ++
 [D.ag [D.j n,D.t s,D.t a,D.j c,x,d,e,f,D.sl b 9 g h]]) o p)) (zR E [.var [.sv none 0 [] 0,.j 0,.j 0]]/\(aq=r3.length/\aa =
 q3)/\uP N (Q aj ak al am (D.j ao) (D.sl I 2 J O) U Y r3 aa ab ac ae ah ai))):yw E Q N0 n1 n6 n7 ab ac ae ah ai au aw ax ay az a2 a3 a4 a5 a6 a7 a8 a9 ba bb aj ak al am ao I J O U Y aq aa r3 q3 N:=
  zAH zk h
theorem uX (E:Env) (Q:QT [Sh.pk,(Sh.int IntKind.i64),Sh.str,Sh.str,(Sh.int IntKind.i64),Sh.dc,Sh.dc,Sh.dc,Sh.dc,(Sh.row (OfNat.ofNat 29) 9),(Sh.sl 0),(Sh.int IntKind.i64),(Sh.int IntKind.i64)]) (N0:Nat) (n1 n6 n7:Int) (ac:Option Addr) (ae:List D) (ah:Nat) (ai aj ax:Int) (ay az:ByteArray) (a2 a3:Int) (a4:Option Addr) (a5:List D) (a6:Nat) (a7:Int) (a8:Option Addr) (a9:List D) (ba:Nat) (bb:Option Addr) (bc:List D) (bg:Nat) (ak:Int) (al am:ByteArray) (ao aq:Int) (I:Option Addr) (J:List D) (O:Nat) (au:Int) (U:Option Addr) (Y:List D) (aa aw ab:Nat) (r3:List D) (q3:Nat) (N:Nat) (h :
Br (decide (n7<n6)) (∀ b,N<=b->BCalls prog 46 [.pk,.i,.str,.str,.i,.dc,.dc,.dc,.dc,.row 29 9,.sl 0,.i,.i] [.pb 0 0 0 0,.j
 (IntKind.i64.wrap (n1 - 1))] [Bx.var [.sv ac 0 ae ah,.j ai,.j aj]] b (λn s a c x d e f g h i j k l m o=>b<=o->Bel o
 (D.sl i 0 j k)->Bel o (D.ag g)->(g.length=g.length/\h=h)/\∀ b p,o<=p->Fresh N0 p b [D.ag g,x,d,e,f,D.sl I 2 J
 O,D.sl U 2 Y aa,D.ag r3]->(aw=r3.length/\ab=q3)/\zA r3 [D.ag [D.j n,D.t s,D.t a,D.j c,x,d,e,f,D.sl b 9 g h]]
 136/\∀ (o:Nat),yy E Q N0 n1 n6 (IntKind.i64.wrap (n7+1)) i j k l m ax ay az a2 a3 a4 a5 a6 a7 a8 a9 ba
 bb bc bg ak al am ao aq I J O au U Y aa (r3++[D.ag [D.j n,D.t s,D.t a,D.j c,x,d,e,f,D.sl b 9 g
 h]]).length o (r3++[D.ag [D.j n,D.t s,D.t a,D.j c,x,d,e,f,D.sl b 9 g h]]) o p)) (zR E [.var [.sv none 0 [] 0,.j 0,.j 0]]/\(aw
 = r3.length/\ab=q3)/\uP N (Q ak al am ao (D.j aq) (D.sl I 2 J O) (D.j au) (D.sl U 2 Y aa) r3 ab ac ae ah ai aj))):yy E Q N0 n1 n6 n7 ac ae ah ai aj ax ay az a2 a3 a4 a5 a6 a7 a8 a9 ba bb bc bg ak al am ao aq I J O au U Y aa aw ab r3 q3 N:=
  zAH zk h
end Go.Proofs.YtnmnahkkcfghjaaGreat
