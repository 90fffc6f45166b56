/- Printed by gen.py: what the functions come to. -/
import Derived.Test.YtlahkdflngobiaaGreatDoorJh
set_option linter.unusedVariables false
set_option maxRecDepth 100000
namespace Go.Proofs.YtlahkdflngobiaaGreatDoor
open Go Go.Proofs Go.Proofs.Tryz
def shA:FuncId->List Sh:=λf=>match zPj f [(178,[.pk,.int .i64,.str,.str,.int .i64,.dc,.dc,.dc,.dc,.row 36 9]),(179,[.pk,.int .i64,.str,.str,.int .i64,.dc,.dc,.dc,.dc,.row 36 9]),(82,[.pk,.int .i64,.str,.str,.int .i64,.dc,.dc,.dc,.dc,.row 36 9]),(146,[.row 0 1000007,.pk,.int .i64,.str,.str,.int .i64,.dc,.dc,.dc,.dc,.row 36 9]),(107,[.row 0 1000007,.pk,.int .i64,.str,.str,.int .i64,.dc,.dc,.dc,.dc,.row 36 9])] with
 | []=>sh f
 | l=>l
theorem zRx {f:FuncId} {rs:List Sh} {Q:QT rs} {N:Nat} (H:Hint) {args:List PV} {F:Prop} (h:F) (hc:yW prog f=true:=by kernel_rfl) (I:F=zLm prog shA f rs Q N H 400 args:=by kernel_rfl):ACalls prog f rs args N Q:=zSj mixed hc I h
theorem zK8 {f:FuncId} {full:List Sh} {Q:QT full} {N:Nat} (H:Hint) {args:List PV} {bx:List Bx} {F:Env->Prop} (h:∀ E,F E) (hc:yW prog f=true:=by kernel_rfl) (I:∀ E,F E=zJ9 prog shA f full Q N H 400 args bx E:=by intro E;kernel_rfl):BCalls prog f full args bx N Q:=zPl mixed hc I h
theorem zBf {f:FuncId} {rs:List Sh} {Q:QT rs} {N0:Nat} {M:Mode} (H:Hint) {I:List Item} {st:St} {F:Prop} (h:F) (J:F=zDK st λst=>W prog shA f rs Q N0 M H 400 true I st:=by kernel_rfl):AT prog f rs Q N0 M I st:=zUo mixed J h
def zIh:Hint:=⟨[],[],[(4,hs 6 [ec 4 [21]]),(6,[en 0,en 1,en 2,en 3,eh 4,ec 5 [27,31],eh 6])]⟩
def yF:Hint:=⟨[hc 18 [0,1,4,5,6,7] [] [(5,8,36,9)]],[hc 11 [0,1,4,5] [] [(5,8,36,9)],hc 13 [0,1,4,5] [] [(5,8,36,9)],hc 16 [0,1,4,5] [] [(5,8,36,9)]],[(20,[en 0,en 1,en 2,en 3,en 4,eh 5,{ i:=6,hard:=true,cl:=[69],fs:=[5,69] },eh 7,en 8,eh 9])]⟩
def rh:Hint:=⟨[hc 10 [2,3,4,5],hc 15 [2,3,6]],[],[(6,[en 0,en 1,eh 2,en 3,eh 4,en 5,eh 6]),(12,hs 3 [ec 1 [34]]),(17,hs 4 [ec 2 [42,43]])]⟩
def zI4:Hint:=⟨[],[],[(10,[en 0,en 1,eh 2,{ i:=3,hard:=true,cl:=[32],fs:=[3,32] },eh 4,en 5,eh 6])]⟩
def zAl:Hint:=⟨[],[hc 9 [3,4,5]],[(9,[en 0,en 1,en 2,eh 3])]⟩
def xq (E:Env) (Q:QT [.sl 4,.ag 9,.sl 0,.i,.i]) (N0:Nat) (m4 c4:Nat) (I:Option Addr) (J:List D) (O:Nat) (aa ab ac:Int) (ae ah:ByteArray) (ai aj:Int) (ak:Option Addr) (al:List D) (am:Nat) (ao:Int) (aq:Option Addr) (au:List D) (aw:Nat) (ax:Option Addr) (ay:List D) (az:Nat) (r2:List D) (q2:Nat) (y3:D) (N:Nat):Prop:=AT prog 95 [.sl 4,.ag 9,.sl 0,.i,.i] Q N0 (.io E [.var [.sv none 0 [] 0,.int .i64 0,.int .i64 0]]) (qI prog 95 9) ⟨an 3 (.pb 1 0 0 0::.sb 2 4 0 m4 c4::.pb 3 0 0 0::an 29 []),[.var [.sv I 0 J O,.int .i64 aa,.int .i64 ab],.var [.int .i64 ac,.str ae,.str ah,.int .i64 ai,.int .i64 aj,.sv ak 2 al am,.int .i64 ao,.sv aq 2 au aw,.sv ax 9 ay az],.arr 74 4 r2 q2,.vd y3 9],N,some (wO E 0 [.var [.sv none 0 [] 0,.int .i64 0,.int .i64 0]],[])⟩
def yS (E:Env) (Q:QT [.pk,.i,.str,.str,.i,.dc,.dc,.dc,.dc,.row 36 9,.sl 0,.i,.i]) (N0:Nat) (n1:Int) (I:Option Addr) (J:List D) (O:Nat) (aa ab ac:Int) (ae ah:ByteArray) (ai aj:Int) (ak:Option Addr) (al:List D) (am:Nat) (ao:Int) (aq:Option Addr) (au:List D) (aw:Nat) (ax:Option Addr) (ay:List D) (az:Nat) (a6:Int) (a7 a8:ByteArray) (ba bb:Int) (bc:Option Addr) (bd:List D) (bg:Nat) (bh:Int) (bi:Option Addr) (bj:List D) (bm bn bp:Nat) (r3:List D) (q3:Nat) (N:Nat):Prop:=AT prog 107 [.pk,.i,.str,.str,.i,.dc,.dc,.dc,.dc,.row 36 9,.sl 0,.i,.i] Q N0 (.io E [.var [.sv none 0 [] 0,.int .i64 0,.int .i64 0]]) (qI prog 107 11) ⟨.pb 0 0 0 0::.int .i64 n1::an 2 (.pb 1 0 0 0::.pb 2 0 0 0::an 68 []),[.var [.sv I 0 J O,.int .i64 aa,.int .i64 ab],.var [.int .i64 ac,.str ae,.str ah,.int .i64 ai,.int .i64 aj,.sv ak 2 al am,.int .i64 ao,.sv aq 2 au aw,.sv ax 9 ay az],.var [.int .i64 a6,.str a7,.str a8,.int .i64 ba,.int .i64 bb,.sv bc 2 bd bg,.int .i64 bh,.sv bi 2 bj bm,.sb 3 9 0 bn bp],.arr 36 9 r3 q3],N,some (wO E 0 [.var [.sv none 0 [] 0,.int .i64 0,.int .i64 0]],[])⟩
def w9 (E:Env) (Q:QT [.ag 2,.sl 0,.i,.i]) (N0:Nat) (n4 n5:Int) (I:Option Addr) (J:List D) (O:Nat) (aa ab ac:Int) (ae:Option Addr) (ah:List D) (ai:Nat) (y2:D) (N:Nat):Prop:=AT prog 111 [.ag 2,.sl 0,.i,.i] Q N0 (.io E [.var [.sv none 0 [] 0,.int .i64 0,.int .i64 0]]) (zD prog 111 10) ⟨an 2 (.pb 1 0 0 0::.pb 2 0 0 0::.int .i64 n4::.int .i64 n5::an 40 []),[.var [.sv I 0 J O,.int .i64 aa,.int .i64 ab],.var [.int .i64 ac,.sv ae 2 ah ai],.vd y2 2],N,some (wO E 0 [.var [.sv none 0 [] 0,.int .i64 0,.int .i64 0]],[])⟩
def w7 (E:Env) (Q:QT [.ag 2,.sl 0,.i,.i]) (N0:Nat) (n6:Int) (I:Option Addr) (J:List D) (O:Nat) (aa ab ac:Int) (ae:Option Addr) (ah:List D) (ai:Nat) (y2:D) (N:Nat):Prop:=AT prog 111 [.ag 2,.sl 0,.i,.i] Q N0 (.io E [.var [.sv none 0 [] 0,.int .i64 0,.int .i64 0]]) (zD prog 111 15) ⟨an 2 (.pb 1 0 0 0::.pb 2 0 0 0::an 2 (.int .i64 n6::an 39 [])),[.var [.sv I 0 J O,.int .i64 aa,.int .i64 ab],.var [.int .i64 ac,.sv ae 2 ah ai],.vd y2 2],N,some (wO E 0 [.var [.sv none 0 [] 0,.int .i64 0,.int .i64 0]],[])⟩
def vn (E:Env) (Q:QT [.pk,.i,.str,.str,.i,.dc,.dc,.dc,.dc,.row 36 9,.sl 0,.i,.i]) (N0:Nat) (n1:Int) (I:Option Addr) (J:List D) (O:Nat) (aa ab ac:Int) (ae ah:ByteArray) (ai aj:Int) (ak:Option Addr) (al:List D) (am:Nat) (ao:Int) (aq:Option Addr) (au:List D) (aw:Nat) (ax:Option Addr) (ay:List D) (az:Nat) (a6:Int) (a7 a8:ByteArray) (ba:Int) (bb bc:D) (bd:Int) (bg:Option Addr) (bh:List D) (bi bj bm:Nat) (r3:List D) (q3:Nat) (N:Nat):Prop:=AT prog 107 [.pk,.i,.str,.str,.i,.dc,.dc,.dc,.dc,.row 36 9,.sl 0,.i,.i] Q N0 (.io E [.var [.sv none 0 [] 0,.int .i64 0,.int .i64 0]]) (qI prog 107 13) ⟨.pb 0 0 0 0::.int .i64 n1::an 2 (.pb 1 0 0 0::.pb 2 0 0 0::an 68 []),[.var [.sv I 0 J O,.int .i64 aa,.int .i64 ab],.var [.int .i64 ac,.str ae,.str ah,.int .i64 ai,.int .i64 aj,.sv ak 2 al am,.int .i64 ao,.sv aq 2 au aw,.sv ax 9 ay az],.var [.int .i64 a6,.str a7,.str a8,.int .i64 ba,.dc bb,.dc bc,.int .i64 bd,.sv bg 2 bh bi,.sb 3 9 0 bj bm],.arr 36 9 r3 q3],N,some (wO E 0 [.var [.sv none 0 [] 0,.int .i64 0,.int .i64 0]],[])⟩
def uB (E:Env) (Q:QT [.pk,.i,.str,.str,.i,.dc,.dc,.dc,.dc,.row 36 9,.sl 0,.i,.i]) (N0:Nat) (n1:Int) (I:Option Addr) (J:List D) (O:Nat) (aa ab ac:Int) (ae ah:ByteArray) (ai aj:Int) (ak:Option Addr) (al:List D) (am:Nat) (ao:Int) (aq:Option Addr) (au:List D) (aw:Nat) (ax:Option Addr) (ay:List D) (az:Nat) (a6:Int) (a7 a8:ByteArray) (ba bb:Int) (bc:Option Addr) (bd:List D) (bg:Nat) (bh:Int) (bi:Option Addr) (bj:List D) (bm bn bp:Nat) (r3:List D) (q3:Nat) (N:Nat):Prop:=AT prog 107 [.pk,.i,.str,.str,.i,.dc,.dc,.dc,.dc,.row 36 9,.sl 0,.i,.i] Q N0 (.io E [.var [.sv none 0 [] 0,.int .i64 0,.int .i64 0]]) (qI prog 107 13) ⟨.pb 0 0 0 0::.int .i64 n1::an 2 (.pb 1 0 0 0::.pb 2 0 0 0::an 68 []),[.var [.sv I 0 J O,.int .i64 aa,.int .i64 ab],.var [.int .i64 ac,.str ae,.str ah,.int .i64 ai,.int .i64 aj,.sv ak 2 al am,.int .i64 ao,.sv aq 2 au aw,.sv ax 9 ay az],.var [.int .i64 a6,.str a7,.str a8,.int .i64 ba,.int .i64 bb,.sv bc 2 bd bg,.int .i64 bh,.sv bi 2 bj bm,.sb 3 9 0 bn bp],.arr 36 9 r3 q3],N,some (wO E 0 [.var [.sv none 0 [] 0,.int .i64 0,.int .i64 0]],[])⟩
def tW (E:Env) (Q:QT [.pk,.i,.str,.str,.i,.dc,.dc,.dc,.dc,.row 36 9,.sl 0,.i,.i]) (N0:Nat) (n1:Int) (I:Option Addr) (J:List D) (O:Nat) (aa ab ac:Int) (ae ah:ByteArray) (ai aj:Int) (ak:Option Addr) (al:List D) (am:Nat) (ao:Int) (aq:Option Addr) (au:List D) (aw:Nat) (ax:Option Addr) (ay:List D) (az:Nat) (a6:Int) (a7 a8:ByteArray) (ba:Int) (bb bc bd bg:D) (bh bi:Nat) (r3:List D) (q3:Nat) (N:Nat):Prop:=AT prog 107 [.pk,.i,.str,.str,.i,.dc,.dc,.dc,.dc,.row 36 9,.sl 0,.i,.i] Q N0 (.io E [.var [.sv none 0 [] 0,.int .i64 0,.int .i64 0]]) (qI prog 107 16) ⟨.pb 0 0 0 0::.int .i64 n1::an 2 (.pb 1 0 0 0::.pb 2 0 0 0::an 68 []),[.var [.sv I 0 J O,.int .i64 aa,.int .i64 ab],.var [.int .i64 ac,.str ae,.str ah,.int .i64 ai,.int .i64 aj,.sv ak 2 al am,.int .i64 ao,.sv aq 2 au aw,.sv ax 9 ay az],.var [.int .i64 a6,.str a7,.str a8,.int .i64 ba,.dc bb,.dc bc,.dc bd,.dc bg,.sb 3 9 0 bh bi],.arr 36 9 r3 q3],N,some (wO E 0 [.var [.sv none 0 [] 0,.int .i64 0,.int .i64 0]],[])⟩
def vl (E:Env) (Q:QT [.pk,.i,.str,.str,.i,.dc,.dc,.dc,.dc,.row 36 9,.sl 0,.i,.i]) (N0:Nat) (n1:Int) (I:Option Addr) (J:List D) (O:Nat) (aa ab ac:Int) (ae ah:ByteArray) (ai aj:Int) (ak:Option Addr) (al:List D) (am:Nat) (ao:Int) (aq:Option Addr) (au:List D) (aw:Nat) (ax:Option Addr) (ay:List D) (az:Nat) (a6:Int) (a7 a8:ByteArray) (ba:Int) (bb bc:D) (bd:Int) (bg:Option Addr) (bh:List D) (bi bj bm:Nat) (r3:List D) (q3:Nat) (N:Nat):Prop:=AT prog 107 [.pk,.i,.str,.str,.i,.dc,.dc,.dc,.dc,.row 36 9,.sl 0,.i,.i] Q N0 (.io E [.var [.sv none 0 [] 0,.int .i64 0,.int .i64 0]]) (qI prog 107 16) ⟨.pb 0 0 0 0::.int .i64 n1::an 2 (.pb 1 0 0 0::.pb 2 0 0 0::an 68 []),[.var [.sv I 0 J O,.int .i64 aa,.int .i64 ab],.var [.int .i64 ac,.str ae,.str ah,.int .i64 ai,.int .i64 aj,.sv ak 2 al am,.int .i64 ao,.sv aq 2 au aw,.sv ax 9 ay az],.var [.int .i64 a6,.str a7,.str a8,.int .i64 ba,.dc bb,.dc bc,.int .i64 bd,.sv bg 2 bh bi,.sb 3 9 0 bj bm],.arr 36 9 r3 q3],N,some (wO E 0 [.var [.sv none 0 [] 0,.int .i64 0,.int .i64 0]],[])⟩
def vg (E:Env) (Q:QT [.pk,.i,.str,.str,.i,.dc,.dc,.dc,.dc,.row 36 9,.sl 0,.i,.i]) (N0:Nat) (n1:Int) (I:Option Addr) (J:List D) (O:Nat) (aa ab ac:Int) (ae ah:ByteArray) (ai aj:Int) (ak:Option Addr) (al:List D) (am:Nat) (ao:Int) (aq:Option Addr) (au:List D) (aw:Nat) (ax:Option Addr) (ay:List D) (az:Nat) (a6:Int) (a7 a8:ByteArray) (ba bb:Int) (bc:Option Addr) (bd:List D) (bg:Nat) (bh bi:D) (bj bm:Nat) (r3:List D) (q3:Nat) (N:Nat):Prop:=AT prog 107 [.pk,.i,.str,.str,.i,.dc,.dc,.dc,.dc,.row 36 9,.sl 0,.i,.i] Q N0 (.io E [.var [.sv none 0 [] 0,.int .i64 0,.int .i64 0]]) (qI prog 107 16) ⟨.pb 0 0 0 0::.int .i64 n1::an 2 (.pb 1 0 0 0::.pb 2 0 0 0::an 68 []),[.var [.sv I 0 J O,.int .i64 aa,.int .i64 ab],.var [.int .i64 ac,.str ae,.str ah,.int .i64 ai,.int .i64 aj,.sv ak 2 al am,.int .i64 ao,.sv aq 2 au aw,.sv ax 9 ay az],.var [.int .i64 a6,.str a7,.str a8,.int .i64 ba,.int .i64 bb,.sv bc 2 bd bg,.dc bh,.dc bi,.sb 3 9 0 bj bm],.arr 36 9 r3 q3],N,some (wO E 0 [.var [.sv none 0 [] 0,.int .i64 0,.int .i64 0]],[])⟩
def vw (E:Env) (Q:QT [.pk,.i,.str,.str,.i,.dc,.dc,.dc,.dc,.row 36 9,.sl 0,.i,.i]) (N0:Nat) (n1:Int) (I:Option Addr) (J:List D) (O:Nat) (aa ab ac:Int) (ae ah:ByteArray) (ai aj:Int) (ak:Option Addr) (al:List D) (am:Nat) (ao:Int) (aq:Option Addr) (au:List D) (aw:Nat) (ax:Option Addr) (ay:List D) (az:Nat) (a6:Int) (a7 a8:ByteArray) (ba bb:Int) (bc:Option Addr) (bd:List D) (bg:Nat) (bh:Int) (bi:Option Addr) (bj:List D) (bm bn bp:Nat) (r3:List D) (q3:Nat) (N:Nat):Prop:=AT prog 107 [.pk,.i,.str,.str,.i,.dc,.dc,.dc,.dc,.row 36 9,.sl 0,.i,.i] Q N0 (.io E [.var [.sv none 0 [] 0,.int .i64 0,.int .i64 0]]) (qI prog 107 16) ⟨.pb 0 0 0 0::.int .i64 n1::an 2 (.pb 1 0 0 0::.pb 2 0 0 0::an 68 []),[.var [.sv I 0 J O,.int .i64 aa,.int .i64 ab],.var [.int .i64 ac,.str ae,.str ah,.int .i64 ai,.int .i64 aj,.sv ak 2 al am,.int .i64 ao,.sv aq 2 au aw,.sv ax 9 ay az],.var [.int .i64 a6,.str a7,.str a8,.int .i64 ba,.int .i64 bb,.sv bc 2 bd bg,.int .i64 bh,.sv bi 2 bj bm,.sb 3 9 0 bn bp],.arr 36 9 r3 q3],N,some (wO E 0 [.var [.sv none 0 [] 0,.int .i64 0,.int .i64 0]],[])⟩
def vq (E:Env) (Q:QT [.pk,.i,.str,.str,.i,.dc,.dc,.dc,.dc,.row 36 9,.sl 0,.i,.i]) (N0:Nat) (n1 n6 n7:Int) (I:Option Addr) (J:List D) (O:Nat) (aa ab ac:Int) (ae ah:ByteArray) (ai aj:Int) (ak:Option Addr) (al:List D) (am:Nat) (ao:Int) (aq:Option Addr) (au:List D) (aw:Nat) (ax:Option Addr) (ay:List D) (az:Nat) (a6:Int) (a7 a8:ByteArray) (ba:Int) (bb bc bd bg:D) (bh bi:Nat) (r3:List D) (q3:Nat) (N:Nat):Prop:=AT prog 107 [.pk,.i,.str,.str,.i,.dc,.dc,.dc,.dc,.row 36 9,.sl 0,.i,.i] Q N0 (.io E [.var [.sv none 0 [] 0,.int .i64 0,.int .i64 0]]) (zD prog 107 18) ⟨.pb 0 0 0 0::.int .i64 n1::an 2 (.pb 1 0 0 0::.pb 2 0 0 0::.int .i64 n6::.int .i64 n7::an 66 []),[.var [.sv I 0 J O,.int .i64 aa,.int .i64 ab],.var [.int .i64 ac,.str ae,.str ah,.int .i64 ai,.int .i64 aj,.sv ak 2 al am,.int .i64 ao,.sv aq 2 au aw,.sv ax 9 ay az],.var [.int .i64 a6,.str a7,.str a8,.int .i64 ba,.dc bb,.dc bc,.dc bd,.dc bg,.sb 3 9 0 bh bi],.arr 36 9 r3 q3],N,some (wO E 0 [.var [.sv none 0 [] 0,.int .i64 0,.int .i64 0]],[])⟩
def wK (E:Env) (Q:QT [.pk,.i,.str,.str,.i,.dc,.dc,.dc,.dc,.row 36 9,.sl 0,.i,.i]) (N0:Nat) (n1 n6 n7:Int) (I:Option Addr) (J:List D) (O:Nat) (aa ab ac:Int) (ae ah:ByteArray) (ai aj:Int) (ak:Option Addr) (al:List D) (am:Nat) (ao:Int) (aq:Option Addr) (au:List D) (aw:Nat) (ax:Option Addr) (ay:List D) (az:Nat) (a6:Int) (a7 a8:ByteArray) (ba:Int) (bb bc:D) (bd:Int) (bg:Option Addr) (bh:List D) (bi bj bm:Nat) (r3:List D) (q3:Nat) (N:Nat):Prop:=AT prog 107 [.pk,.i,.str,.str,.i,.dc,.dc,.dc,.dc,.row 36 9,.sl 0,.i,.i] Q N0 (.io E [.var [.sv none 0 [] 0,.int .i64 0,.int .i64 0]]) (zD prog 107 18) ⟨.pb 0 0 0 0::.int .i64 n1::an 2 (.pb 1 0 0 0::.pb 2 0 0 0::.int .i64 n6::.int .i64 n7::an 66 []),[.var [.sv I 0 J O,.int .i64 aa,.int .i64 ab],.var [.int .i64 ac,.str ae,.str ah,.int .i64 ai,.int .i64 aj,.sv ak 2 al am,.int .i64 ao,.sv aq 2 au aw,.sv ax 9 ay az],.var [.int .i64 a6,.str a7,.str a8,.int .i64 ba,.dc bb,.dc bc,.int .i64 bd,.sv bg 2 bh bi,.sb 3 9 0 bj bm],.arr 36 9 r3 q3],N,some (wO E 0 [.var [.sv none 0 [] 0,.int .i64 0,.int .i64 0]],[])⟩
def x9 (E:Env) (Q:QT [.pk,.i,.str,.str,.i,.dc,.dc,.dc,.dc,.row 36 9,.sl 0,.i,.i]) (N0:Nat) (n1 n6 n7:Int) (I:Option Addr) (J:List D) (O:Nat) (aa ab ac:Int) (ae ah:ByteArray) (ai aj:Int) (ak:Option Addr) (al:List D) (am:Nat) (ao:Int) (aq:Option Addr) (au:List D) (aw:Nat) (ax:Option Addr) (ay:List D) (az:Nat) (a6:Int) (a7 a8:ByteArray) (ba bb:Int) (bc:Option Addr) (bd:List D) (bg:Nat) (bh bi:D) (bj bm:Nat) (r3:List D) (q3:Nat) (N:Nat):Prop:=AT prog 107 [.pk,.i,.str,.str,.i,.dc,.dc,.dc,.dc,.row 36 9,.sl 0,.i,.i] Q N0 (.io E [.var [.sv none 0 [] 0,.int .i64 0,.int .i64 0]]) (zD prog 107 18) ⟨.pb 0 0 0 0::.int .i64 n1::an 2 (.pb 1 0 0 0::.pb 2 0 0 0::.int .i64 n6::.int .i64 n7::an 66 []),[.var [.sv I 0 J O,.int .i64 aa,.int .i64 ab],.var [.int .i64 ac,.str ae,.str ah,.int .i64 ai,.int .i64 aj,.sv ak 2 al am,.int .i64 ao,.sv aq 2 au aw,.sv ax 9 ay az],.var [.int .i64 a6,.str a7,.str a8,.int .i64 ba,.int .i64 bb,.sv bc 2 bd bg,.dc bh,.dc bi,.sb 3 9 0 bj bm],.arr 36 9 r3 q3],N,some (wO E 0 [.var [.sv none 0 [] 0,.int .i64 0,.int .i64 0]],[])⟩
def wC (E:Env) (Q:QT [.pk,.i,.str,.str,.i,.dc,.dc,.dc,.dc,.row 36 9,.sl 0,.i,.i]) (N0:Nat) (n1 n6 n7:Int) (I:Option Addr) (J:List D) (O:Nat) (aa ab ac:Int) (ae ah:ByteArray) (ai aj:Int) (ak:Option Addr) (al:List D) (am:Nat) (ao:Int) (aq:Option Addr) (au:List D) (aw:Nat) (ax:Option Addr) (ay:List D) (az:Nat) (a6:Int) (a7 a8:ByteArray) (ba bb:Int) (bc:Option Addr) (bd:List D) (bg:Nat) (bh:Int) (bi:Option Addr) (bj:List D) (bm bn bp:Nat) (r3:List D) (q3:Nat) (N:Nat):Prop:=AT prog 107 [.pk,.i,.str,.str,.i,.dc,.dc,.dc,.dc,.row 36 9,.sl 0,.i,.i] Q N0 (.io E [.var [.sv none 0 [] 0,.int .i64 0,.int .i64 0]]) (zD prog 107 18) ⟨.pb 0 0 0 0::.int .i64 n1::an 2 (.pb 1 0 0 0::.pb 2 0 0 0::.int .i64 n6::.int .i64 n7::an 66 []),[.var [.sv I 0 J O,.int .i64 aa,.int .i64 ab],.var [.int .i64 ac,.str ae,.str ah,.int .i64 ai,.int .i64 aj,.sv ak 2 al am,.int .i64 ao,.sv aq 2 au aw,.sv ax 9 ay az],.var [.int .i64 a6,.str a7,.str a8,.int .i64 ba,.int .i64 bb,.sv bc 2 bd bg,.int .i64 bh,.sv bi 2 bj bm,.sb 3 9 0 bn bp],.arr 36 9 r3 q3],N,some (wO E 0 [.var [.sv none 0 [] 0,.int .i64 0,.int .i64 0]],[])⟩
theorem zHK (N:Nat) (n0:Int) (Q:QT [.pk,.int .i64,.str,.str,.int .i64,.dc,.dc,.dc,.dc,.row 36 9]) (h :
uP N (Q 2 b0 b0 n0 (D.j 0) (D.sl none 2 [] 0) (D.j 0) (D.sl none 2 [] 0) [] 0)):ACalls prog 178 [.pk,.int .i64,.str,.str,.int .i64,.dc,.dc,.dc,.dc,.row 36 9] [PV.int .i64 n0] N Q:=
 zRx H0 h
theorem zGS (N:Nat) (n0:Int) (Q:QT [.pk,.int .i64,.str,.str,.int .i64,.dc,.dc,.dc,.dc,.row 36 9]) (h :
uP N (Q 3 b0 b0 n0 (D.j 0) (D.sl none 2 [] 0) (D.j 0) (D.sl none 2 [] 0) [] 0)):ACalls prog 179 [.pk,.int .i64,.str,.str,.int .i64,.dc,.dc,.dc,.dc,.row 36 9] [PV.int .i64 n0] N Q:=
 zRx H0 h
theorem zAw (N:Nat) (s0:ByteArray) (Q:QT [.pk,.int .i64,.str,.str,.int .i64,.dc,.dc,.dc,.dc,.row 36 9]) (h :
uP N (Q 1 s0 b0 0 (D.j 0) (D.sl none 2 [] 0) (D.j 0) (D.sl none 2 [] 0) [] 0)):ACalls prog 82 [.pk,.int .i64,.str,.str,.int .i64,.dc,.dc,.dc,.dc,.row 36 9] [PV.str s0] N Q:=
 zRx H0 h
theorem zCD (N:Nat) (a0:Option Addr) (e0:List D) (I:Nat) (Q:QT [.ag 9]) (h :
Bel N (D.sl a0 0 e0 I)->∀ b,N<=b->ACalls prog 67 [.cu] [.sv a0 0 e0 I] b (λa c d n e f=>b<=f->cA 9 66 [] a c d n e f (λx _
 _ _ _ _ a=>uP a (Q x)))):ACalls prog 21 [.ag 9] [PV.sv a0 0 e0 I] N Q:=
  zRx H0 h
theorem zEE (N:Nat) (I:Option Addr) (J:List D) (O:Nat) (aa ab:Int) (Q:QT [(Sh.ag 9),(Sh.sl 0),(Sh.int IntKind.i64),(Sh.int IntKind.i64)]) (h:∀ E:Env,
Bel N (D.sl I 0 J O)->∀ b,N<=b->BCalls prog 108 [.i,.sl 0,.i,.i] [.pb 0 0 0 0,.j 4] [Bx.var [.sv I 0 J O,.j
 aa,.j ab]] b (λn a c d e f g=>b<=g->Bel g (D.sl a 0 c d)->∀ b,g<=b->BCalls prog 107 [.pk,.i,.str,.str,.i,.dc,.dc,.dc,
 .dc,.row 36 9,.sl 0,.i,.i] [.pb 0 0 0 0,.j (IntKind.i64.wrap (1+n))] [Bx.var [.sv a 0 c d,.j e,.j f]] b (λa s c d x e f g h i
 j k l m n o=>b<=o->Bel o (D.sl j 0 k l)->Bel o (D.ag h)->∀ b,o<=b->BCalls prog 108 [.i,.sl 0,.i,.i] [.pb 0 0 0 0,.j
 14] [Bx.var [.sv j 0 k l,.j m,.j n]] b (λj k l m n o p=>b<=p->Bel p (D.sl k 0 l m)->Br (j==0) (∀ a,p<=a ->
 BCalls prog 108 [.i,.sl 0,.i,.i] [.pb 0 0 0 0,.j 15] [Bx.var [.sv k 0 l m,.j n,.j o]] a (λb j k l m n o=>a<=o->Bel
 o (D.sl j 0 k l)->w4 (h.length=h.length/\i=i) (∀ a p,o<=p->Fresh N p a [D.ag h,x,e,f,g]->vW E [.var [.sv none
 0 [] 0,.j 0,.j 0]]/\uP p (Q (D.ag [D.j b,D.t s,D.t c,D.j d,x,e,f,g,D.sl a 9 h i]) j k l m n)))) (Br (j==1) (∀
 b,p<=b->BCalls prog 109 [.i,.sl 0,.i,.i,.sl 0] [.pb 0 0 0 0,.sb 1 0 0 5 5] [Bx.var [.sv k 0 l m,.j n,.j o],Bx.arr 3 0 [D.j 0,D.j 1,
 D.j 10006,D.j 10007,D.j (-1)] 5] b (λd j k l m n o p q r=>b<=r->Bel r (D.sl j 0 k l)->Bel r (D.sl o 0 p
 q)->w4 (h.length=h.length/\i=i) (∀ b o,r<=o->Fresh N o b [D.ag h,x,e,f,g]->vW E [.var [.sv none 0 [] 0,.j 0,
 .j 0]]/\uP o (Q (D.ag [D.j a,D.t s,D.t c,D.j d,x,e,f,g,D.sl b 9 h i]) j k l m n)))) (Br (j==2) (cP [D.t b0,D.t
 (bytes [120]),D.t (bytes [108,101,116]),D.t (bytes [97,98,99,100,101]),D.t (bytes [43])] 110 9 5 k l m n o p (λb j k l m
 n _ _ _ o=>w4 (h.length=h.length/\i=i) (∀ p q,o<=q->Fresh N q p [D.ag h,x,e,f,g]->vW E [.var [.sv
 none 0 [] 0,.j 0,.j 0]]/\uP q (Q (D.ag [D.j a,D.t b,D.t c,D.j d,x,e,f,g,D.sl p 9 h i]) j k l m n)))) (Br (j ==
 3) (∀ b,p<=b->ACalls prog 82 [.pk,.i,.str,.str,.i,.dc,.dc,.dc,.dc,.row 36 9] [.str (bytes [120])] b (λj p q r t u v w
 y z A=>b<=A->Bel A (D.ag y)->(y.length=y.length/\z=z)/\∀ b B,A<=B->Fresh N B b [D.ag y,t,u,v,
 w,x,e,f,g,D.ag h]->(h.length=h.length/\i=i)/\zB h [D.ag [D.j j,D.t p,D.t q,D.j r,t,u,v,w,D.sl
 b 9 y z]] 136/\∀ (i:Nat),w4 ((h++[D.ag [D.j j,D.t p,D.t q,D.j r,t,u,v,w,D.sl b 9 y z]]).length=(h ++
 [D.ag [D.j j,D.t p,D.t q,D.j r,t,u,v,w,D.sl b 9 y z]]).length/\i=i) (∀ A C,B<=C->Fresh N C A [D.ag
 (h++[D.ag [D.j j,D.t p,D.t q,D.j r,t,u,v,w,D.sl b 9 y z]]),x,e,f,g]->vW E [.var [.sv none 0 [] 0,.j 0,.j
 0]]/\∀ B,C<=B->Q (D.ag [D.j a,D.t s,D.t c,D.j d,x,e,f,g,D.sl A 9 (h++[D.ag [D.j j,D.t p,D.t q,D.j r,t,
 u,v,w,D.sl b 9 y z]]) i]) k l m n o B))) (Br (j==4) (cA 2 111 [] k l m n o p (λb e j k l m
 n=>w4 (h.length=h.length/\i=i) (∀ o p,n<=p->Fresh N p o [D.ag h,(b.cell 0),(b.cell 1),f,g]->vW E [.var
 [.sv none 0 [] 0,.j 0,.j 0]]/\uP p (Q (D.ag [D.j a,D.t s,D.t c,D.j d,(b.cell 0),(b.cell 1),f,g,D.sl o 9 h i]) e j k
 l m)))) (Br (j==5) (cP [D.t (bytes [120]),D.t (bytes [122])] 110 9 2 k l m n o p (λb c j k l m _ _ _ n
 => w4 (h.length=h.length/\i=i) (∀ o p,n<=p->Fresh N p o [D.ag h,x,e,f,g]->vW E [.var [.sv none 0 [] 0,.j 0,.j
 0]]/\uP p (Q (D.ag [D.j a,D.t s,D.t b,D.j d,x,e,f,g,D.sl o 9 h i]) c j k l m)))) (w4 (h.length=h.length /\
 i=i) (∀ b j,p<=j->Fresh N j b [D.ag h,x,e,f,g]->vW E [.var [.sv none 0 [] 0,.j 0,.j 0]]/\uP j (Q (D.ag [D.j a,D.t
 s,D.t c,D.j d,x,e,f,g,D.sl b 9 h i]) k l m n o)))))))))))):BCalls prog 66 [(Sh.ag 9),(Sh.sl 0),(Sh.int IntKind.i64),(Sh.int IntKind.i64)] [.pb 0 0 0 0] [.var [.sv I 0 J O,.int .i64 aa,.int .i64 ab]] N Q:=
  zK8 zI4 h
theorem zDL (N:Nat) (aB0_0:Option Addr) (eB0_0:List D) (cB0_0:Nat) (nB0_1 nB0_2:Int) (Q:QT [(Sh.sl 4),(Sh.ag 9),(Sh.sl 0),(Sh.int IntKind.i64),(Sh.int IntKind.i64)]) (h:∀ E:Env,
Bel N (D.sl aB0_0 0 eB0_0 cB0_0)->∀ b,N<=b->BCalls prog 128 [.row 74 4,.ag 9,.sl 0,.i,.i] [.pb 0 0 0 0] [Bx.var [.sv aB0_0 0 eB0_0
 cB0_0,.j nB0_1,.j nB0_2]] b (fun a c x d e f n g h=>b<=h->Bel h x->Bel h (D.sl d 0 e f)->Bel h (D.ag a)->∀ b,h<=b->BCalls
 prog 108 [.i,.sl 0,.i,.i] [.pb 0 0 0 0,.j 8] [Bx.var [.sv d 0 e f,.j n,.j g]] b (fun d e f g h i j=>b<=j->Bel j (D.sl e 0
 f g)->Br (d==0) (cP [D.t (bytes [121]),D.t (bytes [108,101,116]),D.t (bytes [120])] 110 9 3 e f g h i j (fun s b d e f g
 _ _ _ h=>((0:Int)<=(0:Int)/\0<(a.length:Int)/\0<a.length)/\0<a.length/\xq E Q N a.length c b d e f g 0
 b0 b0 0 0 none [] 0 0 none [] 0 none [] 0 (List.set a 0 (D.ag (qh 0 [D.t s] (D.cells (List.getD a 0 default))))) c x h)) (Br (d==1) (cA 2 129 [.j 2]
 e f g h i j (fun b d e f g h i=>((0:Int)<=(0:Int)/\0<(a.length:Int)/\0<a.length)/\0<a.length/\xq E
 Q N a.length c d e f g h 0 b0 b0 0 0 none [] 0 0 none [] 0 none [] 0 (List.set a 0 (D.ag (qh 1 [(b.cell 0),(b.cell 1)] (D.cells (List.getD
 a 0 default))))) c x i)) (Br (d==2) (cA 9 66 [] e f g h i j (fun b d e f g h i=>w4 (a.length=a.length/\c=c) (∀ j
 k,i<=k->Fresh N k j [D.ag a,b]->vW E [.var [.sv none 0 [] 0,.j 0,.j 0]]/\uP k (Q j a c b d e f g h))))
 (xq E Q N a.length c e f g h i 0 b0 b0 0 0 none [] 0 0 none [] 0 none [] 0 a c x j)))))):BCalls prog 95 [(Sh.sl 4),(Sh.ag 9),(Sh.sl 0),(Sh.int IntKind.i64),(Sh.int IntKind.i64)] [.pb 0 0 0 0] [.var [.sv aB0_0 0 eB0_0 cB0_0,.int .i64 nB0_1,.int .i64 nB0_2]] N Q:=
  zK8 zAl h
theorem pN (N:Nat) (n1:Int) (I:Option Addr) (J:List D) (O:Nat) (aa ab:Int) (Q:QT [Sh.pk,(Sh.int IntKind.i64),Sh.str,Sh.str,(Sh.int IntKind.i64),Sh.dc,Sh.dc,Sh.dc,Sh.dc,(Sh.row (OfNat.ofNat 36) 9),(Sh.sl 0),(Sh.int IntKind.i64),(Sh.int IntKind.i64)]) (h:∀ E:Env,
Bel N (D.sl I 0 J O)->Br (decide (n1<2)) (∀ b,N<=b->BCalls prog 146 [.pk,.i,.str,.str,.i,.dc,.dc,.dc,.dc,.row 36 9,
 .sl 0,.i,.i] [.pb 0 0 0 0] [Bx.var [.sv I 0 J O,.j aa,.j ab]] b (λn s a c x d e f g h i j k l m o=>b<=o ->
 Bel o (D.sl i 0 j k)->Bel o (D.ag g)->vW E [.var [.sv none 0 [] 0,.j 0,.j 0]]/\(g.length=g.length/\h=h)/\uP o (Q n s a c x d e
 f g h i j k l m))) (cB 94 [.j 5] I J O aa ab N (λb a c d e f g=>Br b (∀ b,g<=b->BCalls prog 146 [.pk,.i,
 .str,.str,.i,.dc,.dc,.dc,.dc,.row 36 9,.sl 0,.i,.i] [.pb 0 0 0 0] [Bx.var [.sv a 0 c d,.j e,.j f]] b (λa c d e f g h
 i j k l m n o p q=>b<=q->Bel q (D.sl l 0 m n)->Bel q (D.ag j)->vW E [.var [.sv none 0 [] 0,.j 0,.j 0]]/\(j.length
 = j.length/\k=k)/\uP q (Q a c d e f g h i j k l m n o p))) (∀ b,g<=b->BCalls prog 109 [.i,.sl 0,.i,.i,.sl
 0] [.pb 0 0 0 0,.sb 1 0 0 12 12] [Bx.var [.sv a 0 c d,.j e,.j f],Bx.arr 3 0 [D.j 4,D.j 5,D.j 6,D.j 7,D.j 8,D.j 9,D.j 10,D.j 11,D.j 12,
 D.j 13,D.j 10,D.j 4] 12] b (λa c d e f g h i j k=>b<=k->Bel k (D.sl c 0 d e)->Bel k (D.sl h 0 i j)->Br
 (a==4) (cP [D.t (bytes [43]),D.t (bytes [45]),D.t (bytes [42]),D.t (bytes [61]),D.t (bytes [60]),D.t (bytes [38]),D.t (bytes [124]),D.t (bytes
 [33])] 110 9 8 c d e f g k (λb c d e f g _ _ _ h=>yS E Q N n1 c d e f g 0 b0 b0 0 0 none
 [] 0 0 none [] 0 none [] 0 a b b0 0 0 none [] 0 0 none [] 0 0 0 [] 0 h)) (Br (a==6) (cP [D.t (bytes [120]),D.t (bytes [121]),D.t (bytes [102])]
 110 9 3 c d e f g k (λb c d e f g _ _ _ h=>yS E Q N n1 c d e f g 0 b0 b0 0 0 none [] 0 0
 none [] 0 none [] 0 a b b0 0 0 none [] 0 0 none [] 0 0 0 [] 0 h)) (Br (a==8) (cP [D.t (bytes [120]),D.t (bytes [121]),D.t (bytes [102])] 110 9 3
 c d e f g k (λb c d e f g _ _ _ h=>yS E Q N n1 c d e f g 0 b0 b0 0 0 none [] 0 0
 none [] 0 none [] 0 a b b0 0 0 none [] 0 0 none [] 0 0 0 [] 0 h)) (Br (a==9) (cP [D.t (bytes [120]),D.t (bytes [121]),D.t (bytes [102])] 110 9 3
 c d e f g k (λb c d e f g _ _ _ h=>yS E Q N n1 c d e f g 0 b0 b0 0 0 none [] 0 0
 none [] 0 none [] 0 a b b0 0 0 none [] 0 0 none [] 0 0 0 [] 0 h)) (yS E Q N n1 c d e f g 0 b0 b0 0 0 none [] 0 0 none [] 0 none
 [] 0 a b0 b0 0 0 none [] 0 0 none [] 0 0 0 [] 0 k))))))))):BCalls prog 107 [Sh.pk,(Sh.int IntKind.i64),Sh.str,Sh.str,(Sh.int IntKind.i64),Sh.dc,Sh.dc,Sh.dc,Sh.dc,(Sh.row (OfNat.ofNat 36) 9),(Sh.sl 0),(Sh.int IntKind.i64),(Sh.int IntKind.i64)] [.pb 0 0 0 0,.int .i64 n1] [.var [.sv I 0 J O,.int .i64 aa,.int .i64 ab]] N Q:=
  zK8 yF h
theorem zBG (N:Nat) (m1 c1:Nat) (I:Option Addr) (J:List D) (O:Nat) (ab ac:Int) (aa:List D) (ae:Nat) (Q:QT [(Sh.int IntKind.i64),(Sh.sl 0),(Sh.int IntKind.i64),(Sh.int IntKind.i64),(Sh.sl 0)]) (h:∀ E:Env,
Bel N (D.sl I 0 J O)->Bel N (D.sl none 0 aa ae)->∀ b,N<=b->BCalls prog 108 [.i,.sl 0,.i,.i] [.pb 0 0 0 0,.j (m1:Int)]
 [Bx.var [.sv I 0 J O,.j ab,.j ac]] b (λn a c d e f g=>b<=g->Bel g (D.sl a 0 c d)->(0<=n/\n<(m1:Int)/\(0+n.toNat
 : Nat)<aa.length)/\(0+n.toNat:Nat)<aa.length/\∃ b:Int,List.getD aa (0+n.toNat:Nat) default=D.j b/\vW E [.var [.sv none 0 [] 0,.j
 0,.j 0],.arr 3 0 [] 0]/\uP g (Q b a c d e f none aa ae))):BCalls prog 109 [(Sh.int IntKind.i64),(Sh.sl 0),(Sh.int IntKind.i64),(Sh.int IntKind.i64),(Sh.sl 0)] [.pb 0 0 0 0,.sb 1 0 0 m1 c1] [.var [.sv I 0 J O,.int .i64 ab,.int .i64 ac],.arr 3 0 aa ae] N Q:=
  zK8 H0 h
theorem zD9 (N:Nat) (aB0_0:Option Addr) (eB0_0:List D) (cB0_0:Nat) (nB0_1 nB0_2:Int) (Q:QT [(Sh.ag 2),(Sh.sl 0),(Sh.int IntKind.i64),(Sh.int IntKind.i64)]) (h:∀ E:Env,
Bel N (D.sl aB0_0 0 eB0_0 cB0_0)->cA 2 129 [.j 4] aB0_0 eB0_0 cB0_0 nB0_1 nB0_2 N (fun x a b c n d e=>∀ f,e<=f->BCalls prog 108
 [.i,.sl 0,.i,.i] [.pb 0 0 0 0,.j 10] [Bx.var [.sv a 0 b c,.j n,.j d]] f (fun a b c d e g h=>f<=h->Bel h (D.sl b 0 c d) ->
 Br (a==0) (∀ a,h<=a->BCalls prog 108 [.i,.sl 0,.i,.i] [.pb 0 0 0 0,.j 6] [Bx.var [.sv b 0 c d,.j e,.j g]] a (fun b c d e
 f g h=>a<=h->Bel h (D.sl c 0 d e)->vW E [.var [.sv none 0 [] 0,.j 0,.j 0]]/\uP h (Q (D.ag [D.j b,(x.cell 1)]) c d e f
 g))) (Br (a==1) (∃ a f,∃ i:Nat,(x.cell 1)=D.sl a 2 f i/\kA 2 132 [] h (fun h j=>zUN a f i [h]/\zB f [h] 32
 /\ ∀ (a:Nat),w4 ((f++[h]).length=(f++[h]).length/\a=a) (∀ i k,j<=k->Fresh N k i [D.ag (f++[h]),(x.cell 0)] ->
 vW E [.var [.sv none 0 [] 0,.j 0,.j 0]]/\uP k (Q (D.ag [(x.cell 0),D.sl i 2 (f++[h]) a]) b c d e g)))) (Br (a==2) (∀ a,h <=
 a->BCalls prog 108 [.i,.sl 0,.i,.i] [.pb 0 0 0 0,.j 6] [Bx.var [.sv b 0 c d,.j e,.j g]] a (fun b c d e f g h=>a<=h
 -> Bel h (D.sl c 0 d e)->w9 E Q N (IntKind.i64.wrap (1+b)) 0 c d e f g 0 none [] 0 x h)) (Br (a==3)
 (w7 E Q N 0 b c d e g 0 none [] 0 x h) (vW E [.var [.sv none 0 [] 0,.j 0,.j 0]]/\uP h (Q x b c d e g)))))))):BCalls prog 111 [(Sh.ag 2),(Sh.sl 0),(Sh.int IntKind.i64),(Sh.int IntKind.i64)] [.pb 0 0 0 0] [.var [.sv aB0_0 0 eB0_0 cB0_0,.int .i64 nB0_1,.int .i64 nB0_2]] N Q:=
  zK8 rh h
theorem zC3 (N:Nat) (I:Option Addr) (J:List D) (O:Nat) (aa ab:Int) (Q:QT [(Sh.row (OfNat.ofNat 74) 4),(Sh.ag 9),(Sh.sl 0),(Sh.int IntKind.i64),(Sh.int IntKind.i64)]) (h:∀ E:Env,
Bel N (D.sl I 0 J O)->∀ b,N<=b->BCalls prog 130 [.row 74 4,.sl 0,.i,.i] [.pb 0 0 0 0] [Bx.var [.sv I 0 J O,.j
 aa,.j ab]] b (λa c d e f n g h=>b<=h->Bel h (D.sl d 0 e f)->Bel h (D.ag a)->(a.length=a.length/\c=c)/\∀ b,ApA b
 a->∀ i,h<=i->wa i [b]->ACalls prog 116 [.sl 4] [.sv b 4 a c] i (λh j k l=>i<=l->Off [b] (D.sl h 4 j k)/\(Bel l
 (D.sl h 4 j k)->kA 2 132 [] l (λx b=>∀ i,b<=i->BCalls prog 108 [.i,.sl 0,.i,.i] [.pb 0 0 0 0,.j 4] [Bx.var [.sv d 0 e f,.j n,.j
 g]] i (λb d e f g l m=>i<=m->Bel m (D.sl d 0 e f)->cA 9 131 [.sv h 4 j k,.dg 2 x,.j (IntKind.i64.wrap (2+b))]
 d e f g l m (λb d e f g h i=>vW E [.var [.sv none 0 [] 0,.j 0,.j 0]]/\(a.length=a.length/\c=c)/\uP i (Q a c b
 d e f g h)))))))):BCalls prog 128 [(Sh.row (OfNat.ofNat 74) 4),(Sh.ag 9),(Sh.sl 0),(Sh.int IntKind.i64),(Sh.int IntKind.i64)] [.pb 0 0 0 0] [.var [.sv I 0 J O,.int .i64 aa,.int .i64 ab]] N Q:=
  zK8 H0 h
theorem zED (E:Env) (Q:QT [(Sh.sl 4),(Sh.ag 9),(Sh.sl 0),(Sh.int IntKind.i64),(Sh.int IntKind.i64)]) (N0:Nat) (m4 c4:Nat) (a0_0:Option Addr) (e0_0:List D) (c0_0:Nat) (n0_1 n0_2 n1_0:Int) (s1_1 s1_2:ByteArray) (n1_3 n1_4:Int) (a1_5:Option Addr) (e1_5:List D) (c1_5:Nat) (n1_6:Int) (a1_7:Option Addr) (e1_7:List D) (c1_7:Nat) (a1_8:Option Addr) (e1_8:List D) (c1_8:Nat) (r2:List D) (q2:Nat) (y3:D) (N:Nat) (h :
(m4=r2.length/\c4=q2)/\w2 (m4=r2.length/\c4=q2) (∀ a b,N<=b->Fresh N0 b a [D.ag r2,y3]->vW E [.var [.sv none 0 [] 0,.j 0,.j 0]]/\uP
 b (Q a r2 q2 y3 a0_0 e0_0 c0_0 n0_1 n0_2))):xq E Q N0 m4 c4 a0_0 e0_0 c0_0 n0_1 n0_2 n1_0 s1_1 s1_2 n1_3 n1_4 a1_5 e1_5 c1_5 n1_6 a1_7 e1_7 c1_7 a1_8 e1_8 c1_8 r2 q2 y3 N:=
  zBf zAl h
theorem qD (N:Nat) (n1:Int) (I:Option Addr) (J:List D) (O:Nat) (aa ab:Int) (Q:QT [(Sh.ag 2),(Sh.sl 0),(Sh.int IntKind.i64),(Sh.int IntKind.i64)]) (h:∀ E:Env,
Bel N (D.sl I 0 J O)->Br (decide (n1<2)) (∀ b,N<=b->BCalls prog 109 [.i,.sl 0,.i,.i,.sl 0] [.pb 0 0 0 0,.sb 1 0 0 3 3]
 [Bx.var [.sv I 0 J O,.j aa,.j ab],Bx.arr 3 0 [D.j 1,D.j 1,D.j 2] 3] b (λn a c d e f g h i j=>b<=j->Bel j (D.sl a
 0 c d)->Bel j (D.sl g 0 h i)->vW E [.var [.sv none 0 [] 0,.j 0,.j 0]]/\uP j (Q (D.ag [D.j n,D.sl none 2 [] 0]) a c d e f))) (cB 94 [.j 2]
 I J O aa ab N (λb a c d e f g=>Br b (∀ b,g<=b->BCalls prog 109 [.i,.sl 0,.i,.i,.sl 0] [.pb 0 0 0 0,.sb 1 0 0 3 3]
 [Bx.var [.sv a 0 c d,.j e,.j f],Bx.arr 3 0 [D.j 1,D.j 1,D.j 2] 3] b (λa c d e f g h i j k=>b<=k->Bel k (D.sl c
 0 d e)->Bel k (D.sl h 0 i j)->vW E [.var [.sv none 0 [] 0,.j 0,.j 0]]/\uP k (Q (D.ag [D.j a,D.sl none 2 [] 0]) c d e f g)))
 (cB 94 [.j 2] a c d e f g (λa b c d e f g=>Br a (cA 2 129 [.j (IntKind.i64.wrap (n1 - 1))] b c d e f g (λx a
 b c d e f=>kA 2 149 [.dg 2 x] f (λf g=>vW E [.var [.sv none 0 [] 0,.j 0,.j 0]]/\uP g (Q f a b c d e)))) (cA 2
 129 [.j (IntKind.i64.wrap (n1 - 1))] b c d e f g (λa b c d e f g=>cA 2 129 [.j (IntKind.i64.wrap (n1 - 1))] b c d e
 f g (λb c d e f g h=>kA 2 150 [.dg 2 a,.dg 2 b] h (λa b=>vW E [.var [.sv none 0 [] 0,.j 0,.j 0]]/\uP b (Q a
 c d e f g)))))))))):BCalls prog 129 [(Sh.ag 2),(Sh.sl 0),(Sh.int IntKind.i64),(Sh.int IntKind.i64)] [.pb 0 0 0 0,.int .i64 n1] [.var [.sv I 0 J O,.int .i64 aa,.int .i64 ab]] N Q:=
  zK8 zIh h
theorem zEp (N:Nat) (I:Option Addr) (J:List D) (O:Nat) (aa ab:Int) (Q:QT [Sh.pk,(Sh.int IntKind.i64),Sh.str,Sh.str,(Sh.int IntKind.i64),Sh.dc,Sh.dc,Sh.dc,Sh.dc,(Sh.row (OfNat.ofNat 36) 9),(Sh.sl 0),(Sh.int IntKind.i64),(Sh.int IntKind.i64)]) (h:∀ E:Env,
Bel N (D.sl I 0 J O)->∀ b,N<=b->BCalls prog 108 [.i,.sl 0,.i,.i] [.pb 0 0 0 0,.j 4] [Bx.var [.sv I 0 J O,.j
 aa,.j ab]] b (λn a c d e f g=>b<=g->Bel g (D.sl a 0 c d)->Br (n==0) (∀ b,g<=b->BCalls prog 109 [.i,.sl 0,.i,.i,.sl 0] [.pb
 0 0 0 0,.sb 1 0 0 5 5] [Bx.var [.sv a 0 c d,.j e,.j f],Bx.arr 3 0 [D.j 0,D.j 1,D.j 2,D.j 3,D.j 10006] 5] b (λa c d e f g h i
 j k=>b<=k->Bel k (D.sl c 0 d e)->Bel k (D.sl h 0 i j)->∀ b,k<=b->ACalls prog 178 [.pk,.i,.str,.str,.i,.dc,.dc,.dc,.dc,
 .row 36 9] [.j a] b (λa s h i x j k l m n o=>b<=o->Bel o (D.ag m)->vW E [.var [.sv none 0 [] 0,.j 0,.j 0]]/\(m.length
 = m.length/\n=n)/\uP o (Q a s h i x j k l m n c d e f g)))) (Br (n==1) (∀ b,g<=b->BCalls prog 108 [.i,.sl 0,
 .i,.i] [.pb 0 0 0 0,.j 2] [Bx.var [.sv a 0 c d,.j e,.j f]] b (λa c d e f g h=>b<=h->Bel h (D.sl c 0 d e)->∀ b,h <=
 b->ACalls prog 179 [.pk,.i,.str,.str,.i,.dc,.dc,.dc,.dc,.row 36 9] [.j a] b (λa h i j k l m n o p q=>b<=q ->
 Bel q (D.ag o)->vW E [.var [.sv none 0 [] 0,.j 0,.j 0]]/\(o.length=o.length/\p=p)/\uP q (Q a h i j k l m n o
 p c d e f g)))) (cP [D.t (bytes [120]),D.t (bytes [121]),D.t (bytes [102])] 110 9 3 a c d e f g (λa b c d e f _ _
 _ g=>∀ h,g<=h->ACalls prog 82 [.pk,.i,.str,.str,.i,.dc,.dc,.dc,.dc,.row 36 9] [.str a] h (λa g i j k l m n
 o p q=>h<=q->Bel q (D.ag o)->vW E [.var [.sv none 0 [] 0,.j 0,.j 0]]/\(o.length=o.length/\p=p)/\uP q (Q a g i
 j k l m n o p b c d e f))))))):BCalls prog 146 [Sh.pk,(Sh.int IntKind.i64),Sh.str,Sh.str,(Sh.int IntKind.i64),Sh.dc,Sh.dc,Sh.dc,Sh.dc,(Sh.row (OfNat.ofNat 36) 9),(Sh.sl 0),(Sh.int IntKind.i64),(Sh.int IntKind.i64)] [.pb 0 0 0 0] [.var [.sv I 0 J O,.int .i64 aa,.int .i64 ab]] N Q:=
  zK8 H0 h
theorem zE8 (E:Env) (Q:QT [Sh.pk,(Sh.int IntKind.i64),Sh.str,Sh.str,(Sh.int IntKind.i64),Sh.dc,Sh.dc,Sh.dc,Sh.dc,(Sh.row (OfNat.ofNat 36) 9),(Sh.sl 0),(Sh.int IntKind.i64),(Sh.int IntKind.i64)]) (N0:Nat) (n1:Int) (J:Option Addr) (O:List D) (aa:Nat) (ab ac ae:Int) (ah ai:ByteArray) (aj ak:Int) (al:Option Addr) (am:List D) (ao:Nat) (aq:Int) (au:Option Addr) (aw:List D) (ax:Nat) (ay:Option Addr) (az:List D) (a6:Nat) (I:Int) (a7 a8:ByteArray) (ba bj:Int) (bm:Option Addr) (bn:List D) (bp:Nat) (bb:Int) (bc:Option Addr) (bd:List D) (bg bh bi:Nat) (r3:List D) (q3:Nat) (N:Nat) (h :
Br (I==6) (cA 2 129 [.j 2] J O aa ab ac N (λx a b c n d e=>vn E Q N0 n1 a b c n d ae ah ai aj ak al
 am ao aq au aw ax ay az a6 I a7 a8 ba (x.cell 0) (x.cell 1) bb bc bd bg bh bi r3 q3 e)) (Br (I==9) (cA 2 129 [.j 2]
 J O aa ab ac N (λa b c d e f g=>vn E Q N0 n1 b c d e f ae ah ai aj ak al am ao aq au
 aw ax ay az a6 I a7 a8 ba (a.cell 0) (a.cell 1) bb bc bd bg bh bi r3 q3 g)) (uB E Q N0 n1 J O aa
 ab ac ae ah ai aj ak al am ao aq au aw ax ay az a6 I a7 a8 ba bj bm bn bp bb bc bd bg bh bi r3 q3
 N))):yS E Q N0 n1 J O aa ab ac ae ah ai aj ak al am ao aq au aw ax ay az a6 I a7 a8 ba bj bm bn bp bb bc bd bg bh bi r3 q3 N:=
  zBf yF h
theorem qQ (E:Env) (Q:QT [(Sh.ag 2),(Sh.sl 0),(Sh.int IntKind.i64),(Sh.int IntKind.i64)]) (N0:Nat) (n4 n5:Int) (I:Option Addr) (J:List D) (O:Nat) (aa ab ac:Int) (ae:Option Addr) (ah:List D) (ai:Nat) (y2:D) (N:Nat) (h :
Br (decide (n5<n4)) (kA 2 149 [.dg 2 y2] N (λx a=>w9 E Q N0 n4 (IntKind.i64.wrap (n5+1)) I J O aa ab ac ae ah
 ai x a)) (vW E [.var [.sv none 0 [] 0,.j 0,.j 0]]/\uP N (Q y2 I J O aa ab))):w9 E Q N0 n4 n5 I J O aa ab ac ae ah ai y2 N:=
  zBf rh h
theorem qB (E:Env) (Q:QT [(Sh.ag 2),(Sh.sl 0),(Sh.int IntKind.i64),(Sh.int IntKind.i64)]) (N0:Nat) (n6:Int) (I:Option Addr) (J:List D) (O:Nat) (aa ab ac:Int) (ae:Option Addr) (ah:List D) (ai:Nat) (y2:D) (N:Nat) (h :
Br (decide (n6<3)) (kA 2 150 [.dg 2 y2,.dg 2 y2] N (λx a=>w7 E Q N0 (IntKind.i64.wrap (n6+1)) I J O aa ab ac ae
 ah ai x a)) (vW E [.var [.sv none 0 [] 0,.j 0,.j 0]]/\uP N (Q y2 I J O aa ab))):w7 E Q N0 n6 I J O aa ab ac ae ah ai y2 N:=
  zBf rh h
theorem zFy (E:Env) (Q:QT [Sh.pk,(Sh.int IntKind.i64),Sh.str,Sh.str,(Sh.int IntKind.i64),Sh.dc,Sh.dc,Sh.dc,Sh.dc,(Sh.row (OfNat.ofNat 36) 9),(Sh.sl 0),(Sh.int IntKind.i64),(Sh.int IntKind.i64)]) (N0:Nat) (n1:Int) (J:Option Addr) (O:List D) (aa:Nat) (ab ac ae:Int) (ah ai:ByteArray) (aj ak:Int) (al:Option Addr) (am:List D) (ao:Nat) (aq:Int) (au:Option Addr) (aw:List D) (ax:Nat) (ay:Option Addr) (az:List D) (a6:Nat) (I:Int) (a7 bg:ByteArray) (a8:Int) (ba bb:D) (bh:Int) (bi:Option Addr) (bj:List D) (bm bc bd:Nat) (r3:List D) (q3:Nat) (N:Nat) (h :
Br (I==9) (cP [D.t (bytes [122]),D.t (bytes [119])] 110 9 2 J O aa ab ac N (λs a b c n d _ _ _ e=>cA 2 129 [.j 2] a b c
 n d e (λx a b c d e f=>tW E Q N0 n1 a b c d e ae ah ai aj ak al am ao aq au aw ax ay az
 a6 I a7 s a8 ba bb (x.cell 0) (x.cell 1) bc bd r3 q3 f))) (vl E Q N0 n1 J O aa ab ac ae ah ai aj ak al
 am ao aq au aw ax ay az a6 I a7 bg a8 ba bb bh bi bj bm bc bd r3 q3 N)):vn E Q N0 n1 J O aa ab ac ae ah ai aj ak al am ao aq au aw ax ay az a6 I a7 bg a8 ba bb bh bi bj bm bc bd r3 q3 N:=
  zBf yF h
theorem zCd (E:Env) (Q:QT [Sh.pk,(Sh.int IntKind.i64),Sh.str,Sh.str,(Sh.int IntKind.i64),Sh.dc,Sh.dc,Sh.dc,Sh.dc,(Sh.row (OfNat.ofNat 36) 9),(Sh.sl 0),(Sh.int IntKind.i64),(Sh.int IntKind.i64)]) (N0:Nat) (n1:Int) (J:Option Addr) (O:List D) (aa:Nat) (ab ac ae:Int) (ah ai:ByteArray) (aj ak:Int) (al:Option Addr) (am:List D) (ao:Nat) (aq:Int) (au:Option Addr) (aw:List D) (ax:Nat) (ay:Option Addr) (az:List D) (a6:Nat) (I:Int) (a7 bi:ByteArray) (a8 ba:Int) (bb:Option Addr) (bc:List D) (bd:Nat) (bj:Int) (bm:Option Addr) (bn:List D) (bp bg bh:Nat) (r3:List D) (q3:Nat) (N:Nat) (h :
Br (I==9) (cP [D.t (bytes [122]),D.t (bytes [119])] 110 9 2 J O aa ab ac N (λs a b c n d _ _ _ e=>cA 2 129 [.j 2] a b c
 n d e (λx a b c d e f=>vg E Q N0 n1 a b c d e ae ah ai aj ak al am ao aq au aw ax ay
 az a6 I a7 s a8 ba bb bc bd (x.cell 0) (x.cell 1) bg bh r3 q3 f))) (vw E Q N0 n1 J O aa ab ac ae ah ai
 aj ak al am ao aq au aw ax ay az a6 I a7 bi a8 ba bb bc bd bj bm bn bp bg bh r3 q3 N)):uB E Q N0 n1 J O aa ab ac ae ah ai aj ak al am ao aq au aw ax ay az a6 I a7 bi a8 ba bb bc bd bj bm bn bp bg bh r3 q3 N:=
  zBf yF h
theorem zFo (E:Env) (Q:QT [Sh.pk,(Sh.int IntKind.i64),Sh.str,Sh.str,(Sh.int IntKind.i64),Sh.dc,Sh.dc,Sh.dc,Sh.dc,(Sh.row (OfNat.ofNat 36) 9),(Sh.sl 0),(Sh.int IntKind.i64),(Sh.int IntKind.i64)]) (N0:Nat) (n1:Int) (a0_0:Option Addr) (e0_0:List D) (c0_0:Nat) (n0_1 n0_2 n1_0:Int) (s1_1 s1_2:ByteArray) (n1_3 n1_4:Int) (a1_5:Option Addr) (e1_5:List D) (c1_5:Nat) (n1_6:Int) (a1_7:Option Addr) (e1_7:List D) (c1_7:Nat) (a1_8:Option Addr) (e1_8:List D) (c1_8:Nat) (n2_0:Int) (s2_1 s2_2:ByteArray) (n2_3:Int) (x2_4 x2_5 x2_6 x2_7:D) (m2_8 c2_8:Nat) (r3:List D) (q3:Nat) (N:Nat) (h :
(m2_8=r3.length/\c2_8=q3)/\∀ a,ApA a r3->∀ b,N<=b->wa b [a]->ACalls prog 147 [.i] [.dg 9 (D.ag [D.j n2_0,D.t s2_1,D.t s2_2,D.j n2_3,
 x2_4,x2_5,x2_6,x2_7,D.sl a 9 r3 c2_8])] b (fun n a=>b<=a->vq E Q N0 n1 n 0 a0_0 e0_0 c0_0 n0_1 n0_2 n1_0 s1_1 s1_2 n1_3 n1_4 a1_5 e1_5
 c1_5 n1_6 a1_7 e1_7 c1_7 a1_8 e1_8 c1_8 n2_0 s2_1 s2_2 n2_3 x2_4 x2_5 x2_6 x2_7 m2_8 c2_8 r3 q3 a)):tW E Q N0 n1 a0_0 e0_0 c0_0 n0_1 n0_2 n1_0 s1_1 s1_2 n1_3 n1_4 a1_5 e1_5 c1_5 n1_6 a1_7 e1_7 c1_7 a1_8 e1_8 c1_8 n2_0 s2_1 s2_2 n2_3 x2_4 x2_5 x2_6 x2_7 m2_8 c2_8 r3 q3 N:=
  zBf yF h
theorem zCg (E:Env) (Q:QT [Sh.pk,(Sh.int IntKind.i64),Sh.str,Sh.str,(Sh.int IntKind.i64),Sh.dc,Sh.dc,Sh.dc,Sh.dc,(Sh.row (OfNat.ofNat 36) 9),(Sh.sl 0),(Sh.int IntKind.i64),(Sh.int IntKind.i64)]) (N0:Nat) (n1:Int) (a0_0:Option Addr) (e0_0:List D) (c0_0:Nat) (n0_1 n0_2 n1_0:Int) (s1_1 s1_2:ByteArray) (n1_3 n1_4:Int) (a1_5:Option Addr) (e1_5:List D) (c1_5:Nat) (n1_6:Int) (a1_7:Option Addr) (e1_7:List D) (c1_7:Nat) (a1_8:Option Addr) (e1_8:List D) (c1_8:Nat) (n2_0:Int) (s2_1 s2_2:ByteArray) (n2_3:Int) (x2_4 x2_5:D) (n2_6:Int) (a2_7:Option Addr) (e2_7:List D) (c2_7 m2_8 c2_8:Nat) (r3:List D) (q3:Nat) (N:Nat) (h :
(m2_8=r3.length/\c2_8=q3)/\∀ a,ApA a r3->∀ b,N<=b->wa b [a]->ACalls prog 147 [.i] [.dg 9 (D.ag [D.j n2_0,D.t s2_1,D.t s2_2,D.j n2_3,
 x2_4,x2_5,D.j n2_6,D.sl a2_7 2 e2_7 c2_7,D.sl a 9 r3 c2_8])] b (fun n a=>b<=a->wK E Q N0 n1 n 0 a0_0 e0_0 c0_0 n0_1 n0_2 n1_0 s1_1
 s1_2 n1_3 n1_4 a1_5 e1_5 c1_5 n1_6 a1_7 e1_7 c1_7 a1_8 e1_8 c1_8 n2_0 s2_1 s2_2 n2_3 x2_4 x2_5 n2_6 a2_7 e2_7 c2_7 m2_8 c2_8 r3 q3 a)):vl E Q N0 n1 a0_0 e0_0 c0_0 n0_1 n0_2 n1_0 s1_1 s1_2 n1_3 n1_4 a1_5 e1_5 c1_5 n1_6 a1_7 e1_7 c1_7 a1_8 e1_8 c1_8 n2_0 s2_1 s2_2 n2_3 x2_4 x2_5 n2_6 a2_7 e2_7 c2_7 m2_8 c2_8 r3 q3 N:=
  zBf yF h
theorem zCM (E:Env) (Q:QT [Sh.pk,(Sh.int IntKind.i64),Sh.str,Sh.str,(Sh.int IntKind.i64),Sh.dc,Sh.dc,Sh.dc,Sh.dc,(Sh.row (OfNat.ofNat 36) 9),(Sh.sl 0),(Sh.int IntKind.i64),(Sh.int IntKind.i64)]) (N0:Nat) (n1:Int) (a0_0:Option Addr) (e0_0:List D) (c0_0:Nat) (n0_1 n0_2 n1_0:Int) (s1_1 s1_2:ByteArray) (n1_3 n1_4:Int) (a1_5:Option Addr) (e1_5:List D) (c1_5:Nat) (n1_6:Int) (a1_7:Option Addr) (e1_7:List D) (c1_7:Nat) (a1_8:Option Addr) (e1_8:List D) (c1_8:Nat) (n2_0:Int) (s2_1 s2_2:ByteArray) (n2_3 n2_4:Int) (a2_5:Option Addr) (e2_5:List D) (c2_5:Nat) (x2_6 x2_7:D) (m2_8 c2_8:Nat) (r3:List D) (q3:Nat) (N:Nat) (h :
(m2_8=r3.length/\c2_8=q3)/\∀ a,ApA a r3->∀ b,N<=b->wa b [a]->ACalls prog 147 [.i] [.dg 9 (D.ag [D.j n2_0,D.t s2_1,D.t s2_2,D.j n2_3,
 D.j n2_4,D.sl a2_5 2 e2_5 c2_5,x2_6,x2_7,D.sl a 9 r3 c2_8])] b (fun n a=>b<=a->x9 E Q N0 n1 n 0 a0_0 e0_0 c0_0 n0_1 n0_2 n1_0 s1_1
 s1_2 n1_3 n1_4 a1_5 e1_5 c1_5 n1_6 a1_7 e1_7 c1_7 a1_8 e1_8 c1_8 n2_0 s2_1 s2_2 n2_3 n2_4 a2_5 e2_5 c2_5 x2_6 x2_7 m2_8 c2_8 r3 q3 a)):vg E Q N0 n1 a0_0 e0_0 c0_0 n0_1 n0_2 n1_0 s1_1 s1_2 n1_3 n1_4 a1_5 e1_5 c1_5 n1_6 a1_7 e1_7 c1_7 a1_8 e1_8 c1_8 n2_0 s2_1 s2_2 n2_3 n2_4 a2_5 e2_5 c2_5 x2_6 x2_7 m2_8 c2_8 r3 q3 N:=
  zBf yF h
theorem zCo (E:Env) (Q:QT [Sh.pk,(Sh.int IntKind.i64),Sh.str,Sh.str,(Sh.int IntKind.i64),Sh.dc,Sh.dc,Sh.dc,Sh.dc,(Sh.row (OfNat.ofNat 36) 9),(Sh.sl 0),(Sh.int IntKind.i64),(Sh.int IntKind.i64)]) (N0:Nat) (n1:Int) (a0_0:Option Addr) (e0_0:List D) (c0_0:Nat) (n0_1 n0_2 n1_0:Int) (s1_1 s1_2:ByteArray) (n1_3 n1_4:Int) (a1_5:Option Addr) (e1_5:List D) (c1_5:Nat) (n1_6:Int) (a1_7:Option Addr) (e1_7:List D) (c1_7:Nat) (a1_8:Option Addr) (e1_8:List D) (c1_8:Nat) (n2_0:Int) (s2_1 s2_2:ByteArray) (n2_3 n2_4:Int) (a2_5:Option Addr) (e2_5:List D) (c2_5:Nat) (n2_6:Int) (a2_7:Option Addr) (e2_7:List D) (c2_7 m2_8 c2_8:Nat) (r3:List D) (q3:Nat) (N:Nat) (h :
(m2_8=r3.length/\c2_8=q3)/\∀ a,ApA a r3->∀ b,N<=b->wa b [a]->ACalls prog 147 [.i] [.dg 9 (D.ag [D.j n2_0,D.t s2_1,D.t s2_2,D.j n2_3,
 D.j n2_4,D.sl a2_5 2 e2_5 c2_5,D.j n2_6,D.sl a2_7 2 e2_7 c2_7,D.sl a 9 r3 c2_8])] b (fun n a=>b<=a->wC E Q N0 n1 n 0 a0_0 e0_0 c0_0
 n0_1 n0_2 n1_0 s1_1 s1_2 n1_3 n1_4 a1_5 e1_5 c1_5 n1_6 a1_7 e1_7 c1_7 a1_8 e1_8 c1_8 n2_0 s2_1 s2_2 n2_3 n2_4 a2_5 e2_5 c2_5 n2_6 a2_7 e2_7 c2_7 m2_8 c2_8 r3 q3
 a)):vw E Q N0 n1 a0_0 e0_0 c0_0 n0_1 n0_2 n1_0 s1_1 s1_2 n1_3 n1_4 a1_5 e1_5 c1_5 n1_6 a1_7 e1_7 c1_7 a1_8 e1_8 c1_8 n2_0 s2_1 s2_2 n2_3 n2_4 a2_5 e2_5 c2_5 n2_6 a2_7 e2_7 c2_7 m2_8 c2_8 r3 q3 N:=
  zBf yF h
theorem pC (E:Env) (Q:QT [Sh.pk,(Sh.int IntKind.i64),Sh.str,Sh.str,(Sh.int IntKind.i64),Sh.dc,Sh.dc,Sh.dc,Sh.dc,(Sh.row (OfNat.ofNat 36) 9),(Sh.sl 0),(Sh.int IntKind.i64),(Sh.int IntKind.i64)]) (N0:Nat) (n1 n6 n7:Int) (ac:Option Addr) (ae:List D) (ah:Nat) (ai aj au:Int) (aw ax:ByteArray) (ay az:Int) (a6:Option Addr) (a7:List D) (a8:Nat) (ba:Int) (bb:Option Addr) (bc:List D) (bd:Nat) (bg:Option Addr) (bh:List D) (bi:Nat) (ak:Int) (al am:ByteArray) (ao:Int) (I J O aa:D) (aq ab:Nat) (r3:List D) (q3:Nat) (N:Nat) (h :
Br (decide (n7<n6)) (∀ b,N<=b->BCalls prog 107 [.pk,.i,.str,.str,.i,.dc,.dc,.dc,.dc,.row 36 9,.sl 0,.i,.i] [.pb 0 0 0 0,.j
 (IntKind.i64.wrap (n1 - 1))] [Bx.var [.sv ac 0 ae ah,.j ai,.j aj]] b (λn s a c x d e f g h i j k l m o=>b<=o->Bel o
 (D.sl i 0 j k)->Bel o (D.ag g)->(g.length=g.length/\h=h)/\∀ b p,o<=p->Fresh N0 p b [D.ag g,x,d,e,f,I,J,O,
 aa,D.ag r3]->(aq=r3.length/\ab=q3)/\zB r3 [D.ag [D.j n,D.t s,D.t a,D.j c,x,d,e,f,D.sl b 9 g h]] 136/\∀ (o:Nat),
 vq E Q N0 n1 n6 (IntKind.i64.wrap (n7+1)) i j k l m au aw ax ay az a6 a7 a8 ba bb bc bd bg bh bi ak al
 am ao I J O aa (r3++[D.ag [D.j n,D.t s,D.t a,D.j c,x,d,e,f,D.sl b 9 g h]]).length o (r3++[D.ag [D.j n,D.t s,D.t a,
 D.j c,x,d,e,f,D.sl b 9 g h]]) o p)) (vW E [.var [.sv none 0 [] 0,.j 0,.j 0]]/\(aq=r3.length/\ab=q3)/\uP N (Q ak al am
 ao I J O aa r3 ab ac ae ah ai aj))):vq E Q N0 n1 n6 n7 ac ae ah ai aj au aw ax ay az a6 a7 a8 ba bb bc bd bg bh bi ak al am ao I J O aa aq ab r3 q3 N:=
  zBf yF h
theorem sP (E:Env) (Q:QT [Sh.pk,(Sh.int IntKind.i64),Sh.str,Sh.str,(Sh.int IntKind.i64),Sh.dc,Sh.dc,Sh.dc,Sh.dc,(Sh.row (OfNat.ofNat 36) 9),(Sh.sl 0),(Sh.int IntKind.i64),(Sh.int IntKind.i64)]) (N0:Nat) (n1 n6 n7:Int) (ae:Option Addr) (ah:List D) (ai:Nat) (aj ak ax:Int) (ay az:ByteArray) (a6 a7:Int) (a8:Option Addr) (ba:List D) (bb:Nat) (bc:Int) (bd:Option Addr) (bg:List D) (bh:Nat) (bi:Option Addr) (bj:List D) (bm:Nat) (al:Int) (am ao:ByteArray) (aq:Int) (I J:D) (au:Int) (O:Option Addr) (aa:List D) (ab aw ac:Nat) (r3:List D) (q3:Nat) (N:Nat) (h :
Br (decide (n7<n6)) (∀ b,N<=b->BCalls prog 107 [.pk,.i,.str,.str,.i,.dc,.dc,.dc,.dc,.row 36 9,.sl 0,.i,.i] [.pb 0 0 0 0,.j
 (IntKind.i64.wrap (n1 - 1))] [Bx.var [.sv ae 0 ah ai,.j aj,.j ak]] b (λn s a c x d e f g h i j k l m o=>b<=o->Bel o
 (D.sl i 0 j k)->Bel o (D.ag g)->(g.length=g.length/\h=h)/\∀ b p,o<=p->Fresh N0 p b [D.ag g,x,d,e,f,I,J,D.sl O
 2 aa ab,D.ag r3]->(aw=r3.length/\ac=q3)/\zB r3 [D.ag [D.j n,D.t s,D.t a,D.j c,x,d,e,f,D.sl b 9 g h]] 136/\∀ (o :
 Nat),wK E Q N0 n1 n6 (IntKind.i64.wrap (n7+1)) i j k l m ax ay az a6 a7 a8 ba bb bc bd bg bh bi bj bm
 al am ao aq I J au O aa ab (r3++[D.ag [D.j n,D.t s,D.t a,D.j c,x,d,e,f,D.sl b 9 g h]]).length o (r3++[D.ag
 [D.j n,D.t s,D.t a,D.j c,x,d,e,f,D.sl b 9 g h]]) o p)) (vW E [.var [.sv none 0 [] 0,.j 0,.j 0]]/\(aw=r3.length/\ac=q3) /\
 uP N (Q al am ao aq I J (D.j au) (D.sl O 2 aa ab) r3 ac ae ah ai aj ak))):wK E Q N0 n1 n6 n7 ae ah ai aj ak ax ay az a6 a7 a8 ba bb bc bd bg bh bi bj bm al am ao aq I J au O aa ab aw ac r3 q3 N:=
  zBf yF h
theorem sV (E:Env) (Q:QT [Sh.pk,(Sh.int IntKind.i64),Sh.str,Sh.str,(Sh.int IntKind.i64),Sh.dc,Sh.dc,Sh.dc,Sh.dc,(Sh.row (OfNat.ofNat 36) 9),(Sh.sl 0),(Sh.int IntKind.i64),(Sh.int IntKind.i64)]) (N0:Nat) (n1 n6 n7:Int) (ae:Option Addr) (ah:List D) (ai:Nat) (aj ak ax:Int) (ay az:ByteArray) (a6 a7:Int) (a8:Option Addr) (ba:List D) (bb:Nat) (bc:Int) (bd:Option Addr) (bg:List D) (bh:Nat) (bi:Option Addr) (bj:List D) (bm:Nat) (al:Int) (am ao:ByteArray) (aq au:Int) (I:Option Addr) (J:List D) (O:Nat) (aa ab:D) (aw ac:Nat) (r3:List D) (q3:Nat) (N:Nat) (h :
Br (decide (n7<n6)) (∀ b,N<=b->BCalls prog 107 [.pk,.i,.str,.str,.i,.dc,.dc,.dc,.dc,.row 36 9,.sl 0,.i,.i] [.pb 0 0 0 0,.j
 (IntKind.i64.wrap (n1 - 1))] [Bx.var [.sv ae 0 ah ai,.j aj,.j ak]] b (λn s a c x d e f g h i j k l m o=>b<=o->Bel o
 (D.sl i 0 j k)->Bel o (D.ag g)->(g.length=g.length/\h=h)/\∀ b p,o<=p->Fresh N0 p b [D.ag g,x,d,e,f,D.sl I 2 J
 O,aa,ab,D.ag r3]->(aw=r3.length/\ac=q3)/\zB r3 [D.ag [D.j n,D.t s,D.t a,D.j c,x,d,e,f,D.sl b 9 g h]] 136/\∀ (o
 : Nat),x9 E Q N0 n1 n6 (IntKind.i64.wrap (n7+1)) i j k l m ax ay az a6 a7 a8 ba bb bc bd bg bh bi bj
 bm al am ao aq au I J O aa ab (r3++[D.ag [D.j n,D.t s,D.t a,D.j c,x,d,e,f,D.sl b 9 g h]]).length o (r3 ++
 [D.ag [D.j n,D.t s,D.t a,D.j c,x,d,e,f,D.sl b 9 g h]]) o p)) (vW E [.var [.sv none 0 [] 0,.j 0,.j 0]]/\(aw=r3.length/\ac =
 q3)/\uP N (Q al am ao aq (D.j au) (D.sl I 2 J O) aa ab r3 ac ae ah ai aj ak))):x9 E Q N0 n1 n6 n7 ae ah ai aj ak ax ay az a6 a7 a8 ba bb bc bd bg bh bi bj bm al am ao aq au I J O aa ab aw ac r3 q3 N:=
  zBf yF h
theorem sT (E:Env) (Q:QT [Sh.pk,(Sh.int IntKind.i64),Sh.str,Sh.str,(Sh.int IntKind.i64),Sh.dc,Sh.dc,Sh.dc,Sh.dc,(Sh.row (OfNat.ofNat 36) 9),(Sh.sl 0),(Sh.int IntKind.i64),(Sh.int IntKind.i64)]) (N0:Nat) (n1 n6 n7:Int) (ah:Option Addr) (ai:List D) (aj:Nat) (ak al az:Int) (a6 a7:ByteArray) (a8 ba:Int) (bb:Option Addr) (bc:List D) (bd:Nat) (bg:Int) (bh:Option Addr) (bi:List D) (bj:Nat) (bm:Option Addr) (bn:List D) (bp:Nat) (am:Int) (ao aq:ByteArray) (au aw:Int) (I:Option Addr) (J:List D) (O:Nat) (ax:Int) (aa:Option Addr) (ab:List D) (ac ay ae:Nat) (r3:List D) (q3:Nat) (N:Nat) (h :
Br (decide (n7<n6)) (∀ b,N<=b->BCalls prog 107 [.pk,.i,.str,.str,.i,.dc,.dc,.dc,.dc,.row 36 9,.sl 0,.i,.i] [.pb 0 0 0 0,.j
 (IntKind.i64.wrap (n1 - 1))] [Bx.var [.sv ah 0 ai aj,.j ak,.j al]] b (λn s a c x d e f g h i j k l m o=>b<=o->Bel o
 (D.sl i 0 j k)->Bel o (D.ag g)->(g.length=g.length/\h=h)/\∀ b p,o<=p->Fresh N0 p b [D.ag g,x,d,e,f,D.sl I 2 J
 O,D.sl aa 2 ab ac,D.ag r3]->(ay=r3.length/\ae=q3)/\zB r3 [D.ag [D.j n,D.t s,D.t a,D.j c,x,d,e,f,D.sl b 9 g h]]
 136/\∀ (o:Nat),wC E Q N0 n1 n6 (IntKind.i64.wrap (n7+1)) i j k l m az a6 a7 a8 ba bb bc bd bg bh bi bj
 bm bn bp am ao aq au aw I J O ax aa ab ac (r3++[D.ag [D.j n,D.t s,D.t a,D.j c,x,d,e,f,D.sl b 9 g
 h]]).length o (r3++[D.ag [D.j n,D.t s,D.t a,D.j c,x,d,e,f,D.sl b 9 g h]]) o p)) (vW E [.var [.sv none 0 [] 0,.j 0,.j 0]]/\(ay
 = r3.length/\ae=q3)/\uP N (Q am ao aq au (D.j aw) (D.sl I 2 J O) (D.j ax) (D.sl aa 2 ab ac) r3 ae ah ai aj ak al))):wC E Q N0 n1 n6 n7 ah ai aj ak al az a6 a7 a8 ba bb bc bd bg bh bi bj bm bn bp am ao aq au aw I J O ax aa ab ac ay ae r3 q3 N:=
  zBf yF h
end Go.Proofs.YtlahkdflngobiaaGreatDoor
set_option maxRecDepth 100000
namespace Go.Proofs.YtlahkdflngobiaaGreatDoor
open Go Go.Proofs Go.Proofs.Tryz
def qU:Hint:=⟨[hc 4 [0,1,5]],[],[(6,[en 0,en 1,en 2,en 3,en 4,en 5,en 6,en 7,ec 8 [20,24],en 9])]⟩
def qM:Hint:=⟨[hc 4 [0,1,5]],[],[(6,[en 0,en 1,en 2,en 3,en 4,en 5,en 6,en 7,en 8])]⟩
def pM:Hint:=⟨[hc 13 [3,4,5,12,13] [(12,3,0)]],[],[(4,hs 5 [ec 2 [26]]),(5,hs 9 [ec 2 [30]]),(6,hs 9 [ec 2 [36]]),(7,hs 4 [ec 2 [41]]),(9,[en 0,en 1,en 2,ec 3 [47],ec 4 [45,48],en 5,en 6,en 7,en 8,en 9,en 10,en 11,en 12,en 13,ec 14 [57,58],en 15,en 16,en 17,en 18,en 19,en 20,ec 21 [65],eh 22,en 23,en 24,en 25,en 26,en 27,en 28,en 29,en 30,en 31,en 32,en 33,en 35,ec 34 [78],ec 36 [80],eh 37,en 38,en 39,en 40,en 41,en 43,ec 42 [86],ec 44 [88],en 45,en 46]),(16,hs 9 [ec 3 [106]]),(17,hs 9 [ec 3 [113]])]⟩
def wE (Q:QT [.bool]) (N0:Nat) (a0:Option Addr) (e0:List D) (I:Nat) (a1:Option Addr) (e1:List D) (c1:Nat) (J:Int) (N:Nat):Prop:=AT prog 24 [.bool] Q N0 .ord (zD prog 24 4) ⟨.sv a0 9 e0 I::.sv a1 9 e1 c1::an 3 (.int .i64 J::an 21 []),[],N,none⟩
def wJ (Q:QT [.bool]) (N0:Nat) (a0:Option Addr) (e0:List D) (I:Nat) (a1:Option Addr) (e1:List D) (c1:Nat) (J:Int) (N:Nat):Prop:=AT prog 26 [.bool] Q N0 .ord (zD prog 26 4) ⟨.sv a0 0 e0 I::.sv a1 0 e1 c1::an 3 (.int .i64 J::an 20 []),[],N,none⟩
def wI (Q:QT [.bool]) (N0:Nat) (a3:Option Addr) (e3:List D) (c3 I J:Nat) (O:Int) (y0 y1:D) (r2:List D) (q2:Nat) (N:Nat):Prop:=AT prog 4 [.bool] Q N0 .ord (zD prog 4 13) ⟨an 3 (.sv a3 4 e3 c3::.pb 0 0 0 0::.pb 1 0 0 0::an 6 (.sb 2 0 0 I J::.int .i64 O::an 115 [])),[.vd y0 9,.vd y1 9,.arr 3 0 r2 q2],N,none⟩
theorem zNy (N:Nat) (a0:Option Addr) (e0:List D) (I:Nat) (Q:QT [.bool]) (h :
Bel N (D.sl a0 0 e0 I)->∀ a,N<=a->Q (decide ((e0.length:Int)>1048576)) a):ACalls prog 17 [.bool] [PV.sv a0 0 e0 I] N Q:=
 eE H0 h
theorem zEG (N:Nat) (a0:Option Addr) (e0:List D) (I:Nat) (a1:Option Addr) (e1:List D) (c1:Nat) (Q:QT [.bool]) (h :
Bel N (D.sl a0 9 e0 I)->Bel N (D.sl a1 9 e1 c1)->Br (bne (e0.length:Int) (e1.length:Int)) (uP N (Q false)) (wE Q N a0 e0 I a1 e1 c1
 0 N)):ACalls prog 24 [.bool] [PV.sv a0 9 e0 I,PV.sv a1 9 e1 c1] N Q:=
  eE qU h
theorem zD8 (N:Nat) (a0:Option Addr) (e0:List D) (I:Nat) (a1:Option Addr) (e1:List D) (c1:Nat) (Q:QT [.bool]) (h :
Bel N (D.sl a0 0 e0 I)->Bel N (D.sl a1 0 e1 c1)->Br (bne (e0.length:Int) (e1.length:Int)) (uP N (Q false)) (wJ Q N a0 e0 I a1 e1 c1
 0 N)):ACalls prog 26 [.bool] [PV.sv a0 0 e0 I,PV.sv a1 0 e1 c1] N Q:=
  eE qM h
theorem zFW (N:Nat) (a0:Option Addr) (e0:List D) (I:Nat) (Q:QT [.bool]) (h :
Bel N (D.sl a0 0 e0 I)->kB 17 [.sv a0 0 e0 I] N (λb d=>Br b (uP d (Q true)) (∀ b,d<=b->ACalls prog 18 [.sl 4,.ag 9] [.sv a0 0 e0 I] b
 (λa c d x e=>b<=e->Bel e (D.sl a 4 c d)->Bel e x->kA 9 19 [.sv a 4 c d,.dg 9 x] e (λb e=>kAB 9 11 [.sv a 4 c d,.dg 9 x] e (λe
 f g=>kAB 9 8 [.sv a 4 c d,.dg 9 x] g (λg h i=>kL 9 20 [.sv a 4 c d,.dg 9 x] i (λi j k l=>kA 9 21 [.sv a0 0 e0 I] l (fun
 l m=>kA 9 23 [.sv a 4 c d,.dg 9 x] m (λm o=>kB 22 [.dg 9 b,.dg 9 m] o (λm o=>Br (!m) (uP o (Q false)) (Br (!(f==h))
 (uP o (Q false)) (kB 22 [.dg 9 e,.dg 9 g] o (λe g=>Br (!e) (uP g (Q false)) (kL 9 25 [.sv a 4 c d,.dg 9 x] g (λe g h m=>
 kB 24 [.sv i 9 j k,.sv e 9 g h] m (λe g=>Br (!e) (uP g (Q false)) (Br (!(f==decide ((j.length:Int)>0))) (uP g (Q
 false)) (kL 0 27 [.dg 9 l] g (λe f g h=>kL 0 28 [.dg 9 l] h (λh i j k=>kB 26 [.sv e 0 f g,.sv h 0 i j] k
 (λe f=>Br (!e) (uP f (Q false)) (∀ e,f<=e->ACalls prog 29 [.i] [.dg 9 b] e (λn f=>e<=f->∀ e,f<=e->ACalls prog 29
 [.i] [.dg 9 x] e (λf g=>e<=g->Br (decide (n>f)) (uP g (Q false)) (wI Q N a c d 0 0 0 x b [] 0
 g)))))))))))))))))))))))))):ACalls prog 4 [.bool] [PV.sv a0 0 e0 I] N Q:=
  eE pM h
theorem sF (Q:QT [.bool]) (N0:Nat) (a0:Option Addr) (e0:List D) (J:Nat) (a1:Option Addr) (e1:List D) (c1:Nat) (I:Int) (N:Nat) (h :
Br (decide (I<(e0.length:Int))) ((0<=I/\I<(e0.length:Int))/\(0<=I/\I<(e1.length:Int))/\kB 22 [.dg 9 (List.getD e0 I.toNat default),
 .dg 9 (List.getD e1 I.toNat default)] N (λb a=>Br (!b) (uP a (Q false)) (wE Q N0 a0 e0 J a1 e1 c1 (IntKind.i64.wrap (I+1)) a))) (uP
 N (Q true))):wE Q N0 a0 e0 J a1 e1 c1 I N:=
  hE qU h
theorem sL (Q:QT [.bool]) (N0:Nat) (a0:Option Addr) (e0:List D) (c0:Nat) (a1:Option Addr) (e1:List D) (c1:Nat) (n5:Int) (N:Nat) (h :
Br (decide (n5<(e0.length:Int))) ((0<=n5/\n5<(e0.length:Int))/\∃ s,List.getD e0 n5.toNat default=D.t s/\(0<=n5/\n5<(e1.length:Int)) /\
 ∃ a,List.getD e1 n5.toNat default=D.t a/\Br (!(ByteArray.toList s==ByteArray.toList a)) (uP N (Q false)) (wJ Q N0 a0 e0 c0 a1 e1 c1
 (IntKind.i64.wrap (n5+1)) N)) (uP N (Q true))):wJ Q N0 a0 e0 c0 a1 e1 c1 n5 N:=
  hE qM h
theorem sG (Q:QT [.bool]) (N0:Nat) (a3:Option Addr) (e3:List D) (c3 aa I:Nat) (J:Int) (y0 y1:D) (O:List D) (q2:Nat) (N:Nat) (h :
Br (decide (J<(e3.length:Int))) ((2:Int)≠(0:Int)/\(aa=O.length/\I=q2)/\zB O [D.j (Int.tmod J 2)] 8/\∀ (c:Nat),
 wI Q N0 a3 e3 c3 (O++[D.j (Int.tmod J 2)]).length c (IntKind.i64.wrap (J+1)) y0 y1 (O++[D.j (Int.tmod J 2)]) c N) ((aa =
 O.length/\I=q2)/\∀ a,ApA a O->Off [a] (D.sl a3 4 e3 c3)->Off [a] y0->∀ c,N<=c->wa c [a]->ACalls prog 30 [.i,.bool] [.sv a3 4 e3 c3,.dg 9
 y0,.sv a 0 O I] c (λn b a=>c<=a->(aa=O.length/\I=q2)/\∀ c,ApA c O->Off [c] (D.sl a3 4 e3 c3)->Off [c] y1->∀ d,a<=d ->
 wa d [c]->ACalls prog 30 [.i,.bool] [.sv a3 4 e3 c3,.dg 9 y1,.sv c 0 O I] d (λa c e=>d<=e->Br (!b) (uP e (Q true)) (Br (!c) (uP
 e (Q true)) (uP e (Q (n==a)))))))):wI Q N0 a3 e3 c3 aa I J y0 y1 O q2 N:=
  hE pM h
end Go.Proofs.YtlahkdflngobiaaGreatDoor
