/- The decimal numeral: the library's FormatInt, with what it leaves in memory. -/
import Derived.Test.YtlahkdflngobiaaGreatDoorB5
import Derived.Shelf.Strconv.Itoa3
set_option linter.unusedVariables false
set_option linter.unusedSimpArgs false
namespace Go.Proofs
namespace YtlahkdflngobiaaGreatDoor
open Go Go.Proofs Go.Proofs.Tryz Go.RowKit Go.Shelf Go.Sort Go.Lib
def itoaR:Go.Shelf.Ren:=⟨λx=>match x with | 171=>161 | 243=>190 | 246=>214 | 283=>223 | 284=>224 | 285=>225 | 286=>226 | 129=>229 | 317=>228 | 318=>230 | 319=>231 | 320=>232 | 337=>233 | 338=>234 | n=>n,λx=>match x with | 3=>3 | 9=>9 | 2=>2 | 4=>4 | 171=>190 | 0=>0 | 53=>191 | 37=>47 | 5=>5 | 173=>194 | 212=>197 | 51=>198 | 20=>20 | 213=>199 | 46=>172 | 232=>202 | 233=>203 | n=>n,λx=>match x with | 17=>0 | 18=>1 | 19=>2 | n=>n⟩
theorem itoaL:LaysM.n171 Tryz.prog itoaR where
 mixed:=by kernel_rfl
 f129:=Tryz.func229.trans (nL some (by kernel_rfl))
 f171:=Tryz.func161.trans (nL some (by kernel_rfl))
 f243:=Tryz.func190.trans (nL some (by kernel_rfl))
 f246:=Tryz.func214.trans (nL some (by kernel_rfl))
 f283:=Tryz.func223.trans (nL some (by kernel_rfl))
 f284:=Tryz.func224.trans (nL some (by kernel_rfl))
 f285:=Tryz.func225.trans (nL some (by kernel_rfl))
 f286:=Tryz.func226.trans (nL some (by kernel_rfl))
 f317:=Tryz.func228.trans (nL some (by kernel_rfl))
 f318:=Tryz.func230.trans (nL some (by kernel_rfl))
 f319:=Tryz.func231.trans (nL some (by kernel_rfl))
 f320:=Tryz.func232.trans (nL some (by kernel_rfl))
 f337:=Tryz.func233.trans (nL some (by kernel_rfl))
 f338:=Tryz.func234.trans (nL some (by kernel_rfl))
 t0:=Tryz.underlying0
 a0:=Tryz.isAgg0
 z0:=Tryz.sizeOf0
 v0:=Tryz.zeroValue0
 t2:=Tryz.underlying2
 a2:=Tryz.isAgg2
 z2:=Tryz.sizeOf2
 v2:=Tryz.zeroValue2
 t3:=Tryz.underlying3
 a3:=Tryz.isAgg3
 z3:=Tryz.sizeOf3
 v3:=Tryz.zeroValue3
 t4:=Tryz.underlying4
 a4:=Tryz.isAgg4
 z4:=Tryz.sizeOf4
 v4:=Tryz.zeroValue4
 t5:=Tryz.underlying5
 a5:=Tryz.isAgg5
 z5:=Tryz.sizeOf5
 v5:=Tryz.zeroValue5
 t9:=Tryz.underlying9
 a9:=Tryz.isAgg9
 z9:=Tryz.sizeOf9
 v9:=Tryz.zeroValue9
 t20:=Tryz.underlying20
 a20:=Tryz.isAgg20
 z20:=Tryz.sizeOf20
 v20:=Tryz.zeroValue20
 t37:=Tryz.underlying47
 a37:=Tryz.isAgg47
 z37:=Tryz.sizeOf47
 v37:=Tryz.zeroValue47
 t46:=Tryz.underlying172
 a46:=Tryz.isAgg172
 z46:=Tryz.sizeOf172
 v46:=Tryz.zeroValue172
 t51:=Tryz.underlying198
 a51:=Tryz.isAgg198
 z51:=Tryz.sizeOf198
 v51:=Tryz.zeroValue198
 t53:=Tryz.underlying191
 a53:=Tryz.isAgg191
 z53:=Tryz.sizeOf191
 v53:=Tryz.zeroValue191
 t171:=Tryz.underlying190
 a171:=Tryz.isAgg190
 z171:=Tryz.sizeOf190
 v171:=Tryz.zeroValue190
 t173:=Tryz.underlying194
 a173:=Tryz.isAgg194
 z173:=Tryz.sizeOf194
 v173:=Tryz.zeroValue194
 t212:=Tryz.underlying197
 a212:=Tryz.isAgg197
 z212:=Tryz.sizeOf197
 v212:=Tryz.zeroValue197
 t213:=Tryz.underlying199
 a213:=Tryz.isAgg199
 z213:=Tryz.sizeOf199
 t232:=Tryz.underlying202
 a232:=Tryz.isAgg202
 z232:=Tryz.sizeOf202
 v232:=Tryz.zeroValue202
 t233:=Tryz.underlying203
 a233:=Tryz.isAgg203
 z233:=Tryz.sizeOf203
 v233:=Tryz.zeroValue203
 g17:=by kernel_rfl
 g18:=by kernel_rfl
 g19:=by kernel_rfl
 i0:=by kernel_rfl
 i2:=by kernel_rfl
 i3:=by kernel_rfl
 i4:=by kernel_rfl
 i5:=by kernel_rfl
 i9:=by kernel_rfl
 i20:=by kernel_rfl
 i37:=by kernel_rfl
 i46:=by kernel_rfl
 i51:=by kernel_rfl
 i53:=by kernel_rfl
 i171:=by kernel_rfl
 i173:=by kernel_rfl
 i212:=by kernel_rfl
 i232:=by kernel_rfl
 i233:=by kernel_rfl
 m17:=by kernel_rfl
 m18:=by kernel_rfl
 m19:=by kernel_rfl
abbrev u8v:UInt8->Value:=λb=>Value.int .u8 (b.toNat:Int)
section
variable {P:Program} {ρ:Go.Shelf.Ren}
set_option maxHeartbeats 6400000 in
set_option maxRecDepth 100000 in
/-- from a hundred on: one new block -/
theorem zVX (L : LaysM.n246 P ρ) (u : Nat) (h0 : 100 <= u) (h1 : u <= 9223372036854775807) (w : World) (ab : Lib.TabIs P w "internal/strconv.uint64pow10" .u64 Lib.pow10Tab) :
  Calls P (ρ.f 246) #[.int .i64 u,.int .i64 10] w λe w'=>e=.returned (.string ⟨(Lib.decDigits u).toArray⟩)/\∃ k O,w'=(putRow u8v (w.alloc (.cells Lib.zeros24 (ρ.t 171))) w.heap.size 1 O).drewN k:=by
 have mixed:=L.mixed
 have t2:=L.t2;have a2:=L.a2;have z2:=L.z2;have v2:=L.v2
 have t3:=L.t3;have a3:=L.a3;have z3:=L.z3;have v3:=L.v3
 have t9:=L.t9;have a9:=L.a9;have z9:=L.z9;have v9:=L.v9
 have t4:=L.t4;have a4:=L.a4;have z4:=L.z4;have v4:=L.v4
 have t171:=L.t171;have a171:=L.a171;have z171:=L.z171;have v171:=L.v171
 have t0:=L.t0;have a0:=L.a0;have z0:=L.z0;have v0:=L.v0
 have t53:=L.t53;have a53:=L.a53;have z53:=L.z53;have v53:=L.v53
 have t37:=L.t37;have a37:=L.a37;have z37:=L.z37;have v37:=L.v37
 have t5:=L.t5;have a5:=L.a5;have z5:=L.z5;have v5:=L.v5
 have t173:=L.t173;have a173:=L.a173;have z173:=L.z173;have v173:=L.v173
 have ai:∀ args w,(callFunc (ρ.f 283) args).run P w=.ok (.enter (ρ.f 283) args) w:=enters_of L.f283 (by kernel_rfl) rfl
 have aj:∀ args w,(callFunc (ρ.f 284) args).run P w=.ok (.enter (ρ.f 284) args) w:=enters_of L.f284 (by kernel_rfl) rfl
 have ak:∀ args w,(callFunc (ρ.f 285) args).run P w=.ok (.enter (ρ.f 285) args) w:=enters_of L.f285 (by kernel_rfl) rfl
 have I:u<18446744073709551616:=by omega
 have ae:Lib.nDigits u<=20:=by have:=Lib.numDigits_eq u (by omega) I;split at this<;>omega
 have am:Lib.nDigits u<=23:=by omega
 have ac:P.arrayLen (ρ.t 171)=24:=by simp [Program.arrayLen,L.t171]
 have al:∀ W,(Instr.sliceAt (ρ.t 171) (.pointer (some ⟨w.heap.size,0,none⟩)) (some (.int .i64 1)) (some (.int .i64 (1+(Lib.nDigits u:Int)))) none).run P W=.ok (.slice (some ⟨w.heap.size,1,none⟩) (Lib.nDigits u) 23) W:=λW=>by
  rw [run_sliceAt_array_lh W (ρ.t 171) ⟨w.heap.size,0,none⟩ (by simp [Program.arrayLen,Program.elem,L.t171]) .i64 .i64 1 (1+(Lib.nDigits u:Int)) (by omega) (by omega) (by rw [ac];omega)]
  go_simp
  omega
 have aa:=Lib.holds_zero w (ρ.t 171) (Lib.nDigits u) (by omega)
 have J:=Any.internal_strconv_formatBase10 { L with } w.heap.size 1 23 u (Array.replicate (Lib.nDigits u) 0) (w.alloc (.cells Lib.zeros24 (ρ.t 171))) aa (by rw [mo];exact Lib.lt_pow_nDigits u) I (by rw [mo];omega)
 rw [mo] at J
 have ah:=Lib.hid aa
 clear aa ac
 go_enter L.f246,Body.n246_ntmps ρ
 go_wp2_with (first
  | (go_at_fn (ρ.f 284);refine (Any.internal_strconv_numDigits { L with } u (by omega) I _ (Lib.tabIs_alloc ab _)).mono ?_;rintro e w' ⟨rfl,rfl⟩))
 go_at_fn (ρ.f 285)
 refine J.mono ?_
 rintro e w' ⟨rfl,k,v',O,rfl,hF⟩
 have ao:(convert (ρ.t 37) (ρ.t 9) (.slice (some ⟨w.heap.size,1,none⟩) (Lib.nDigits u) 23)).run P ((putRow (λ(b:UInt8)=>Value.int .u8 (b.toNat:Int)) (w.alloc (.cells Lib.zeros24 (ρ.t 171))) w.heap.size 1 O).drewN k)=.ok (.string ⟨(Lib.decDigits u).toArray⟩) ((putRow (λ(b:UInt8)=>Value.int .u8 (b.toNat:Int)) (w.alloc (.cells Lib.zeros24 (ρ.t 171))) w.heap.size 1 O).drewN k):=by
  have h:=run_convert_bytes_back (P:=P) ((putRow (λ(b:UInt8)=>Value.int .u8 (b.toNat:Int)) (w.alloc (.cells Lib.zeros24 (ρ.t 171))) w.heap.size 1 O).drewN k) (ρ.t 37) (ρ.t 9) (ρ.t 5) ⟨w.heap.size,1,none⟩ 23 (Lib.decDigits u) L.t37 L.t5 L.t9 (λj hj=>by
   rw [Lib.row_is_numeral hF j hj,Lib.add_plain,World.cell?_drewN]
   exact cell?_putRow (λ(b:UInt8)=>Value.int .u8 (b.toNat:Int)) _ w.heap.size 1 _ O ah.out (by rw [hF.size,mo]) j (by rw [hF.size];rw [Lib.decDigits_length] at hj;exact hj))
  rw [Lib.decDigits_length] at h
  exact h
 go_wp2
 go_ret
 exact ⟨rfl,k,O,rfl⟩
/-- what a call leaves: old memory as it was, new memory unfrozen -/
structure Kp (w w':World):Prop where
 size:w.heap.size<=w'.heap.size
 old:∀ b,b<w.heap.size->w'.heap[b]?=w.heap[b]?
 fz:∀ (b:Nat) (c:Array Value) (t:TypeId) (z:Nat × Nat),w.heap.size<=b->w'.heap[b]?=some (.cells c t z)->z=(0,0)
 ku:KU w w'
theorem Kp.rfl {w:World}:Kp w w:=⟨oB _,λ_ _=>Eq.refl _,λb c t z I h=>(by rw [Array.getElem?_eq_none I] at h;cases h),KU.rfl⟩
theorem zUk (w:World) (t:TypeId) (c:Array Value) (J:Array UInt8) (k:Nat):Kp w ((putRow u8v (w.alloc (.cells c t)) w.heap.size 1 J).drewN k):=by
 have O:((putRow u8v (w.alloc (.cells c t)) w.heap.size 1 J).drewN k).heap=(w.heap.push (.cells c t)).modify w.heap.size (onCells (putCells u8v 1 J)):=Eq.refl _
 refine ⟨?_,λb hb=>?_,λb c' t' z hb h=>?_,⟨Eq.refl _,Eq.refl _⟩⟩
 ·rw [O];simp
 ·rw [O,Array.getElem?_modify,if_neg (by omega),mu,if_neg (by omega)]
 ·rw [O,Array.getElem?_modify] at h
  by_cases I:w.heap.size=b
  ·rw [if_pos I,<-I,mu,if_pos (Eq.refl _)] at h
   simp [onCells] at h
   exact h.2.2.symm
  ·rw [if_neg I,mu,if_neg (by omega),Array.getElem?_eq_none hb] at h
   cases h
set_option maxRecDepth 100000 in
theorem zTi (L : LaysM.n171 P ρ) (u : Nat) (h1 : u <= 9223372036854775807) (w : World) (J : Lib.TabIs P w "internal/strconv.uint64pow10" .u64 Lib.pow10Tab) :
  Calls P (ρ.f 171) #[.int .i64 u] w λe w'=>e=.returned (.string ⟨(Lib.decDigits u).toArray⟩)/\Kp w w':=by
 by_cases hu:u<100
 ·exact (Any.strconv_Itoa_small { L with } u hu w).mono λe w' h=>⟨h.1,h.2 ▸ Kp.rfl⟩
 have mixed:=L.mixed
 have t3:=L.t3;have a3:=L.a3;have z3:=L.z3;have v3:=L.v3
 have t9:=L.t9;have a9:=L.a9;have z9:=L.z9;have v9:=L.v9
 have t2:=L.t2;have a2:=L.a2;have z2:=L.z2;have v2:=L.v2
 have aa:∀ args w,(callFunc (ρ.f 243) args).run P w=.ok (.enter (ρ.f 243) args) w:=enters_of L.f243 (by kernel_rfl) rfl
 have ab:∀ args w,(callFunc (ρ.f 246) args).run P w=.ok (.enter (ρ.f 246) args) w:=enters_of L.f246 (by kernel_rfl) rfl
 have O:Calls P (ρ.f 243) #[.int .i64 u] w λe w'=>e=.returned (.string ⟨(Lib.decDigits u).toArray⟩)/\∃ k I,w'=(putRow u8v (w.alloc (.cells Lib.zeros24 (ρ.t 171))) w.heap.size 1 I).drewN k:=by
  go_enter L.f243,Body.n243_ntmps ρ
  go_wp2_with (go_at_fn (ρ.f 246);refine (zVX { L with } u (by omega) h1 _ J).mono ?_;rintro e w' ⟨rfl,k,I,rfl⟩)
  go_ret
  exact ⟨rfl,k,I,rfl⟩
 have top:Calls P (ρ.f 171) #[.int .i64 u] w λe w'=>e=.returned (.string ⟨(Lib.decDigits u).toArray⟩)/\∃ k I,w'=(putRow u8v (w.alloc (.cells Lib.zeros24 (ρ.t 171))) w.heap.size 1 I).drewN k:=by
  go_enter L.f171,Body.n171_ntmps ρ
  go_wp2_with (go_at_fn (ρ.f 243);refine O.mono ?_;rintro e w' ⟨rfl,k,I,rfl⟩)
  go_ret
  exact ⟨rfl,k,I,rfl⟩
 exact top.mono λe w' ⟨h,k,I,h2⟩=>⟨h,h2 ▸ zUk w _ _ I k⟩
end
theorem zSb {w : World} (h : GlobIs w) : Lib.TabIs prog w "internal/strconv.uint64pow10" .u64 Lib.pow10Tab := by
 obtain ⟨t,fz,I⟩:=h.h _ (nS)
 unfold Lib.TabIs World.var?
 rw [itoaL.m17]
 have J:w.heap[itoaR.g 17]?=some (.cells (Lib.pow10Tab.map λn=>Value.int .u64 n).toArray t fz):=I
 simp only [mY,J]
theorem zUp (u:Nat) (h1:u<=9223372036854775807) (N:Nat) (Q:QT [.str]) (hQ:∀ N',N<=N'->Q ⟨(Lib.decDigits u).toArray⟩ N'):ACalls prog 161 [.str] [.int .i64 u] N Q:=
 ⟨by kernel_rfl,λav w0 hN J _=>(zTi itoaL u h1 w0 (zSb J.g)).mono λe w ⟨he,I⟩=>by
  subst he
  subst hN
  refine ⟨[.str ⟨(Lib.decDigits u).toArray⟩],[],[],?_⟩
  exact { q:=hQ _ I.size,v:=rfl,m:=⟨rfl,by simp,by simp,by simp,λk j b h=>by obtain ⟨_,h2,_⟩:=h;simp [Env.at] at h2⟩,ok:=λp O=>by simp at O;subst O;trivial,fresh:=λk b h=>by simp [Env.at] at h,size:=I.size,old:=I.old,fz:=I.fz,ku:=I.ku }⟩
end YtlahkdflngobiaaGreatDoor
end Go.Proofs
namespace Go.Proofs.YtlahkdflngobiaaGreatDoor
open Go Go.Proofs Go.Proofs.Tryz Go.IntWalk
def zM5 (f:FuncId) (args:List PV) (s:ByteArray):Prop:=∀ (N:Nat) (Q:QT [.str]),(∀ N',N<=N'->Q s N')->ACalls prog f [.str] args N Q
theorem Qst {Q:QT [.str]} {a b:ByteArray} {N:Nat} (h:Q a N) (e:a=b):Q b N:=e ▸ h
def zU2 (u:Nat):ByteArray:=⟨(Lib.decDigits u).toArray⟩
theorem zJM (u:Nat) (h:u<=4611686018427387904):Lib.nDigits u<=20:=by
 by_cases I:1<=u
 ·have:=Lib.numDigits_eq u I (by omega);split at this<;>omega
 ·rw [Lib.nDigits_small (by omega)];omega
theorem zKW (u:Nat):(zU2 u).size=Lib.nDigits u:=by
 show (Lib.decDigits u).toArray.size=_
 rw [nq,Lib.decDigits_length]
theorem zFC {a b:ByteArray} (h:a.data.toList=b.data.toList):a=b:=by
 cases a;cases b;simp at h;rw [h]
theorem zSp (a b:ByteArray):(a++b).data.toList=a.data.toList++b.data.toList:=by simp
theorem zNH (k:Nat):bytes [118]++zU2 k=sd k:=zFC (by rw [zSp];rfl)
theorem zOZ (k:Nat) (h:k<=4611686018427387904):(sd k).size<=21:=by
 have:=zJM k h
 show (118::Lib.decDigits k).toArray.size<=21
 rw [nq,oJ,Lib.decDigits_length];omega
theorem zEK (u:Nat) (h:u<=4611686018427387904):zM5 122 [.j u] (zU2 u):=λN Q I=>
 zEJ N u Q λN1 J=>zUp u (by omega) N1 _ λN2 O _ N3 aa=>I _ (by omega)
theorem zRL (m:Nat) (s:ByteArray) (hs:∀ u,u<10->Lib.decDigits u=[UInt8.ofNat (48+u)]):(bytesOf [IntKind.u8.wrap (IntKind.i64.wrap (48+Int.tmod (m:Int) 10))]++s).data.toList=UInt8.ofNat (48+m % 10)::s.data.toList:=by
 rw [zSp]
 have e:IntKind.u8.wrap (IntKind.i64.wrap (48+Int.tmod (m:Int) 10))=((48+m % 10:Nat):Int):=by
  have:Int.tmod (m:Int) 10=((m % 10:Nat):Int):=by rw [nu (by omega)];omega
  rw [this,i64_in _ (by omega),IntKind.wrap_u8];omega
 rw [e]
 have I:bytesOf [((48+m % 10:Nat):Int)]=⟨#[UInt8.ofNat (48+m % 10)]⟩:=rfl
 rw [I]
 rfl
theorem zEi (u:Nat) (h:u<=4611686018427387904):zM5 77 [.j u] (zU2 u):=λN Q hQ=>by
 have e1:∀ u,u<10->Lib.decDigits u=[UInt8.ofNat (48+u)]:=λu h=>by rw [Lib.decDigits,dif_pos h]
 have e2:∀ u,¬u<10->Lib.decDigits u=Lib.decDigits (u / 10)++[UInt8.ofNat (48+u % 10)]:=λu h=>by rw [Lib.decDigits,dif_neg h]
 refine zD7 N u Q (Br.beq (λh0 N1 aa=>?_) λh0=>?_)
 ·have:u=0:=by omega
  subst this
  refine Qst (hQ _ aa) (zFC ?_)
  show Lib.decDigits 0=[48]
  rw [e1 0 (by omega)]
  rfl
 ·rw [mM (by omega)]
  have key:∀ (m:Nat) (s:ByteArray),m<=u->s.size+Lib.nDigits m<=20\/(m=0/\s.size<=20)->(if m=0 then [] else Lib.decDigits m)++s.data.toList=Lib.decDigits u->yx Q N m false s N:=by
   intro m
   induction m using Nat.strongRecOn with
   | _ m ih=>
     intro s hm O he
     refine zCi _ _ _ _ _ _ ?_
     refine Br.bne (λI=>?_) λI=>?_
     ·have I:m≠0:=by omega
      have ht:Int.tmod (m:Int) 10=((m % 10:Nat):Int):=by rw [nu (by omega)];omega
      have hd:Int.tdiv (m:Int) 10=((m / 10:Nat):Int):=by rw [Int.tdiv_eq_ediv_of_nonneg (by omega)];omega
      have O:s.size+Lib.nDigits m<=20:=by rcases O with h1 | ⟨h1,_⟩;exact h1;exact absurd h1 I
      refine ⟨by omega,?_⟩
      rw [mM (by omega)]
      refine ⟨by simp,[IntKind.u8.wrap (IntKind.i64.wrap (48+Int.tmod (m:Int) 10))],rfl,?_,by omega,?_⟩
      ·have:(bytesOf [IntKind.u8.wrap (IntKind.i64.wrap (48+Int.tmod (m:Int) 10))]).size=1:=rfl
       omega
      ·rw [hd,i64_in _ (by omega)]
       refine ih (m / 10) (by omega) _ (by omega) ?_ ?_
       ·have h1:(bytesOf [IntKind.u8.wrap (IntKind.i64.wrap (48+Int.tmod (m:Int) 10))]++s).size=1+s.size:=by
         rw [ByteArray.size_append];rfl
        by_cases J:m<10
        ·right
         have:=Lib.nDigits_pos m
         exact ⟨by omega,by omega⟩
        ·left
         have:=Lib.nDigits_big J
         omega
       ·rw [zRL m s e1,<-he,if_neg I]
        by_cases J:m<10
        ·rw [if_pos (by omega),e1 m J,show m % 10=m by omega];rfl
        ·rw [if_neg (by omega),e2 m J];simp
     ·have:m=0:=by omega
      subst this
      refine λN2 ab=>Qst (hQ _ ab) (zFC ?_)
      rw [if_pos rfl] at he
      exact he.symm
  refine key u (bytes []) (oB _) (.inl ?_) ?_
  ·have:=zJM u h
   show 0+_<=_
   omega
  ·rw [if_neg (by omega)];exact o6 _
theorem zHt (l:List ByteArray) (P:Nat->Nat->Prop) (N:Nat) (F:ByteArray->Nat->Prop) (hF:∀ N',N<=N'->F (fresh l) N')
  (step:∀ (k N':Nat),N<=N'->k<=l.length+1->(∀ N'',N'<=N''->sd k∈l->P (k+1) N'')->(∀ N'',N'<=N''->sd k∉l->F (sd k) N'')->P k N'):P 1 N:=by
 have key:∀ (f k:Nat) (N':Nat),N<=N'->1<=k->k+f=l.length+1->(∀ j,1<=j->j<k->sd j∈l)->pD f k l=pD l.length 1 l->P k N':=by
  intro f
  induction f with
  | zero=>
    intro k N' J aa ab I O
    refine step k N' J (by omega) (λN'' h1 hm=>?_) λN'' h1 hm=>?_
    ·exfalso
     have:=zSq l (k+1) (λj h4 h5=>by
      by_cases h6:j=k
      ·subst h6;exact hm
      ·exact I j h4 (by omega)) (by omega)
     omega
    ·have:=hF N'' (by omega)
     unfold fresh at this
     rw [<-O] at this
     exact this
  | succ f ih=>
    intro k N' J aa ab I O
    simp only [pD] at O
    refine step k N' J (by omega) (λN'' h1 hm=>?_) λN'' h1 hm=>?_
    ·rw [if_pos hm] at O
     exact ih (k+1) N'' (by omega) (by omega) (by omega) (λj h4 h5=>by
      by_cases h6:j=k
      ·subst h6;exact hm
      ·exact I j h4 (by omega)) O
    ·rw [if_neg hm] at O
     have:=hF N'' (by omega)
     unfold fresh at this
     rw [<-O] at this
     exact this
 exact key l.length 1 N (oB _) (oB _) (by omega) (λj h1 h2=>by omega) rfl
theorem zET (l:List ByteArray) (hl:l.length<=8796093022208) (a:Option Addr) (c:Nat):zM5 35 [.sv a 0 (zA l) c] (fresh l):=λN Q O=>by
 refine zD4 N a _ c Q λ_=>?_
 refine zHt l (λk N'=>wM Q N a (zA l) c k N') N (λs N'=>Q s N') O λk N' aa hk J I=>?_
 have ab:=zJM k (by omega)
 have ac:=zKW k
 refine zBg _ _ _ _ _ _ _ λN1 ae=>zEi k (by omega) N1 _ λN2 ah _=>⟨by omega,λN3 ai=>?_⟩
 rw [zNH]
 refine xu l (by omega) a c (sd k) N3 _ λN4 aj _=>?_
 simp only [zMD]
 refine Br.dec (λh N5 ak=>I _ (by omega) h) λh=>?_
 rw [i64_in _ (by omega)]
 exact J _ (by omega) (Decidable.not_not.1 h)
theorem zEm (l:List ByteArray) (hl:l.length<=8796093022208) (a:Option Addr) (c:Nat):zM5 45 [.sv a 0 (zA l) c] (fresh l):=λN Q O=>by
 refine zEs N a _ c Q λ_ N1 aa=>zLe N1 _ a _ c _ λ_=>?_
 refine zHt l (λk N'=>ub _ N1 (bytes [118]) a (zA l) c k N') N1 (λs N'=>∀ N'',N'<=N''->Q s N'') (λN' h N'' h2=>O _ (by omega)) λk N' ab hk J I=>?_
 have ac:=zJM k (by omega)
 have ae:=zKW k
 have hb:(bytes [118]).size=1:=rfl
 refine zGt _ _ _ _ _ _ _ _ λN2 ah=>zEK k (by omega) N2 _ λN3 ai _=>⟨by omega,λN4 aj=>?_⟩
 rw [zNH]
 refine xw l (by omega) a c (sd k) N4 _ λN5 ak _=>?_
 rw [zDS]
 refine Br.ndec (λh N6 al=>?_) λh=>?_
 ·exact λ_ N7 am=>I N7 (by omega) h _ (oB _)
 ·rw [i64_in _ (by omega)]
  exact J _ (by omega) h
end Go.Proofs.YtlahkdflngobiaaGreatDoor
