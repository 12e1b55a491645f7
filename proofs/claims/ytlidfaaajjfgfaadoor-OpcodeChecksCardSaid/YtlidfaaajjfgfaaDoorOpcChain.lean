/- The functions of the opcode layer read as plain functions of data (a chain of readings), and the contract of each. No conditions. -/
import Derived.Test.YtlidfaaajjfgfaaDoorAbLoop
import Derived.Test.YtlidfaaajjfgfaaDoorProg
namespace Go.Proofs.YtlidfaaajjfgfaaDoor
open Go Ab
set_option maxRecDepth 100000
set_option linter.all false
noncomputable def Gw : Nat → Option ((s : Sh) × s.den) := fun g => if g = 0 then some ⟨.arr 5 (.int .i64), [0, 1, 8, 32, 64]⟩ else none
abbrev Tab := List (FuncId × (List AV → Option (Bool × AV)))
noncomputable def gT (t : Tab) : Fx := { P := Tryd.prog, G := Gw, K := fun f => t.lookup f, res := [], W := fun f x => whileN f 300 x, rounds := 6 }
/-- The same, a loop run as far as it goes. -/
noncomputable def gN (t : Tab) : Fx := { P := Tryd.prog, G := Gw, K := fun f => t.lookup f, res := [], W := whileW, rounds := 6 }
noncomputable def t0 : Tab := []
abbrev rowSh : Sh := .prod .str (.prod (.int .i64) .unit)
def rowsL : List (ByteArray × Int × Unit) := [(⟨#[99, 111, 110, 115, 116]⟩, (0 : Int), ()), (⟨#[112, 111, 105, 115, 111, 110]⟩, (0 : Int), ()), (⟨#[102, 114, 101, 101, 122, 101]⟩, (1 : Int), ()), (⟨#[99, 111, 112, 121]⟩, (1 : Int), ()), (⟨#[97, 100, 100]⟩, (2 : Int), ()), (⟨#[115, 117, 98]⟩, (2 : Int), ()), (⟨#[109, 117, 108]⟩, (2 : Int), ()), (⟨#[97, 110, 100]⟩, (2 : Int), ()), (⟨#[111, 114]⟩, (2 : Int), ()), (⟨#[120, 111, 114]⟩, (2 : Int), ()), (⟨#[115, 104, 108]⟩, (2 : Int), ()), (⟨#[108, 115, 104, 114]⟩, (2 : Int), ()), (⟨#[97, 115, 104, 114]⟩, (2 : Int), ()), (⟨#[115, 100, 105, 118]⟩, (2 : Int), ()), (⟨#[115, 114, 101, 109]⟩, (2 : Int), ()), (⟨#[101, 113]⟩, (2 : Int), ()), (⟨#[110, 101]⟩, (2 : Int), ()), (⟨#[115, 108, 116]⟩, (2 : Int), ()), (⟨#[115, 108, 101]⟩, (2 : Int), ()), (⟨#[117, 108, 116]⟩, (2 : Int), ()), (⟨#[115, 101, 108, 101, 99, 116]⟩, (3 : Int), ()), (⟨#[115, 101, 120, 116]⟩, (1 : Int), ()), (⟨#[122, 101, 120, 116]⟩, (1 : Int), ()), (⟨#[116, 114, 117, 110, 99]⟩, (1 : Int), ()), (⟨#[103, 108, 111, 98, 97, 108]⟩, (0 : Int), ()), (⟨#[97, 108, 108, 111, 99, 97]⟩, (0 : Int), ()), (⟨#[111, 102, 102, 115, 101, 116]⟩, (2 : Int), ()), (⟨#[108, 111, 97, 100]⟩, (1 : Int), ()), (⟨#[115, 116, 111, 114, 101]⟩, (2 : Int), ()), (⟨#[99, 97, 108, 108]⟩, (-1 : Int), ()), (⟨#[111, 117, 116, 112, 117, 116]⟩, (1 : Int), ()), (⟨#[112, 97, 99, 107]⟩, (-1 : Int), ()), (⟨#[108, 97, 110, 101]⟩, (1 : Int), ())]
def opsL : List ByteArray := [⟨#[]⟩, ⟨#[99, 111, 110, 115, 116]⟩, ⟨#[112, 111, 105, 115, 111, 110]⟩, ⟨#[102, 114, 101, 101, 122, 101]⟩, ⟨#[99, 111, 112, 121]⟩, ⟨#[97, 100, 100]⟩, ⟨#[115, 117, 98]⟩, ⟨#[109, 117, 108]⟩, ⟨#[97, 110, 100]⟩, ⟨#[111, 114]⟩, ⟨#[120, 111, 114]⟩, ⟨#[115, 104, 108]⟩, ⟨#[108, 115, 104, 114]⟩, ⟨#[97, 115, 104, 114]⟩, ⟨#[115, 100, 105, 118]⟩, ⟨#[115, 114, 101, 109]⟩, ⟨#[101, 113]⟩, ⟨#[110, 101]⟩, ⟨#[115, 108, 116]⟩, ⟨#[115, 108, 101]⟩, ⟨#[117, 108, 116]⟩, ⟨#[115, 101, 108, 101, 99, 116]⟩, ⟨#[115, 101, 120, 116]⟩, ⟨#[122, 101, 120, 116]⟩, ⟨#[116, 114, 117, 110, 99]⟩, ⟨#[103, 108, 111, 98, 97, 108]⟩, ⟨#[97, 108, 108, 111, 99, 97]⟩, ⟨#[111, 102, 102, 115, 101, 116]⟩, ⟨#[108, 111, 97, 100]⟩, ⟨#[115, 116, 111, 114, 101]⟩, ⟨#[99, 97, 108, 108]⟩, ⟨#[111, 117, 116, 112, 117, 116]⟩, ⟨#[112, 97, 99, 107]⟩, ⟨#[108, 97, 110, 101]⟩]
def typesL : List ByteArray := [⟨#[118, 111, 105, 100]⟩, ⟨#[98, 111, 111, 108]⟩, ⟨#[105, 56]⟩, ⟨#[105, 51, 50]⟩, ⟨#[105, 54, 52]⟩, ⟨#[112, 116, 114]⟩, ⟨#[118, 50]⟩, ⟨#[118, 52]⟩]
theorem e26 : exFn (gT t0) Tryd.f26 [] = some (true, .dsl rowSh rowsL) := by kernel_rfl
def c26 : List AV → Option (Bool × AV)
  | [] => some (true, .dsl rowSh rowsL)
  | _ => none
theorem e27 : exFn (gT t0) Tryd.f27 [] = some (true, .dsl .str opsL) := by kernel_rfl
def c27 : List AV → Option (Bool × AV)
  | [] => some (true, .dsl .str opsL)
  | _ => none
theorem e28 : exFn (gT t0) Tryd.f28 [] = some (true, .dsl .str typesL) := by kernel_rfl
def c28 : List AV → Option (Bool × AV)
  | [] => some (true, .dsl .str typesL)
  | _ => none
theorem e29 : exFn (gT t0) Tryd.f29 [] = some (true, .dsl .str typesL) := by kernel_rfl
def c29 : List AV → Option (Bool × AV)
  | [] => some (true, .dsl .str typesL)
  | _ => none
noncomputable def t26 : Tab := (26, c26) :: t0
noncomputable def t27 : Tab := (27, c27) :: t26
noncomputable def t28 : Tab := (28, c28) :: t27
noncomputable def t29 : Tab := (29, c29) :: t28
noncomputable def c13 := preC (argsT Tryd.prog Tryd.f13) (mkC (resT Tryd.prog Tryd.f13) (exFn (gT t29) Tryd.f13))
noncomputable def t13 : Tab := (13, c13) :: t29
noncomputable def c14 := preC (argsT Tryd.prog Tryd.f14) (mkC (resT Tryd.prog Tryd.f14) (exFn (gT t13) Tryd.f14))
noncomputable def t14 : Tab := (14, c14) :: t13
noncomputable def c15 := preC (argsT Tryd.prog Tryd.f15) (mkC (resT Tryd.prog Tryd.f15) (exFn (gT t14) Tryd.f15))
noncomputable def t15 : Tab := (15, c15) :: t14
noncomputable def c16 := preC (argsT Tryd.prog Tryd.f16) (mkC (resT Tryd.prog Tryd.f16) (exFn (gT t15) Tryd.f16))
noncomputable def t16 : Tab := (16, c16) :: t15
noncomputable def c7 := preC (argsT Tryd.prog Tryd.f7) (mkC (resT Tryd.prog Tryd.f7) (exFn (gT t16) Tryd.f7))
noncomputable def t7 : Tab := (7, c7) :: t16
noncomputable def c8 := preC (argsT Tryd.prog Tryd.f8) (mkC (resT Tryd.prog Tryd.f8) (exFn (gT t7) Tryd.f8))
noncomputable def t8 : Tab := (8, c8) :: t7
noncomputable def c9 := preC (argsT Tryd.prog Tryd.f9) (mkC (resT Tryd.prog Tryd.f9) (exFn (gT t8) Tryd.f9))
noncomputable def t9 : Tab := (9, c9) :: t8
noncomputable def c10 := preC (argsT Tryd.prog Tryd.f10) (mkC (resT Tryd.prog Tryd.f10) (exFn (gT t9) Tryd.f10))
noncomputable def t10 : Tab := (10, c10) :: t9
noncomputable def c11 := preC (argsT Tryd.prog Tryd.f11) (mkC (resT Tryd.prog Tryd.f11) (exFn (gT t10) Tryd.f11))
noncomputable def t11 : Tab := (11, c11) :: t10
noncomputable def c12 := preC (argsT Tryd.prog Tryd.f12) (mkC (resT Tryd.prog Tryd.f12) (exFn (gT t11) Tryd.f12))
noncomputable def t12 : Tab := (12, c12) :: t11
noncomputable def c17 := preC (argsT Tryd.prog Tryd.f17) (mkC (resT Tryd.prog Tryd.f17) (exFn (gT t12) Tryd.f17))
noncomputable def t17 : Tab := (17, c17) :: t12
noncomputable def c18 := preC (argsT Tryd.prog Tryd.f18) (mkC (resT Tryd.prog Tryd.f18) (exFn (gT t17) Tryd.f18))
noncomputable def t18 : Tab := (18, c18) :: t17
noncomputable def c19 := preC (argsT Tryd.prog Tryd.f19) (mkC (resT Tryd.prog Tryd.f19) (exFn (gT t18) Tryd.f19))
noncomputable def t19 : Tab := (19, c19) :: t18
noncomputable def c20 := preC (argsT Tryd.prog Tryd.f20) (mkC (resT Tryd.prog Tryd.f20) (exFn (gT t19) Tryd.f20))
noncomputable def t20 : Tab := (20, c20) :: t19
noncomputable def c21 := preC (argsT Tryd.prog Tryd.f21) (mkC (resT Tryd.prog Tryd.f21) (exFn (gT t20) Tryd.f21))
noncomputable def t21 : Tab := (21, c21) :: t20
noncomputable def c22 := preC (argsT Tryd.prog Tryd.f22) (mkC (resT Tryd.prog Tryd.f22) (exFn (gT t21) Tryd.f22))
noncomputable def t22 : Tab := (22, c22) :: t21
noncomputable def c30 := preC (argsT Tryd.prog Tryd.f30) (mkC (resT Tryd.prog Tryd.f30) (exFn (gT t22) Tryd.f30))
noncomputable def t30 : Tab := (30, c30) :: t22
noncomputable def c31 := preC (argsT Tryd.prog Tryd.f31) (mkC (resT Tryd.prog Tryd.f31) (exFn (gT t30) Tryd.f31))
noncomputable def t31 : Tab := (31, c31) :: t30
noncomputable def c32 := preC (argsT Tryd.prog Tryd.f32) (mkC (resT Tryd.prog Tryd.f32) (exFn (gT t31) Tryd.f32))
noncomputable def t32 : Tab := (32, c32) :: t31
noncomputable def c40 := preC (argsT Tryd.prog Tryd.f40) (mkC (resT Tryd.prog Tryd.f40) (exFn (gT t32) Tryd.f40))
noncomputable def t40 : Tab := (40, c40) :: t32
noncomputable def c41 := preC (argsT Tryd.prog Tryd.f41) (mkC (resT Tryd.prog Tryd.f41) (exFn (gT t40) Tryd.f41))
noncomputable def t41 : Tab := (41, c41) :: t40
noncomputable def c42 := preC (argsT Tryd.prog Tryd.f42) (mkC (resT Tryd.prog Tryd.f42) (exFn (gT t41) Tryd.f42))
noncomputable def t42 : Tab := (42, c42) :: t41
noncomputable def c43 := preC (argsT Tryd.prog Tryd.f43) (mkC (resT Tryd.prog Tryd.f43) (exFn (gT t42) Tryd.f43))
noncomputable def t43 : Tab := (43, c43) :: t42
noncomputable def c44 := preC (argsT Tryd.prog Tryd.f44) (mkC (resT Tryd.prog Tryd.f44) (exFn (gT t43) Tryd.f44))
noncomputable def t44 : Tab := (44, c44) :: t43
noncomputable def c45 := preC (argsT Tryd.prog Tryd.f45) (mkC (resT Tryd.prog Tryd.f45) (exFn (gT t44) Tryd.f45))
noncomputable def t45 : Tab := (45, c45) :: t44
noncomputable def c46 := preC (argsT Tryd.prog Tryd.f46) (mkC (resT Tryd.prog Tryd.f46) (exFn (gT t45) Tryd.f46))
noncomputable def t46 : Tab := (46, c46) :: t45
noncomputable def c53 := preC (argsT Tryd.prog Tryd.f53) (mkC (resT Tryd.prog Tryd.f53) (exFn (gT t46) Tryd.f53))
noncomputable def t53 : Tab := (53, c53) :: t46
noncomputable def c47 := preC (argsT Tryd.prog Tryd.f47) (mkC (resT Tryd.prog Tryd.f47) (exFn (gT t53) Tryd.f47))
noncomputable def t47 : Tab := (47, c47) :: t53
noncomputable def c33 := preC (argsT Tryd.prog Tryd.f33) (mkC (resT Tryd.prog Tryd.f33) (exFn (gT t47) Tryd.f33))
noncomputable def t33 : Tab := (33, c33) :: t47
noncomputable def c34 := preC (argsT Tryd.prog Tryd.f34) (mkC (resT Tryd.prog Tryd.f34) (exFn (gT t33) Tryd.f34))
noncomputable def t34 : Tab := (34, c34) :: t33
noncomputable def c35 := preC (argsT Tryd.prog Tryd.f35) (mkC (resT Tryd.prog Tryd.f35) (exFn (gT t34) Tryd.f35))
noncomputable def t35 : Tab := (35, c35) :: t34
noncomputable def c24 := preC (argsT Tryd.prog Tryd.f24) (mkC (resT Tryd.prog Tryd.f24) (exFn (gT t35) Tryd.f24))
noncomputable def t24 : Tab := (24, c24) :: t35
noncomputable def c51 := preC (argsT Tryd.prog Tryd.f51) (mkC (resT Tryd.prog Tryd.f51) (exFn (gT t24) Tryd.f51))
noncomputable def t51 : Tab := (51, c51) :: t24
noncomputable def c52 := preC (argsT Tryd.prog Tryd.f52) (mkC (resT Tryd.prog Tryd.f52) (exFn (gT t51) Tryd.f52))
noncomputable def t52 : Tab := (52, c52) :: t51
noncomputable def c39 := preC (argsT Tryd.prog Tryd.f39) (mkC (resT Tryd.prog Tryd.f39) (exFn (gT t52) Tryd.f39))
noncomputable def t39 : Tab := (39, c39) :: t52
noncomputable def c50 := preC (argsT Tryd.prog Tryd.f50) (mkC (resT Tryd.prog Tryd.f50) (exFn (gT t39) Tryd.f50))
noncomputable def t50 : Tab := (50, c50) :: t39
noncomputable def c48 := preC (argsT Tryd.prog Tryd.f48) (mkC (resT Tryd.prog Tryd.f48) (exFn (gT t50) Tryd.f48))
noncomputable def t48 : Tab := (48, c48) :: t50
noncomputable def c49 := preC (argsT Tryd.prog Tryd.f49) (mkC (resT Tryd.prog Tryd.f49) (exFn (gT t48) Tryd.f49))
noncomputable def t49 : Tab := (49, c49) :: t48
noncomputable def c36 := preC (argsT Tryd.prog Tryd.f36) (mkC (resT Tryd.prog Tryd.f36) (exFn (gT t49) Tryd.f36))
noncomputable def t36 : Tab := (36, c36) :: t49
noncomputable def c37 := preC (argsT Tryd.prog Tryd.f37) (mkC (resT Tryd.prog Tryd.f37) (exFn (gT t36) Tryd.f37))
noncomputable def t37 : Tab := (37, c37) :: t36
noncomputable def c38 := preC (argsT Tryd.prog Tryd.f38) (mkC (resT Tryd.prog Tryd.f38) (exFn (gT t37) Tryd.f38))
noncomputable def t38 : Tab := (38, c38) :: t37
noncomputable def c25 := preC (argsT Tryd.prog Tryd.f25) (mkC (resT Tryd.prog Tryd.f25) (exFn (gT t38) Tryd.f25))
noncomputable def t25 : Tab := (25, c25) :: t38
noncomputable def c23 := preC (argsT Tryd.prog Tryd.f23) (mkC (resT Tryd.prog Tryd.f23) (exFn (gT t25) Tryd.f23))
noncomputable def t23 : Tab := (23, c23) :: t25
noncomputable def isTru (x : Option (Bool × AV)) : Bool := match x with | some (true, .bool true) => true | _ => false
theorem of_isTru {x : Option (Bool × AV)} (h : isTru x = true) : x = some (true, .bool true) := by
  unfold isTru at h
  split at h
  · rfl
  · cases h
def TabOk (t : Tab) : Prop := ∀ f c, t.lookup f = some c → KOk (gT t0).toEnv f c
theorem TabOk.cons {t : Tab} (h : TabOk t) {f : Nat} {c} (k : KOk (gT t0).toEnv f c) : TabOk ((f, c) :: t) := by
  intro f' c' e
  rw [List.lookup_cons] at e
  split at e
  · rename_i hh; cases e; rw [beq_iff_eq] at hh; subst hh; exact k
  · exact h _ _ e
/-- The contract of a function, out of its reading. -/
theorem TabOk.read {t : Tab} (h : TabOk t) (hm : Tryd.prog.follows .mixedOrders = true) {f : Nat} {fn : Func} (hf : Tryd.prog.funcs[f]? = some fn) (hn : (fn.name == "runtime.NumGoroutine") = false) (hb : fn.body.isNone = false)
    {C : List AV → Option (Bool × AV)} (hC : ∀ xs r, C xs = some (true, r) → exFn (gT t) fn xs = some (true, r)) : KOk (gT t0).toEnv f C :=
  KOk.cast (E := (gT t).toEnv) (E' := (gT t0).toEnv) (exFn_ok (Γ := gT t) (fn := fn) (fun f c e => (h f c e).cast rfl rfl) (wok_whileN 300) hm hf (fun xs w => enter_of hf hn hb xs w) hC) rfl rfl
theorem TabOk.readW {t : Tab} (h : TabOk t) (hm : Tryd.prog.follows .mixedOrders = true) {f : Nat} {fn : Func} (hf : Tryd.prog.funcs[f]? = some fn) (hn : (fn.name == "runtime.NumGoroutine") = false) (hb : fn.body.isNone = false)
    {C : List AV → Option (Bool × AV)} (hC : ∀ xs r, C xs = some (true, r) → exFn (gN t) fn xs = some (true, r)) : KOk (gT t0).toEnv f C :=
  KOk.cast (E := (gN t).toEnv) (E' := (gT t0).toEnv) (exFn_ok (Γ := gN t) (fn := fn) (fun f c e => (h f c e).cast rfl rfl) wok_whileW hm hf (fun xs w => enter_of hf hn hb xs w) hC) rfl rfl
theorem ok0 : TabOk t0 := fun f c h => by cases h
theorem ok26 (hm : Tryd.prog.follows .mixedOrders = true) : TabOk t26 := (ok0).cons (TabOk.read ok0 hm Tryd.func26 (by decide) (by rfl) (by
  intro xs r h
  match xs, h with
  | [], h => cases h; exact e26
  | _ :: _, h => cases h))
theorem ok27 (hm : Tryd.prog.follows .mixedOrders = true) : TabOk t27 := (ok26 hm).cons (TabOk.read ok0 hm Tryd.func27 (by decide) (by rfl) (by
  intro xs r h
  match xs, h with
  | [], h => cases h; exact e27
  | _ :: _, h => cases h))
theorem ok28 (hm : Tryd.prog.follows .mixedOrders = true) : TabOk t28 := (ok27 hm).cons (TabOk.read ok0 hm Tryd.func28 (by decide) (by rfl) (by
  intro xs r h
  match xs, h with
  | [], h => cases h; exact e28
  | _ :: _, h => cases h))
theorem ok29 (hm : Tryd.prog.follows .mixedOrders = true) : TabOk t29 := (ok28 hm).cons (TabOk.read ok0 hm Tryd.func29 (by decide) (by rfl) (by
  intro xs r h
  match xs, h with
  | [], h => cases h; exact e29
  | _ :: _, h => cases h))
theorem ok13 (hm : Tryd.prog.follows .mixedOrders = true) : TabOk t13 := (ok29 hm).cons (KOk.preC (KOk.mkC ((ok29 hm).read hm Tryd.func13 (by decide) (by rfl) (fun xs r h => h)) _) _)
theorem ok14 (hm : Tryd.prog.follows .mixedOrders = true) : TabOk t14 := (ok13 hm).cons (KOk.preC (KOk.mkC ((ok13 hm).read hm Tryd.func14 (by decide) (by rfl) (fun xs r h => h)) _) _)
theorem ok15 (hm : Tryd.prog.follows .mixedOrders = true) : TabOk t15 := (ok14 hm).cons (KOk.preC (KOk.mkC ((ok14 hm).read hm Tryd.func15 (by decide) (by rfl) (fun xs r h => h)) _) _)
theorem ok16 (hm : Tryd.prog.follows .mixedOrders = true) : TabOk t16 := (ok15 hm).cons (KOk.preC (KOk.mkC ((ok15 hm).read hm Tryd.func16 (by decide) (by rfl) (fun xs r h => h)) _) _)
theorem ok7 (hm : Tryd.prog.follows .mixedOrders = true) : TabOk t7 := (ok16 hm).cons (KOk.preC (KOk.mkC ((ok16 hm).read hm Tryd.func7 (by decide) (by rfl) (fun xs r h => h)) _) _)
theorem ok8 (hm : Tryd.prog.follows .mixedOrders = true) : TabOk t8 := (ok7 hm).cons (KOk.preC (KOk.mkC ((ok7 hm).read hm Tryd.func8 (by decide) (by rfl) (fun xs r h => h)) _) _)
theorem ok9 (hm : Tryd.prog.follows .mixedOrders = true) : TabOk t9 := (ok8 hm).cons (KOk.preC (KOk.mkC ((ok8 hm).read hm Tryd.func9 (by decide) (by rfl) (fun xs r h => h)) _) _)
theorem ok10 (hm : Tryd.prog.follows .mixedOrders = true) : TabOk t10 := (ok9 hm).cons (KOk.preC (KOk.mkC ((ok9 hm).read hm Tryd.func10 (by decide) (by rfl) (fun xs r h => h)) _) _)
theorem ok11 (hm : Tryd.prog.follows .mixedOrders = true) : TabOk t11 := (ok10 hm).cons (KOk.preC (KOk.mkC ((ok10 hm).read hm Tryd.func11 (by decide) (by rfl) (fun xs r h => h)) _) _)
theorem ok12 (hm : Tryd.prog.follows .mixedOrders = true) : TabOk t12 := (ok11 hm).cons (KOk.preC (KOk.mkC ((ok11 hm).read hm Tryd.func12 (by decide) (by rfl) (fun xs r h => h)) _) _)
theorem ok17 (hm : Tryd.prog.follows .mixedOrders = true) : TabOk t17 := (ok12 hm).cons (KOk.preC (KOk.mkC ((ok12 hm).read hm Tryd.func17 (by decide) (by rfl) (fun xs r h => h)) _) _)
theorem ok18 (hm : Tryd.prog.follows .mixedOrders = true) : TabOk t18 := (ok17 hm).cons (KOk.preC (KOk.mkC ((ok17 hm).read hm Tryd.func18 (by decide) (by rfl) (fun xs r h => h)) _) _)
theorem ok19 (hm : Tryd.prog.follows .mixedOrders = true) : TabOk t19 := (ok18 hm).cons (KOk.preC (KOk.mkC ((ok18 hm).read hm Tryd.func19 (by decide) (by rfl) (fun xs r h => h)) _) _)
theorem ok20 (hm : Tryd.prog.follows .mixedOrders = true) : TabOk t20 := (ok19 hm).cons (KOk.preC (KOk.mkC ((ok19 hm).read hm Tryd.func20 (by decide) (by rfl) (fun xs r h => h)) _) _)
theorem ok21 (hm : Tryd.prog.follows .mixedOrders = true) : TabOk t21 := (ok20 hm).cons (KOk.preC (KOk.mkC ((ok20 hm).read hm Tryd.func21 (by decide) (by rfl) (fun xs r h => h)) _) _)
theorem ok22 (hm : Tryd.prog.follows .mixedOrders = true) : TabOk t22 := (ok21 hm).cons (KOk.preC (KOk.mkC ((ok21 hm).read hm Tryd.func22 (by decide) (by rfl) (fun xs r h => h)) _) _)
theorem ok30 (hm : Tryd.prog.follows .mixedOrders = true) : TabOk t30 := (ok22 hm).cons (KOk.preC (KOk.mkC ((ok22 hm).read hm Tryd.func30 (by decide) (by rfl) (fun xs r h => h)) _) _)
theorem ok31 (hm : Tryd.prog.follows .mixedOrders = true) : TabOk t31 := (ok30 hm).cons (KOk.preC (KOk.mkC ((ok30 hm).read hm Tryd.func31 (by decide) (by rfl) (fun xs r h => h)) _) _)
theorem ok32 (hm : Tryd.prog.follows .mixedOrders = true) : TabOk t32 := (ok31 hm).cons (KOk.preC (KOk.mkC ((ok31 hm).read hm Tryd.func32 (by decide) (by rfl) (fun xs r h => h)) _) _)
theorem ok40 (hm : Tryd.prog.follows .mixedOrders = true) : TabOk t40 := (ok32 hm).cons (KOk.preC (KOk.mkC ((ok32 hm).read hm Tryd.func40 (by decide) (by rfl) (fun xs r h => h)) _) _)
theorem ok41 (hm : Tryd.prog.follows .mixedOrders = true) : TabOk t41 := (ok40 hm).cons (KOk.preC (KOk.mkC ((ok40 hm).read hm Tryd.func41 (by decide) (by rfl) (fun xs r h => h)) _) _)
theorem ok42 (hm : Tryd.prog.follows .mixedOrders = true) : TabOk t42 := (ok41 hm).cons (KOk.preC (KOk.mkC ((ok41 hm).read hm Tryd.func42 (by decide) (by rfl) (fun xs r h => h)) _) _)
theorem ok43 (hm : Tryd.prog.follows .mixedOrders = true) : TabOk t43 := (ok42 hm).cons (KOk.preC (KOk.mkC ((ok42 hm).read hm Tryd.func43 (by decide) (by rfl) (fun xs r h => h)) _) _)
theorem ok44 (hm : Tryd.prog.follows .mixedOrders = true) : TabOk t44 := (ok43 hm).cons (KOk.preC (KOk.mkC ((ok43 hm).read hm Tryd.func44 (by decide) (by rfl) (fun xs r h => h)) _) _)
theorem ok45 (hm : Tryd.prog.follows .mixedOrders = true) : TabOk t45 := (ok44 hm).cons (KOk.preC (KOk.mkC ((ok44 hm).read hm Tryd.func45 (by decide) (by rfl) (fun xs r h => h)) _) _)
theorem ok46 (hm : Tryd.prog.follows .mixedOrders = true) : TabOk t46 := (ok45 hm).cons (KOk.preC (KOk.mkC ((ok45 hm).read hm Tryd.func46 (by decide) (by rfl) (fun xs r h => h)) _) _)
theorem ok53 (hm : Tryd.prog.follows .mixedOrders = true) : TabOk t53 := (ok46 hm).cons (KOk.preC (KOk.mkC ((ok46 hm).read hm Tryd.func53 (by decide) (by rfl) (fun xs r h => h)) _) _)
theorem ok47 (hm : Tryd.prog.follows .mixedOrders = true) : TabOk t47 := (ok53 hm).cons (KOk.preC (KOk.mkC ((ok53 hm).read hm Tryd.func47 (by decide) (by rfl) (fun xs r h => h)) _) _)
theorem ok33 (hm : Tryd.prog.follows .mixedOrders = true) : TabOk t33 := (ok47 hm).cons (KOk.preC (KOk.mkC ((ok47 hm).read hm Tryd.func33 (by decide) (by rfl) (fun xs r h => h)) _) _)
theorem ok34 (hm : Tryd.prog.follows .mixedOrders = true) : TabOk t34 := (ok33 hm).cons (KOk.preC (KOk.mkC ((ok33 hm).read hm Tryd.func34 (by decide) (by rfl) (fun xs r h => h)) _) _)
theorem ok35 (hm : Tryd.prog.follows .mixedOrders = true) : TabOk t35 := (ok34 hm).cons (KOk.preC (KOk.mkC ((ok34 hm).read hm Tryd.func35 (by decide) (by rfl) (fun xs r h => h)) _) _)
theorem ok24 (hm : Tryd.prog.follows .mixedOrders = true) : TabOk t24 := (ok35 hm).cons (KOk.preC (KOk.mkC ((ok35 hm).read hm Tryd.func24 (by decide) (by rfl) (fun xs r h => h)) _) _)
theorem ok51 (hm : Tryd.prog.follows .mixedOrders = true) : TabOk t51 := (ok24 hm).cons (KOk.preC (KOk.mkC ((ok24 hm).read hm Tryd.func51 (by decide) (by rfl) (fun xs r h => h)) _) _)
theorem ok52 (hm : Tryd.prog.follows .mixedOrders = true) : TabOk t52 := (ok51 hm).cons (KOk.preC (KOk.mkC ((ok51 hm).read hm Tryd.func52 (by decide) (by rfl) (fun xs r h => h)) _) _)
theorem ok39 (hm : Tryd.prog.follows .mixedOrders = true) : TabOk t39 := (ok52 hm).cons (KOk.preC (KOk.mkC ((ok52 hm).read hm Tryd.func39 (by decide) (by rfl) (fun xs r h => h)) _) _)
theorem ok50 (hm : Tryd.prog.follows .mixedOrders = true) : TabOk t50 := (ok39 hm).cons (KOk.preC (KOk.mkC ((ok39 hm).read hm Tryd.func50 (by decide) (by rfl) (fun xs r h => h)) _) _)
theorem ok48 (hm : Tryd.prog.follows .mixedOrders = true) : TabOk t48 := (ok50 hm).cons (KOk.preC (KOk.mkC ((ok50 hm).read hm Tryd.func48 (by decide) (by rfl) (fun xs r h => h)) _) _)
theorem ok49 (hm : Tryd.prog.follows .mixedOrders = true) : TabOk t49 := (ok48 hm).cons (KOk.preC (KOk.mkC ((ok48 hm).read hm Tryd.func49 (by decide) (by rfl) (fun xs r h => h)) _) _)
theorem ok36 (hm : Tryd.prog.follows .mixedOrders = true) : TabOk t36 := (ok49 hm).cons (KOk.preC (KOk.mkC ((ok49 hm).read hm Tryd.func36 (by decide) (by rfl) (fun xs r h => h)) _) _)
theorem ok37 (hm : Tryd.prog.follows .mixedOrders = true) : TabOk t37 := (ok36 hm).cons (KOk.preC (KOk.mkC ((ok36 hm).read hm Tryd.func37 (by decide) (by rfl) (fun xs r h => h)) _) _)
theorem ok38 (hm : Tryd.prog.follows .mixedOrders = true) : TabOk t38 := (ok37 hm).cons (KOk.preC (KOk.mkC ((ok37 hm).read hm Tryd.func38 (by decide) (by rfl) (fun xs r h => h)) _) _)
theorem ok25 (hm : Tryd.prog.follows .mixedOrders = true) : TabOk t25 := (ok38 hm).cons (KOk.preC (KOk.mkC ((ok38 hm).read hm Tryd.func25 (by decide) (by rfl) (fun xs r h => h)) _) _)
theorem ok23 (hm : Tryd.prog.follows .mixedOrders = true) : TabOk t23 := (ok25 hm).cons (KOk.preC (KOk.mkC ((ok25 hm).read hm Tryd.func23 (by decide) (by rfl) (fun xs r h => h)) _) _)
end Go.Proofs.YtlidfaaajjfgfaaDoor
