/- The functions of the opcode layer read as plain functions of data (a chain of readings), and the contract of each. No conditions. -/
import Derived.Test.YtaajbcflmaihgaaDoorAbRun
import Derived.Test.YtaajbcflmaihgaaDoorProg
namespace Go.Proofs.YtaajbcflmaihgaaDoor
open Go Ab
set_option maxRecDepth 100000
set_option linter.all false
/-- The powers of ten, a table of the library's. -/
def pow10L : List Int := [1, 10, 100, 1000, 10000, 100000, 1000000, 10000000, 100000000, 1000000000, 10000000000, 100000000000, 1000000000000, 10000000000000, 100000000000000, 1000000000000000, 10000000000000000, 100000000000000000, 1000000000000000000, 10000000000000000000]
noncomputable def Gw : Nat → Option ((s : Sh) × s.den) := fun g => if g = 1 then some ⟨.arr 5 (.int .i64), [0, 1, 8, 32, 64]⟩ else if g = 0 then some ⟨.arr 20 (.int .u64), pow10L⟩ else none
abbrev Tab := List (FuncId × (List AV → Option (Bool × AV)))
noncomputable def gT (t : Tab) : Fx := { P := Tryd.prog, G := Gw, K := fun f => t.lookup f, res := [], W := fun f x => whileN f 300 x, rounds := 6 }
/-- The same, a loop run as far as it goes. -/
noncomputable def gN (t : Tab) : Fx := { P := Tryd.prog, G := Gw, K := fun f => t.lookup f, res := [], W := whileW, rounds := 6 }
noncomputable def t0 : Tab := []
abbrev rowSh : Sh := .prod .str (.prod (.int .i64) .unit)
def rowsL : List (ByteArray × Int × Unit) := [(⟨#[99, 111, 110, 115, 116]⟩, (0 : Int), ()), (⟨#[112, 111, 105, 115, 111, 110]⟩, (0 : Int), ()), (⟨#[102, 114, 101, 101, 122, 101]⟩, (1 : Int), ()), (⟨#[99, 111, 112, 121]⟩, (1 : Int), ()), (⟨#[97, 100, 100]⟩, (2 : Int), ()), (⟨#[115, 117, 98]⟩, (2 : Int), ()), (⟨#[109, 117, 108]⟩, (2 : Int), ()), (⟨#[97, 110, 100]⟩, (2 : Int), ()), (⟨#[111, 114]⟩, (2 : Int), ()), (⟨#[120, 111, 114]⟩, (2 : Int), ()), (⟨#[115, 104, 108]⟩, (2 : Int), ()), (⟨#[108, 115, 104, 114]⟩, (2 : Int), ()), (⟨#[97, 115, 104, 114]⟩, (2 : Int), ()), (⟨#[115, 100, 105, 118]⟩, (2 : Int), ()), (⟨#[115, 114, 101, 109]⟩, (2 : Int), ()), (⟨#[101, 113]⟩, (2 : Int), ()), (⟨#[110, 101]⟩, (2 : Int), ()), (⟨#[115, 108, 116]⟩, (2 : Int), ()), (⟨#[115, 108, 101]⟩, (2 : Int), ()), (⟨#[117, 108, 116]⟩, (2 : Int), ()), (⟨#[115, 101, 108, 101, 99, 116]⟩, (3 : Int), ()), (⟨#[115, 101, 120, 116]⟩, (1 : Int), ()), (⟨#[122, 101, 120, 116]⟩, (1 : Int), ()), (⟨#[116, 114, 117, 110, 99]⟩, (1 : Int), ()), (⟨#[103, 108, 111, 98, 97, 108]⟩, (0 : Int), ()), (⟨#[97, 108, 108, 111, 99, 97]⟩, (0 : Int), ()), (⟨#[111, 102, 102, 115, 101, 116]⟩, (2 : Int), ()), (⟨#[108, 111, 97, 100]⟩, (1 : Int), ()), (⟨#[115, 116, 111, 114, 101]⟩, (2 : Int), ()), (⟨#[99, 97, 108, 108]⟩, (-1 : Int), ()), (⟨#[111, 117, 116, 112, 117, 116]⟩, (1 : Int), ()), (⟨#[112, 97, 99, 107]⟩, (-1 : Int), ()), (⟨#[108, 97, 110, 101]⟩, (1 : Int), ())]
def opsL : List ByteArray := [⟨#[]⟩, ⟨#[99, 111, 110, 115, 116]⟩, ⟨#[112, 111, 105, 115, 111, 110]⟩, ⟨#[102, 114, 101, 101, 122, 101]⟩, ⟨#[99, 111, 112, 121]⟩, ⟨#[97, 100, 100]⟩, ⟨#[115, 117, 98]⟩, ⟨#[109, 117, 108]⟩, ⟨#[97, 110, 100]⟩, ⟨#[111, 114]⟩, ⟨#[120, 111, 114]⟩, ⟨#[115, 104, 108]⟩, ⟨#[108, 115, 104, 114]⟩, ⟨#[97, 115, 104, 114]⟩, ⟨#[115, 100, 105, 118]⟩, ⟨#[115, 114, 101, 109]⟩, ⟨#[101, 113]⟩, ⟨#[110, 101]⟩, ⟨#[115, 108, 116]⟩, ⟨#[115, 108, 101]⟩, ⟨#[117, 108, 116]⟩, ⟨#[115, 101, 108, 101, 99, 116]⟩, ⟨#[115, 101, 120, 116]⟩, ⟨#[122, 101, 120, 116]⟩, ⟨#[116, 114, 117, 110, 99]⟩, ⟨#[103, 108, 111, 98, 97, 108]⟩, ⟨#[97, 108, 108, 111, 99, 97]⟩, ⟨#[111, 102, 102, 115, 101, 116]⟩, ⟨#[108, 111, 97, 100]⟩, ⟨#[115, 116, 111, 114, 101]⟩, ⟨#[99, 97, 108, 108]⟩, ⟨#[111, 117, 116, 112, 117, 116]⟩, ⟨#[112, 97, 99, 107]⟩, ⟨#[108, 97, 110, 101]⟩]
def typesL : List ByteArray := [⟨#[118, 111, 105, 100]⟩, ⟨#[98, 111, 111, 108]⟩, ⟨#[105, 56]⟩, ⟨#[105, 51, 50]⟩, ⟨#[105, 54, 52]⟩, ⟨#[112, 116, 114]⟩, ⟨#[118, 50]⟩, ⟨#[118, 52]⟩]
theorem e26 : exFn (gT t0) Tryd.f56 [] = some (true, .dsl rowSh rowsL) := by kernel_rfl
def c26 : List AV → Option (Bool × AV)
  | [] => some (true, .dsl rowSh rowsL)
  | _ => none
theorem e27 : exFn (gT t0) Tryd.f58 [] = some (true, .dsl .str opsL) := by kernel_rfl
def c27 : List AV → Option (Bool × AV)
  | [] => some (true, .dsl .str opsL)
  | _ => none
theorem e28 : exFn (gT t0) Tryd.f57 [] = some (true, .dsl .str typesL) := by kernel_rfl
def c28 : List AV → Option (Bool × AV)
  | [] => some (true, .dsl .str typesL)
  | _ => none
theorem e29 : exFn (gT t0) Tryd.f59 [] = some (true, .dsl .str typesL) := by kernel_rfl
def c29 : List AV → Option (Bool × AV)
  | [] => some (true, .dsl .str typesL)
  | _ => none
noncomputable def t26 : Tab := (56, c26) :: t0
noncomputable def t27 : Tab := (58, c27) :: t26
noncomputable def t28 : Tab := (57, c28) :: t27
noncomputable def t29 : Tab := (59, c29) :: t28
noncomputable def isTru (x : Option (Bool × AV)) : Bool := match x with | some (true, .bool true) => true | _ => false
theorem of_isTru {x : Option (Bool × AV)} (h : isTru x = true) : x = some (true, .bool true) := by
  unfold isTru at h
  split at h
  · rfl
  · cases h
def TabOk (t : Tab) : Prop := ∀ f c, t.lookup f = some c → KOk (gT t0).toEnv f c
theorem TabOk.cons {t : Tab} (h : TabOk t) {f : Nat} {c} (k : KOk (gT t0).toEnv f c) : TabOk ((f, c) :: t) := by
  intro f' c' e
  rw [List.lookup_cons] at e
  split at e
  · rename_i hh; cases e; rw [beq_iff_eq] at hh; subst hh; exact k
  · exact h _ _ e
/-- The contract of a function, out of its reading. -/
theorem TabOk.read {t : Tab} (h : TabOk t) (hm : Tryd.prog.follows .mixedOrders = true) {f : Nat} {fn : Func} (hf : Tryd.prog.funcs[f]? = some fn) (hn : (fn.name == "runtime.NumGoroutine") = false) (hb : fn.body.isNone = false)
    {C : List AV → Option (Bool × AV)} (hC : ∀ xs r, C xs = some (true, r) → exFn (gT t) fn xs = some (true, r)) : KOk (gT t0).toEnv f C :=
  KOk.cast (E := (gT t).toEnv) (E' := (gT t0).toEnv) (exFn_ok (Γ := gT t) (fn := fn) (fun f c e => (h f c e).cast rfl rfl) (wok_whileN 300) hm hf (fun xs w => enter_of hf hn hb xs w) hC) rfl rfl
theorem TabOk.readW {t : Tab} (h : TabOk t) (hm : Tryd.prog.follows .mixedOrders = true) {f : Nat} {fn : Func} (hf : Tryd.prog.funcs[f]? = some fn) (hn : (fn.name == "runtime.NumGoroutine") = false) (hb : fn.body.isNone = false)
    {C : List AV → Option (Bool × AV)} (hC : ∀ xs r, C xs = some (true, r) → exFn (gN t) fn xs = some (true, r)) : KOk (gT t0).toEnv f C :=
  KOk.cast (E := (gN t).toEnv) (E' := (gT t0).toEnv) (exFn_ok (Γ := gN t) (fn := fn) (fun f c e => (h f c e).cast rfl rfl) wok_whileW hm hf (fun xs w => enter_of hf hn hb xs w) hC) rfl rfl
theorem ok0 : TabOk t0 := fun f c h => by cases h
theorem ok26 (hm : Tryd.prog.follows .mixedOrders = true) : TabOk t26 := (ok0).cons (TabOk.read ok0 hm Tryd.func56 (by decide) (by rfl) (by
  intro xs r h
  match xs, h with
  | [], h => cases h; exact e26
  | _ :: _, h => cases h))
theorem ok27 (hm : Tryd.prog.follows .mixedOrders = true) : TabOk t27 := (ok26 hm).cons (TabOk.read ok0 hm Tryd.func58 (by decide) (by rfl) (by
  intro xs r h
  match xs, h with
  | [], h => cases h; exact e27
  | _ :: _, h => cases h))
theorem ok28 (hm : Tryd.prog.follows .mixedOrders = true) : TabOk t28 := (ok27 hm).cons (TabOk.read ok0 hm Tryd.func57 (by decide) (by rfl) (by
  intro xs r h
  match xs, h with
  | [], h => cases h; exact e28
  | _ :: _, h => cases h))
theorem ok29 (hm : Tryd.prog.follows .mixedOrders = true) : TabOk t29 := (ok28 hm).cons (TabOk.read ok0 hm Tryd.func59 (by decide) (by rfl) (by
  intro xs r h
  match xs, h with
  | [], h => cases h; exact e29
  | _ :: _, h => cases h))
end Go.Proofs.YtaajbcflmaihgaaDoor
