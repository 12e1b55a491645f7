/- The shapes of instructions, functions and modules. -/
import Derived.Test.YtlidfaaajjfgfaaDoorOpcPred
set_option linter.all false
namespace Go.Proofs.YtlidfaaajjfgfaaDoor
open Go Ab
abbrev i64S : Sh := .int .i64
abbrev insS : Sh := .prod i64S (.prod i64S (.prod i64S (.prod (.sl i64S) (.prod i64S (.prod i64S (.prod i64S (.prod .bool .unit)))))))
abbrev edgS : Sh := .prod i64S (.prod (.sl i64S) .unit)
abbrev terS : Sh := .prod i64S (.prod (.sl i64S) (.prod (.sl i64S) (.prod (.sl edgS) (.prod i64S .unit))))
abbrev blkS : Sh := .prod (.sl i64S) (.prod (.sl insS) (.prod terS .unit))
abbrev funS : Sh := .prod .str (.prod (.sl i64S) (.prod i64S (.prod (.sl i64S) (.prod (.sl blkS) .unit))))
abbrev gloS : Sh := .prod .str (.prod i64S (.prod i64S (.prod (.sl i64S) (.prod .bool .unit))))
abbrev modS : Sh := .prod (.sl gloS) (.prod (.sl funS) .unit)
/-- The arguments of the layer's functions. -/
abbrev insA (op ty dst : Int) (args : List Int) (imm sym elem : Int) (nw : Bool) : AV := .agg [.int .i64 op, .int .i64 ty, .int .i64 dst, .dsl i64S args, .int .i64 imm, .int .i64 sym, .int .i64 elem, .bool nw]
abbrev funA (nm : ByteArray) (ps : List Int) (res : Int) (regs : List Int) (bl : List blkS.den) : AV := .agg [.str nm, .dsl i64S ps, .int .i64 res, .dsl i64S regs, .dsl blkS bl]
abbrev modA (gs : List gloS.den) (fs : List funS.den) : AV := .agg [.dsl gloS gs, .dsl funS fs]
/-- A length that a machine bears. -/
def okLen (n : Nat) : Bool := Nat.ble n 9223372036854775807
def leLen (a b : Nat) : Bool := Nat.ble a b
def castL {e s : Sh} (h : e = s) (x : List e.den) : List s.den := h ▸ x
/-- Arguments of a known form, read back. -/
def asInts : AV → Option (List Int)
  | .dsl e x => if h : e = .int .i64 then some (castL h x) else none
  | _ => none
theorem asInts_eq {a : AV} {l : List Int} (h : asInts a = some l) : a = .dsl i64S l := by
  unfold asInts at h
  split at h
  · split at h
    · rename_i e; subst e; cases h; rfl
    · cases h
  · cases h
def asIns : AV → Option (Int × Int × Int × List Int × Int × Int × Int × Bool)
  | .agg [.int .i64 op, .int .i64 ty, .int .i64 dst, l, .int .i64 imm, .int .i64 sym, .int .i64 elem, .bool nw] => (asInts l).map fun args => (op, ty, dst, args, imm, sym, elem, nw)
  | _ => none
theorem asIns_eq {a : AV} {t : Int × Int × Int × List Int × Int × Int × Int × Bool} (h : asIns a = some t) : a = insA t.1 t.2.1 t.2.2.1 t.2.2.2.1 t.2.2.2.2.1 t.2.2.2.2.2.1 t.2.2.2.2.2.2.1 t.2.2.2.2.2.2.2 := by
  unfold asIns at h
  split at h
  · simp only [Option.map_eq_some_iff] at h
    obtain ⟨args, h1, rfl⟩ := h
    rw [asInts_eq h1]
  · cases h
def asMod : AV → Option (List gloS.den × List funS.den)
  | .agg [.dsl e1 x1, .dsl e2 x2] => if h1 : e1 = gloS then if h2 : e2 = funS then some (castL h1 x1, castL h2 x2) else none else none
  | _ => none
theorem asMod_eq {a : AV} {t : List gloS.den × List funS.den} (h : asMod a = some t) : a = modA t.1 t.2 := by
  unfold asMod at h
  split at h
  · split at h
    · split at h
      · rename_i h1 h2; subst h1; subst h2; cases h; rfl
      · cases h
    · cases h
  · cases h
def asFun : AV → Option (ByteArray × List Int × Int × List Int × List blkS.den)
  | .agg [.str nm, l, .int .i64 res, r, .dsl e x] => (asInts l).bind fun ps => (asInts r).bind fun regs => if h : e = blkS then some (nm, ps, res, regs, castL h x) else none
  | _ => none
theorem asFun_eq {a : AV} {t : ByteArray × List Int × Int × List Int × List blkS.den} (h : asFun a = some t) : a = funA t.1 t.2.1 t.2.2.1 t.2.2.2.1 t.2.2.2.2 := by
  unfold asFun at h
  split at h
  · simp only [Option.bind_eq_some_iff] at h
    obtain ⟨ps, h1, regs, h2, h⟩ := h
    split at h
    · rename_i e; subst e; cases h; rw [asInts_eq h1, asInts_eq h2]; rfl
    · cases h
  · cases h
end Go.Proofs.YtlidfaaajjfgfaaDoor
