/- The natural forms as contracts. No conditions. -/
import Derived.Test.YtlidfaaajjfgfaaDoorOpcNat
set_option linter.all false
namespace Go.Proofs.YtlidfaaajjfgfaaDoor
open Go Ab
def n13 : List AV → Option (Bool × AV)
  | [.int .i64 op] => some (true, .str (nameOf op))
  | _ => none
noncomputable def u13 : Tab := (13, n13) :: t29
theorem uk13 (hm : Tryd.prog.follows .mixedOrders = true) : TabOk u13 := (ok29 hm).cons (TabOk.readW (ok29 hm) hm Tryd.func13 (by decide) (by rfl) (by
  intro xs r h
  unfold n13 at h
  split at h
  · cases h; exact nat13 _
  · cases h))
def n14 : List AV → Option (Bool × AV)
  | [.int .i64 op] => some (true, .str (nameOf op))
  | _ => none
noncomputable def u14 : Tab := (14, n14) :: u13
theorem uk14 (hm : Tryd.prog.follows .mixedOrders = true) : TabOk u14 := (uk13 hm).cons (TabOk.readW (ok29 hm) hm Tryd.func14 (by decide) (by rfl) (by
  intro xs r h
  unfold n14 at h
  split at h
  · cases h; exact nat14 _
  · cases h))
def n15 : List AV → Option (Bool × AV)
  | [.int .i64 t] => some (true, .str (typeName t))
  | _ => none
noncomputable def u15 : Tab := (15, n15) :: u14
theorem uk15 (hm : Tryd.prog.follows .mixedOrders = true) : TabOk u15 := (uk14 hm).cons (TabOk.readW (ok29 hm) hm Tryd.func15 (by decide) (by rfl) (by
  intro xs r h
  unfold n15 at h
  split at h
  · cases h; exact nat15 _
  · cases h))
def n16 : List AV → Option (Bool × AV)
  | [.int .i64 t] => some (true, .str (typeName t))
  | _ => none
noncomputable def u16 : Tab := (16, n16) :: u15
theorem uk16 (hm : Tryd.prog.follows .mixedOrders = true) : TabOk u16 := (uk15 hm).cons (TabOk.readW (ok29 hm) hm Tryd.func16 (by decide) (by rfl) (by
  intro xs r h
  unfold n16 at h
  split at h
  · cases h; exact nat16 _
  · cases h))
def n7 : List AV → Option (Bool × AV)
  | [.str nm] => some (true, .tup [.int .i64 (lookOf nm).1, .bool (lookOf nm).2])
  | _ => none
noncomputable def u7 : Tab := (7, n7) :: u16
theorem uk7 (hm : Tryd.prog.follows .mixedOrders = true) : TabOk u7 := (uk16 hm).cons (TabOk.readW (ok29 hm) hm Tryd.func7 (by decide) (by rfl) (by
  intro xs r h
  unfold n7 at h
  split at h
  · cases h; exact nat7 _
  · cases h))
def n8 : List AV → Option (Bool × AV)
  | [.str nm] => some (true, .tup [.int .i64 (lookOf nm).1, .bool (lookOf nm).2])
  | _ => none
noncomputable def u8 : Tab := (8, n8) :: u7
theorem uk8 (hm : Tryd.prog.follows .mixedOrders = true) : TabOk u8 := (uk7 hm).cons (TabOk.readW (ok29 hm) hm Tryd.func8 (by decide) (by rfl) (by
  intro xs r h
  unfold n8 at h
  split at h
  · cases h; exact nat8 _
  · cases h))
def n9 : List AV → Option (Bool × AV)
  | [.str nm] => some (true, .tup [.int .i64 (typeOf nm).1, .bool (typeOf nm).2])
  | _ => none
noncomputable def u9 : Tab := (9, n9) :: u8
theorem uk9 (hm : Tryd.prog.follows .mixedOrders = true) : TabOk u9 := (uk8 hm).cons (TabOk.readW (ok29 hm) hm Tryd.func9 (by decide) (by rfl) (by
  intro xs r h
  unfold n9 at h
  split at h
  · cases h; exact nat9 _
  · cases h))
def n10 : List AV → Option (Bool × AV)
  | [.str nm] => some (true, .tup [.int .i64 (typeOf nm).1, .bool (typeOf nm).2])
  | _ => none
noncomputable def u10 : Tab := (10, n10) :: u9
theorem uk10 (hm : Tryd.prog.follows .mixedOrders = true) : TabOk u10 := (uk9 hm).cons (TabOk.readW (ok29 hm) hm Tryd.func10 (by decide) (by rfl) (by
  intro xs r h
  unfold n10 at h
  split at h
  · cases h; exact nat10 _
  · cases h))
def n11 : List AV → Option (Bool × AV)
  | [.int .i64 t] => some (true, .tup [.int .i64 (accOf t).1, .int .i64 (accOf t).2])
  | _ => none
noncomputable def u11 : Tab := (11, n11) :: u10
theorem uk11 (hm : Tryd.prog.follows .mixedOrders = true) : TabOk u11 := (uk10 hm).cons (TabOk.readW (ok29 hm) hm Tryd.func11 (by decide) (by rfl) (by
  intro xs r h
  unfold n11 at h
  split at h
  · cases h; exact nat11 _
  · cases h))
def n12 : List AV → Option (Bool × AV)
  | [.int .i64 t] => some (true, .tup [.int .i64 (accOf t).1, .int .i64 (accOf t).2])
  | _ => none
noncomputable def u12 : Tab := (12, n12) :: u11
theorem uk12 (hm : Tryd.prog.follows .mixedOrders = true) : TabOk u12 := (uk11 hm).cons (TabOk.readW (ok29 hm) hm Tryd.func12 (by decide) (by rfl) (by
  intro xs r h
  unfold n12 at h
  split at h
  · cases h; exact nat12 _
  · cases h))
def n17 : List AV → Option (Bool × AV)
  | [.int .i64 op] => some (true, .bool (pureOp op))
  | _ => none
noncomputable def u17 : Tab := (17, n17) :: u12
theorem uk17 (hm : Tryd.prog.follows .mixedOrders = true) : TabOk u17 := (uk12 hm).cons (TabOk.readW (ok29 hm) hm Tryd.func17 (by decide) (by rfl) (by
  intro xs r h
  unfold n17 at h
  split at h
  · cases h; exact nat17 _
  · cases h))
def n18 : List AV → Option (Bool × AV)
  | [.int .i64 op] => some (true, .bool (pureOp op))
  | _ => none
noncomputable def u18 : Tab := (18, n18) :: u17
theorem uk18 (hm : Tryd.prog.follows .mixedOrders = true) : TabOk u18 := (uk17 hm).cons (TabOk.readW (ok29 hm) hm Tryd.func18 (by decide) (by rfl) (by
  intro xs r h
  unfold n18 at h
  split at h
  · cases h; exact nat18 _
  · cases h))
def n21 : List AV → Option (Bool × AV)
  | [.int .i64 op] => some (true, .bool (commOp op))
  | _ => none
noncomputable def u21 : Tab := (21, n21) :: u18
theorem uk21 (hm : Tryd.prog.follows .mixedOrders = true) : TabOk u21 := (uk18 hm).cons (TabOk.readW (ok29 hm) hm Tryd.func21 (by decide) (by rfl) (by
  intro xs r h
  unfold n21 at h
  split at h
  · cases h; exact nat21 _
  · cases h))
def n22 : List AV → Option (Bool × AV)
  | [.int .i64 op] => some (true, .bool (commOp op))
  | _ => none
noncomputable def u22 : Tab := (22, n22) :: u21
theorem uk22 (hm : Tryd.prog.follows .mixedOrders = true) : TabOk u22 := (uk21 hm).cons (TabOk.readW (ok29 hm) hm Tryd.func22 (by decide) (by rfl) (by
  intro xs r h
  unfold n22 at h
  split at h
  · cases h; exact nat22 _
  · cases h))
end Go.Proofs.YtlidfaaajjfgfaaDoor
