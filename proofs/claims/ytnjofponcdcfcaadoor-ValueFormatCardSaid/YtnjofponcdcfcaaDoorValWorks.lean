/- The chapter's examples answer true: the value layer's functions run closed. No conditions. -/
import Derived.Test.YtnjofponcdcfcaaDoorValBase
set_option linter.all false
namespace Go.Proofs.YtnjofponcdcfcaaDoor
open Go Ab
set_option maxRecDepth 100000
noncomputable def z0 : XTab := {}
theorem zk0 : XOk z0 := XOkP.nil
section
variable (hm : Tryd.prog.follows .mixedOrders = true)
noncomputable def z1 : XTab := { z0 with k := (15, exFnC (gX z0) 20 Tryd.f15) :: (28, exFnC (gX z0) 20 Tryd.f28) :: (32, exFnC (gX z0) 20 Tryd.f32) :: (55, exFnC (gX z0) 20 Tryd.f55) :: (58, exFnC (gX z0) 20 Tryd.f58) :: (48, exFnC (gX z0) 20 Tryd.f48) :: (95, exFnC (gX z0) 20 Tryd.f95) :: z0.k }
include hm in
theorem zk1 : XOk z1 := ((((((((zk0).consK ((zk0).readC hm Tryd.func95 (ent Tryd.func95 (by decide) (by rfl)) {} 20 (fun _ _ h => h))).consK ((zk0).readC hm Tryd.func48 (ent Tryd.func48 (by decide) (by rfl)) {} 20 (fun _ _ h => h))).consK ((zk0).readC hm Tryd.func58 (ent Tryd.func58 (by decide) (by rfl)) {} 20 (fun _ _ h => h))).consK ((zk0).readC hm Tryd.func55 (ent Tryd.func55 (by decide) (by rfl)) {} 20 (fun _ _ h => h))).consK ((zk0).readC hm Tryd.func32 (ent Tryd.func32 (by decide) (by rfl)) {} 20 (fun _ _ h => h))).consK ((zk0).readC hm Tryd.func28 (ent Tryd.func28 (by decide) (by rfl)) {} 20 (fun _ _ h => h))).consK ((zk0).readC hm Tryd.func15 (ent Tryd.func15 (by decide) (by rfl)) {} 20 (fun _ _ h => h)))
noncomputable def z2 : XTab := { z1 with k := (67, dataC (exFnCI (gX z1) 20 Tryd.f67)) :: (78, dataC (exFnCI (gX z1) 20 Tryd.f78)) :: z1.k }
include hm in
theorem zk2 : XOk z2 := (((zk1 hm).consK (IOk.data ((zk1 hm).readCI hm Tryd.func78 (ent Tryd.func78 (by decide) (by rfl)) {} 20))).consK (IOk.data ((zk1 hm).readCI hm Tryd.func67 (ent Tryd.func67 (by decide) (by rfl)) {} 20)))
noncomputable def z3 : XTab := { z2 with k := (31, exFnC (gX z2) 20 Tryd.f31) :: (57, exFnC (gX z2) 20 Tryd.f57) :: (59, exFnC (gX z2) 20 Tryd.f59) :: (73, exFnC (gX z2) 20 Tryd.f73) :: (84, exFnC (gX z2) 20 Tryd.f84) :: z2.k }
include hm in
theorem zk3 : XOk z3 := ((((((zk2 hm).consK ((zk2 hm).readC hm Tryd.func84 (ent Tryd.func84 (by decide) (by rfl)) {} 20 (fun _ _ h => h))).consK ((zk2 hm).readC hm Tryd.func73 (ent Tryd.func73 (by decide) (by rfl)) {} 20 (fun _ _ h => h))).consK ((zk2 hm).readC hm Tryd.func59 (ent Tryd.func59 (by decide) (by rfl)) {} 20 (fun _ _ h => h))).consK ((zk2 hm).readC hm Tryd.func57 (ent Tryd.func57 (by decide) (by rfl)) {} 20 (fun _ _ h => h))).consK ((zk2 hm).readC hm Tryd.func31 (ent Tryd.func31 (by decide) (by rfl)) {} 20 (fun _ _ h => h)))
noncomputable def z4 : XTab := { z3 with k := (54, exFnC (gX z3) 20 Tryd.f54) :: (93, exFnC (gX z3) 20 Tryd.f93) :: z3.k }
include hm in
theorem zk4 : XOk z4 := (((zk3 hm).consK ((zk3 hm).readC hm Tryd.func93 (ent Tryd.func93 (by decide) (by rfl)) {} 20 (fun _ _ h => h))).consK ((zk3 hm).readC hm Tryd.func54 (ent Tryd.func54 (by decide) (by rfl)) {} 20 (fun _ _ h => h)))
noncomputable def z5 : XTab := { z4 with i := (92, exFnCI (gX z4) 20 Tryd.f92) :: (35, exFnCI (gX z4) 20 Tryd.f35) :: (30, exFnCI (gX z4) 20 Tryd.f30) :: z4.i }
include hm in
theorem zk5 : XOk z5 := ((((zk4 hm).consI ((zk4 hm).readCI hm Tryd.func30 (ent Tryd.func30 (by decide) (by rfl)) {} 20)).consI ((zk4 hm).readCI hm Tryd.func35 (ent Tryd.func35 (by decide) (by rfl)) {} 20)).consI ((zk4 hm).readCI hm Tryd.func92 (ent Tryd.func92 (by decide) (by rfl)) {} 20))
noncomputable def z6 : XTab := { z5 with k := (25, exFnC (gX z5) 20 Tryd.f25) :: (77, exFnC (gX z5) 20 Tryd.f77) :: z5.k }
include hm in
theorem zk6 : XOk z6 := (((zk5 hm).consK ((zk5 hm).readC hm Tryd.func77 (ent Tryd.func77 (by decide) (by rfl)) {} 20 (fun _ _ h => h))).consK ((zk5 hm).readC hm Tryd.func25 (ent Tryd.func25 (by decide) (by rfl)) {} 20 (fun _ _ h => h)))
noncomputable def z7 : XTab := { z6 with k := (56, exFnC (gX z6) 20 Tryd.f56) :: z6.k }
include hm in
theorem zk7 : XOk z7 := ((zk6 hm).consK ((zk6 hm).readC hm Tryd.func56 (ent Tryd.func56 (by decide) (by rfl)) {} 20 (fun _ _ h => h)))
noncomputable def z8 : XTab := { z7 with k := (70, dataC (exFnCI (gX z7) 20 Tryd.f70)) :: z7.k }
include hm in
theorem zk8 : XOk z8 := ((zk7 hm).consK (IOk.data ((zk7 hm).readCI hm Tryd.func70 (ent Tryd.func70 (by decide) (by rfl)) {} 20)))
noncomputable def z9 : XTab := { z8 with i := (69, exFnCI (gX z8) 20 Tryd.f69) :: z8.i }
include hm in
theorem zk9 : XOk z9 := ((zk8 hm).consI ((zk8 hm).readCI hm Tryd.func69 (ent Tryd.func69 (by decide) (by rfl)) {} 20))
noncomputable def z10 : XTab := { z9 with i := (62, exFnCI (gX z9) 20 Tryd.f62) :: z9.i }
include hm in
theorem zk10 : XOk z10 := ((zk9 hm).consI ((zk9 hm).readCI hm Tryd.func62 (ent Tryd.func62 (by decide) (by rfl)) {} 20))
noncomputable def z11 : XTab := { z10 with k := (44, dataC (exFnCI (gX z10) 20 Tryd.f44)) :: z10.k }
include hm in
theorem zk11 : XOk z11 := ((zk10 hm).consK (IOk.data ((zk10 hm).readCI hm Tryd.func44 (ent Tryd.func44 (by decide) (by rfl)) {} 20)))
noncomputable def z12 : XTab := { z11 with i := (43, exFnCI (gX z11) 20 Tryd.f43) :: z11.i }
include hm in
theorem zk12 : XOk z12 := ((zk11 hm).consI ((zk11 hm).readCI hm Tryd.func43 (ent Tryd.func43 (by decide) (by rfl)) {} 20))
noncomputable def z13 : XTab := { z12 with i := (29, exFnCI (gX z12) 20 Tryd.f29) :: z12.i }
include hm in
theorem zk13 : XOk z13 := ((zk12 hm).consI ((zk12 hm).readCI hm Tryd.func29 (ent Tryd.func29 (by decide) (by rfl)) {} 20))
noncomputable def z14 : XTab := { z13 with k := (9, dataC (exFnCI (gX z13) 20 Tryd.f9)) :: (11, dataC (exFnCI (gX z13) 20 Tryd.f11)) :: (13, dataC (exFnCI (gX z13) 20 Tryd.f13)) :: z13.k }
include hm in
theorem zk14 : XOk z14 := ((((zk13 hm).consK (IOk.data ((zk13 hm).readCI hm Tryd.func13 (ent Tryd.func13 (by decide) (by rfl)) {} 20))).consK (IOk.data ((zk13 hm).readCI hm Tryd.func11 (ent Tryd.func11 (by decide) (by rfl)) {} 20))).consK (IOk.data ((zk13 hm).readCI hm Tryd.func9 (ent Tryd.func9 (by decide) (by rfl)) {} 20)))
noncomputable def z15 : XTab := { z14 with k := (36, exFnC (gX z14) 20 Tryd.f36) :: (72, exFnC (gX z14) 20 Tryd.f72) :: z14.k }
include hm in
theorem zk15 : XOk z15 := (((zk14 hm).consK ((zk14 hm).readC hm Tryd.func72 (ent Tryd.func72 (by decide) (by rfl)) {} 20 (fun _ _ h => h))).consK ((zk14 hm).readC hm Tryd.func36 (ent Tryd.func36 (by decide) (by rfl)) {} 20 (fun _ _ h => h)))
noncomputable def z16 : XTab := { z15 with k := (18, dataC (exFnCI (gX z15) 20 Tryd.f18)) :: z15.k }
include hm in
theorem zk16 : XOk z16 := ((zk15 hm).consK (IOk.data ((zk15 hm).readCI hm Tryd.func18 (ent Tryd.func18 (by decide) (by rfl)) {} 20)))
noncomputable def z17 : XTab := { z16 with k := (71, exFnC (gX z16) 20 Tryd.f71) :: (50, exFnC (gX z16) 20 Tryd.f50) :: z16.k }
include hm in
theorem zk17 : XOk z17 := (((zk16 hm).consK ((zk16 hm).readC hm Tryd.func50 (ent Tryd.func50 (by decide) (by rfl)) {} 20 (fun _ _ h => h))).consK ((zk16 hm).readC hm Tryd.func71 (ent Tryd.func71 (by decide) (by rfl)) {} 20 (fun _ _ h => h)))
noncomputable def z18 : XTab := { z17 with k := (49, exFnC (gX z17) 20 Tryd.f49) :: z17.k }
include hm in
theorem zk18 : XOk z18 := ((zk17 hm).consK ((zk17 hm).readC hm Tryd.func49 (ent Tryd.func49 (by decide) (by rfl)) {} 20 (fun _ _ h => h)))
noncomputable def z19 : XTab := { z18 with k := (21, exFnC (gX z18) 20 Tryd.f21) :: z18.k }
include hm in
theorem zk19 : XOk z19 := ((zk18 hm).consK ((zk18 hm).readC hm Tryd.func21 (ent Tryd.func21 (by decide) (by rfl)) {} 20 (fun _ _ h => h)))
noncomputable def isTru (x : Option (Bool × AV)) : Bool := match x with | some (true, .bool true) => true | _ => false
theorem of_isTru {x : Option (Bool × AV)} (h : isTru x = true) : x = some (true, .bool true) := by
  unfold isTru at h
  split at h
  · rfl
  · cases h
theorem works_says : exFnC (gX z19) 20 Tryd.f17 [] = some (true, .bool true) := of_isTru (by kernel_rfl)
def xm17 : List AV → Option (Bool × AV)
  | [] => some (true, .bool true)
  | _ => none
include hm in
theorem xk17 : KOk E0 17 xm17 := (zk19 hm).readC hm Tryd.func17 (ent Tryd.func17 (by decide) (by rfl)) {} 20 (by
  intro xs r h
  match xs, h with
  | [], h => cases h; exact works_says
  | _ :: _, h => cases h)
end
end Go.Proofs.YtnjofponcdcfcaaDoor
