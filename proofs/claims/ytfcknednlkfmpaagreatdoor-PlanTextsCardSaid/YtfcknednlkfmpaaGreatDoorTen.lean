/- strconv.Itoa's contract off the shelf, laid at this program; the table that it reads is as the row lists it. Printed by programs for this seat's numbers. Conditions: none. -/
import Derived.Shelf.Strconv.Itoa3
import Derived.Ground.NamesProg
import Derived.Test.YtfcknednlkfmpaaGreatDoorProg
import Derived.Test.YtfcknednlkfmpaaGreatDoorRows
import Derived.Test.YtfcknednlkfmpaaGreatDoorBvm5
set_option maxRecDepth 100000
namespace Go.Proofs
open Go.Shelf
def Tryz.laysItoa_ren : Go.Shelf.Ren := ⟨fun | 171 => 287 | 243 => 321 | 246 => 358 | 283 => 376 | 284 => 377 | 285 => 378 | 286 => 379 | 129 => 356 | 317 => 384 | 318 => 385 | 319 => 386 | 320 => 387 | 337 => 389 | 338 => 390 | n => n, fun | 3 => 3 | 9 => 9 | 2 => 2 | 4 => 4 | 171 => 442 | 0 => 0 | 53 => 309 | 37 => 42 | 5 => 5 | 173 => 444 | 212 => 449 | 51 => 267 | 20 => 20 | 213 => 450 | 46 => 308 | 232 => 451 | 233 => 452 | n => n, fun | 17 => 2 | 18 => 3 | 19 => 4 | n => n⟩
theorem Tryz.laysItoa : Go.Proofs.LaysM.n171 Tryz.prog Tryz.laysItoa_ren := {
  mixed := by kernel_rfl
  f129 := Tryz.func356.trans (congrArg some (by kernel_rfl))
  f171 := Tryz.func287.trans (congrArg some (by kernel_rfl))
  f243 := Tryz.func321.trans (congrArg some (by kernel_rfl))
  f246 := Tryz.func358.trans (congrArg some (by kernel_rfl))
  f283 := Tryz.func376.trans (congrArg some (by kernel_rfl))
  f284 := Tryz.func377.trans (congrArg some (by kernel_rfl))
  f285 := Tryz.func378.trans (congrArg some (by kernel_rfl))
  f286 := Tryz.func379.trans (congrArg some (by kernel_rfl))
  f317 := Tryz.func384.trans (congrArg some (by kernel_rfl))
  f318 := Tryz.func385.trans (congrArg some (by kernel_rfl))
  f319 := Tryz.func386.trans (congrArg some (by kernel_rfl))
  f320 := Tryz.func387.trans (congrArg some (by kernel_rfl))
  f337 := Tryz.func389.trans (congrArg some (by kernel_rfl))
  f338 := Tryz.func390.trans (congrArg some (by kernel_rfl))
  t0 := Tryz.underlying0
  a0 := Tryz.isAgg0
  z0 := Tryz.sizeOf0
  v0 := Tryz.zeroValue0
  t2 := Tryz.underlying2
  a2 := Tryz.isAgg2
  z2 := Tryz.sizeOf2
  v2 := Tryz.zeroValue2
  t3 := Tryz.underlying3
  a3 := Tryz.isAgg3
  z3 := Tryz.sizeOf3
  v3 := Tryz.zeroValue3
  t4 := Tryz.underlying4
  a4 := Tryz.isAgg4
  z4 := Tryz.sizeOf4
  v4 := Tryz.zeroValue4
  t5 := Tryz.underlying5
  a5 := Tryz.isAgg5
  z5 := Tryz.sizeOf5
  v5 := Tryz.zeroValue5
  t9 := Tryz.underlying9
  a9 := Tryz.isAgg9
  z9 := Tryz.sizeOf9
  v9 := Tryz.zeroValue9
  t20 := Tryz.underlying20
  a20 := Tryz.isAgg20
  z20 := Tryz.sizeOf20
  v20 := Tryz.zeroValue20
  t37 := Tryz.underlying42
  a37 := Tryz.isAgg42
  z37 := Tryz.sizeOf42
  v37 := Tryz.zeroValue42
  t46 := Tryz.underlying308
  a46 := Tryz.isAgg308
  z46 := Tryz.sizeOf308
  v46 := Tryz.zeroValue308
  t51 := Tryz.underlying267
  a51 := Tryz.isAgg267
  z51 := Tryz.sizeOf267
  v51 := Tryz.zeroValue267
  t53 := Tryz.underlying309
  a53 := Tryz.isAgg309
  z53 := Tryz.sizeOf309
  v53 := Tryz.zeroValue309
  t171 := Tryz.underlying442
  a171 := Tryz.isAgg442
  z171 := Tryz.sizeOf442
  v171 := Tryz.zeroValue442
  t173 := Tryz.underlying444
  a173 := Tryz.isAgg444
  z173 := Tryz.sizeOf444
  v173 := Tryz.zeroValue444
  t212 := Tryz.underlying449
  a212 := Tryz.isAgg449
  z212 := Tryz.sizeOf449
  v212 := Tryz.zeroValue449
  t213 := Tryz.underlying450
  a213 := Tryz.isAgg450
  z213 := Tryz.sizeOf450
  t232 := Tryz.underlying451
  a232 := Tryz.isAgg451
  z232 := Tryz.sizeOf451
  v232 := Tryz.zeroValue451
  t233 := Tryz.underlying452
  a233 := Tryz.isAgg452
  z233 := Tryz.sizeOf452
  v233 := Tryz.zeroValue452
  g17 := by kernel_rfl
  g18 := by kernel_rfl
  g19 := by kernel_rfl
  i0 := by kernel_rfl
  i2 := by kernel_rfl
  i3 := by kernel_rfl
  i4 := by kernel_rfl
  i5 := by kernel_rfl
  i9 := by kernel_rfl
  i20 := by kernel_rfl
  i37 := by kernel_rfl
  i46 := by kernel_rfl
  i51 := by kernel_rfl
  i53 := by kernel_rfl
  i171 := by kernel_rfl
  i173 := by kernel_rfl
  i212 := by kernel_rfl
  i232 := by kernel_rfl
  i233 := by kernel_rfl
  m17 := by kernel_rfl
  m18 := by kernel_rfl
  m19 := by kernel_rfl }
end Go.Proofs

namespace Go.Proofs.YtfcknednlkfmpaaGreatDoor
open Go.Bvm
theorem ten_C : TenC Tryz.prog 287 := fun n w h0 h1 ht => (Any.strconv_Itoa Tryz.laysItoa n h0 h1 w ht).mono fun e w' h => by
  obtain ⟨e1, k, os, e2⟩ := h
  exact ⟨e1, by rw [e2]; exact Below.grow (Below.drewN (Go.RowKit.Below.refl _ w) k) (Nat.le_refl _) os⟩
theorem ten_named : Tryz.prog.globalNamed "internal/strconv.uint64pow10" = some 2 := by kernel_rfl
theorem ten_ent {G : Nat → Bool} (hG : G 2 = true) : EntOk Tryz.prog G 287 (fun _ => extTen 20 2) := .ten 20 (gl := ⟨"internal/strconv.uint64pow10", 449, none⟩) (by kernel_rfl) ten_named hG (by decide) (enters_call Tryz.func287 (by kernel_rfl) (by kernel_rfl)) ten_C
theorem ten_tab {W : World} (h : laidMet Tryz.prog [("internal/strconv.uint64pow10", Lib.tabData .u64 Lib.pow10Tab)] W) : Lib.TabIs Tryz.prog W "internal/strconv.uint64pow10" .u64 Lib.pow10Tab :=
  Lib.tabIs_of_head (t := 449) (e := 309) (n := 20) ten_named (by kernel_rfl) (by kernel_rfl) (by kernel_rfl) (by kernel_rfl) (by kernel_rfl) h
end Go.Proofs.YtfcknednlkfmpaaGreatDoor
