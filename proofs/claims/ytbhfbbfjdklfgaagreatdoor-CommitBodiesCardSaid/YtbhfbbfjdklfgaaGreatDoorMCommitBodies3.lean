/- The law CommitBodies holds: for every input it returns true, and each argument reads afterwards as it read before. -/
import Derived.Test.YtbhfbbfjdklfgaaGreatDoorMYCommitBodies1
import Derived.Test.YtbhfbbfjdklfgaaGreatDoorMCommitBodies1
import Derived.Test.YtbhfbbfjdklfgaaGreatDoorMCommitBodies2
import Derived.Laws.Cover1
import Derived.Lib.AtoiErrMem
import Derived.Lib.AppendZerosOnto
import Derived.Lib.Overlaps
import Derived.Lib.SliceRun
import Derived.Maps.AppendAt
import Derived.Deep.AppendSrc
import Derived.Laws.CopyRow
import Derived.Laws.MakeOwn
import Derived.Lib.AppendStr
import Derived.Maps.OwnOps
import Derived.Maps.OwnSet
import Derived.Maps.Views
set_option linter.unusedVariables false
set_option linter.unusedSimpArgs false
namespace Go.Proofs.YtbhfbbfjdklfgaaGreatDoor.Q
open Go.RowKit Go.Proofs.YtbhfbbfjdklfgaaGreatDoorW.PrintWords Go.Proofs.YtbhfbbfjdklfgaaGreatDoorW.PrintLast Go.Proofs.YtbhfbbfjdklfgaaGreatDoorW.PrintMore
attribute [local go_sem] max2_int min2_int max_two min_two max_three min_three max_four min_four   -- for this text's walks alone

def commit_Who.f (a0_0 : ByteArray) (a0_1 : ByteArray) (a0_2 : Int) (a0_3 : Int) : Option (ByteArray) := if a0_3 < 0 then (if a0_0.size + 2 ≤ 9223372036854775807 then (if (a0_0 ++ (⟨#[32, 60]⟩ : ByteArray)).size + a0_1.size ≤ 9223372036854775807 then (if ((a0_0 ++ (⟨#[32, 60]⟩ : ByteArray)) ++ a0_1).size + 2 ≤ 9223372036854775807 then ((strconv_Itoa.f a0_2).bind fun t102 => (if (((a0_0 ++ (⟨#[32, 60]⟩ : ByteArray)) ++ a0_1) ++ (⟨#[62, 32]⟩ : ByteArray)).size + t102.size ≤ 9223372036854775807 then (if ((((a0_0 ++ (⟨#[32, 60]⟩ : ByteArray)) ++ a0_1) ++ (⟨#[62, 32]⟩ : ByteArray)) ++ t102).size + 1 ≤ 9223372036854775807 then (if (((((a0_0 ++ (⟨#[32, 60]⟩ : ByteArray)) ++ a0_1) ++ (⟨#[62, 32]⟩ : ByteArray)) ++ t102) ++ (⟨#[32]⟩ : ByteArray)).size + 1 ≤ 9223372036854775807 then ((commit_Who_1.f (wrap64 (Int.tdiv (wrap64 (-a0_3)) 60))).bind fun t103 => (if ((((((a0_0 ++ (⟨#[32, 60]⟩ : ByteArray)) ++ a0_1) ++ (⟨#[62, 32]⟩ : ByteArray)) ++ t102) ++ (⟨#[32]⟩ : ByteArray)) ++ (⟨#[45]⟩ : ByteArray)).size + t103.size ≤ 9223372036854775807 then ((commit_Who_1.f (Int.tmod (wrap64 (-a0_3)) 60)).bind fun t104 => (if (((((((a0_0 ++ (⟨#[32, 60]⟩ : ByteArray)) ++ a0_1) ++ (⟨#[62, 32]⟩ : ByteArray)) ++ t102) ++ (⟨#[32]⟩ : ByteArray)) ++ (⟨#[45]⟩ : ByteArray)) ++ t103).size + t104.size ≤ 9223372036854775807 then (some ((((((((a0_0 ++ (⟨#[32, 60]⟩ : ByteArray)) ++ a0_1) ++ (⟨#[62, 32]⟩ : ByteArray)) ++ t102) ++ (⟨#[32]⟩ : ByteArray)) ++ (⟨#[45]⟩ : ByteArray)) ++ t103) ++ t104)) else (none))) else (none))) else (none)) else (none)) else (none))) else (none)) else (none)) else (none)) else (if a0_0.size + 2 ≤ 9223372036854775807 then (if (a0_0 ++ (⟨#[32, 60]⟩ : ByteArray)).size + a0_1.size ≤ 9223372036854775807 then (if ((a0_0 ++ (⟨#[32, 60]⟩ : ByteArray)) ++ a0_1).size + 2 ≤ 9223372036854775807 then ((strconv_Itoa.f a0_2).bind fun t105 => (if (((a0_0 ++ (⟨#[32, 60]⟩ : ByteArray)) ++ a0_1) ++ (⟨#[62, 32]⟩ : ByteArray)).size + t105.size ≤ 9223372036854775807 then (if ((((a0_0 ++ (⟨#[32, 60]⟩ : ByteArray)) ++ a0_1) ++ (⟨#[62, 32]⟩ : ByteArray)) ++ t105).size + 1 ≤ 9223372036854775807 then (if (((((a0_0 ++ (⟨#[32, 60]⟩ : ByteArray)) ++ a0_1) ++ (⟨#[62, 32]⟩ : ByteArray)) ++ t105) ++ (⟨#[32]⟩ : ByteArray)).size + 1 ≤ 9223372036854775807 then ((commit_Who_1.f (wrap64 (Int.tdiv a0_3 60))).bind fun t106 => (if ((((((a0_0 ++ (⟨#[32, 60]⟩ : ByteArray)) ++ a0_1) ++ (⟨#[62, 32]⟩ : ByteArray)) ++ t105) ++ (⟨#[32]⟩ : ByteArray)) ++ (⟨#[43]⟩ : ByteArray)).size + t106.size ≤ 9223372036854775807 then ((commit_Who_1.f (Int.tmod a0_3 60)).bind fun t107 => (if (((((((a0_0 ++ (⟨#[32, 60]⟩ : ByteArray)) ++ a0_1) ++ (⟨#[62, 32]⟩ : ByteArray)) ++ t105) ++ (⟨#[32]⟩ : ByteArray)) ++ (⟨#[43]⟩ : ByteArray)) ++ t106).size + t107.size ≤ 9223372036854775807 then (some ((((((((a0_0 ++ (⟨#[32, 60]⟩ : ByteArray)) ++ a0_1) ++ (⟨#[62, 32]⟩ : ByteArray)) ++ t105) ++ (⟨#[32]⟩ : ByteArray)) ++ (⟨#[43]⟩ : ByteArray)) ++ t106) ++ t107)) else (none))) else (none))) else (none)) else (none)) else (none))) else (none)) else (none)) else (none))
def commit_Who.T5 : Bool × List (List Nat × List Nat) := (true, [([], []), ([0], [0]), ([1], [1]), ([], []), ([3], [3]), ([2, 4], [2, 4]), ([5], [5]), ([], []), ([7], [7]), ([8], [8]), ([6, 9], [6, 9]), ([10], [10]), ([], []), ([11, 12], [11, 12]), ([], []), ([], []), ([15], [15]), ([14, 16, 9], [14, 16]), ([13, 17], [13, 17]), ([], []), ([], []), ([20], [20]), ([19, 21, 17], [19, 21]), ([18, 22], [18, 22]), ([23, 22, 0, 1, 2, 3, 4, 5, 6, 7, 8, 9, 10, 11, 12, 13, 14, 15, 16, 17, 18, 19, 20, 21, 22, 23], [23])])
def commit_Who.B5 : List Nat := [0, 1, 3, 0, 8, 31, 63, 0, 128, 384, 1023, 2047, 0, 8191, 0, 0, 32768, 115584, 262143, 0, 0, 1048576, 3916672, 8388607, 16777215]
theorem commit_Who.tab5 : rtab .any (opsOf Tryz.f31 5) = commit_Who.T5 := by kernel_rfl
theorem commit_Who.bits5 : waitsOk commit_Who.T5.2 commit_Who.B5 = true := by kernel_rfl
set_option maxHeartbeats 8000000 in
set_option maxRecDepth 100000 in
theorem commit_Who.calls (a0_0 : ByteArray) (a0_1 : ByteArray) (a0_2 : Int) (a0_3 : Int) (r : ByteArray) (w : World) (hgv : GV w) (h : commit_Who.f a0_0 a0_1 a0_2 a0_3 = some r) :
  Calls Tryz.prog 31 #[.agg #[.string a0_0, .string a0_1, .int .i64 a0_2, .int .i64 a0_3]] w fun e w' => e = .returned (.string r) ∧ Below w.heap.size w w' := by
 have hu24 := Tryz.underlying24; have HB := Aside0.mk (Below.refl w.heap.size w); unfold commit_Who.f at h; have H := h; clear h; by_cases c2 : a0_3 < 0
 ·rw [if_pos c2] at H; have c2b0 := decide_eq_true c2; clear c2; by_cases c3 : a0_0.size + 2 ≤ 9223372036854775807; rotate_left
  ·rw [if_neg c3] at H; exact absurd H (by simp)
  rw [if_pos c3] at H; have c3b0 := eq_true c3; have c3b1 := decide_eq_true c3; try have c3b2 := nl_ c3
  by_cases c4 : (a0_0 ++ (⟨#[32, 60]⟩ : ByteArray)).size + a0_1.size ≤ 9223372036854775807; rotate_left
  ·rw [if_neg c4] at H; exact absurd H (by simp)
  rw [if_pos c4] at H; have c4b0 := eq_true c4; have c4b1 := decide_eq_true c4; try have c4b3 : (9223372036854775807 < a0_0.size + 2 + a0_1.size) = False := have h_ := c4; ns_
  try have c4b2 := nl_ c4
  by_cases c5 : ((a0_0 ++ (⟨#[32, 60]⟩ : ByteArray)) ++ a0_1).size + 2 ≤ 9223372036854775807; rotate_left
  ·rw [if_neg c5] at H; exact absurd H (by simp)
  rw [if_pos c5] at H; have c5b0 := eq_true c5; have c5b1 := decide_eq_true c5; try have c5b3 : (9223372036854775807 < a0_0.size + 2 + a0_1.size + 2) = False := have h_ := c5; ns_
  try have c5b2 := nl_ c5
  replace H := Option.bind_eq_some_iff.mp H; obtain ⟨t102, A60, H⟩ := H; have A6 := Aside0.mk A60; clear A60; by_cases c7 : (((a0_0 ++ (⟨#[32, 60]⟩ : ByteArray)) ++ a0_1) ++ (⟨#[62, 32]⟩ : ByteArray)).size + t102.size ≤ 9223372036854775807; rotate_left
  ·rw [if_neg c7] at H; exact absurd H (by simp)
  rw [if_pos c7] at H; have c7b0 := eq_true c7; have c7b1 := decide_eq_true c7; try have c7b3 : (9223372036854775807 < a0_0.size + 2 + a0_1.size + 2 + t102.size) = False := have h_ := c7; ns_
  try have c7b2 := nl_ c7
  by_cases c8 : ((((a0_0 ++ (⟨#[32, 60]⟩ : ByteArray)) ++ a0_1) ++ (⟨#[62, 32]⟩ : ByteArray)) ++ t102).size + 1 ≤ 9223372036854775807; rotate_left
  ·rw [if_neg c8] at H; exact absurd H (by simp)
  rw [if_pos c8] at H; have c8b0 := eq_true c8; have c8b1 := decide_eq_true c8; try have c8b3 : (9223372036854775807 < a0_0.size + 2 + a0_1.size + 2 + t102.size + 1) = False := have h_ := c8; ns_
  try have c8b2 := nl_ c8
  by_cases c9 : (((((a0_0 ++ (⟨#[32, 60]⟩ : ByteArray)) ++ a0_1) ++ (⟨#[62, 32]⟩ : ByteArray)) ++ t102) ++ (⟨#[32]⟩ : ByteArray)).size + 1 ≤ 9223372036854775807; rotate_left
  ·rw [if_neg c9] at H; exact absurd H (by simp)
  rw [if_pos c9] at H; have c9b0 := eq_true c9; have c9b1 := decide_eq_true c9; try have c9b3 : (9223372036854775807 < a0_0.size + 2 + a0_1.size + 2 + t102.size + 1 + 1) = False := have h_ := c9; ns_
  try have c9b2 := nl_ c9
  replace H := Option.bind_eq_some_iff.mp H; obtain ⟨t103, A100, H⟩ := H; have A10 := Aside0.mk A100; clear A100; by_cases c11 : ((((((a0_0 ++ (⟨#[32, 60]⟩ : ByteArray)) ++ a0_1) ++ (⟨#[62, 32]⟩ : ByteArray)) ++ t102) ++ (⟨#[32]⟩ : ByteArray)) ++ (⟨#[45]⟩ : ByteArray)).size + t103.size ≤ 9223372036854775807; rotate_left
  ·rw [if_neg c11] at H; exact absurd H (by simp)
  rw [if_pos c11] at H; have c11b0 := eq_true c11; have c11b1 := decide_eq_true c11; try have c11b3 : (9223372036854775807 < a0_0.size + 2 + a0_1.size + 2 + t102.size + 1 + 1 + t103.size) = False := have h_ := c11; ns_
  try have c11b2 := nl_ c11
  replace H := Option.bind_eq_some_iff.mp H; obtain ⟨t104, A120, H⟩ := H; have A12 := Aside0.mk A120; clear A120; by_cases c13 : (((((((a0_0 ++ (⟨#[32, 60]⟩ : ByteArray)) ++ a0_1) ++ (⟨#[62, 32]⟩ : ByteArray)) ++ t102) ++ (⟨#[32]⟩ : ByteArray)) ++ (⟨#[45]⟩ : ByteArray)) ++ t103).size + t104.size ≤ 9223372036854775807; rotate_left
  ·rw [if_neg c13] at H; exact absurd H (by simp)
  rw [if_pos c13] at H; have c13b0 := eq_true c13; have c13b1 := decide_eq_true c13; try have c13b3 : (9223372036854775807 < a0_0.size + 2 + a0_1.size + 2 + t102.size + 1 + 1 + t103.size + t104.size) = False := have h_ := c13; ns_
  try have c13b2 := nl_ c13
  obtain rfl := Option.some.inj H; go_enter Tryz.func31, Tryz.ntmps31; try go_wp2_with (first | ((with_reducible refine gate_dst (N := 1) rfl ?_); refine be_ (cs := #[.string a0_0, .string a0_1, .int .i64 a0_2, .int .i64 a0_3]) (t := 24) ?_; intro gb101 hg w14 hbox hb; have BK101 := Aside0.mk (hbox); have GW101 := ag_ hg HB; have GE101 := ag_ hg HB; replace HB := ah_ HB hb; clear hb hbox hg)); replace BK101 := Aside0.mk (blk_drew BK101.out); replace HB := Aside0.mk (below_drew1 HB.out); refine start_ (n := 4) (S := fun w' => w'.cell? ⟨gb101, 0, none⟩ = some (.string a0_0) ∧ w'.cell? ⟨gb101, 1, none⟩ = some (.string a0_1) ∧ w'.cell? ⟨gb101, 2, none⟩ = some (.int .i64 a0_2) ∧ w'.cell? ⟨gb101, 3, none⟩ = some (.int .i64 a0_3)) (ds := []) (bs 4 0) (by kernel_rfl) rfl rfl ⟨(blk_cell BK101.out 0).trans rfl, (blk_cell BK101.out 1).trans rfl, (blk_cell BK101.out 2).trans rfl, (blk_cell BK101.out 3).trans rfl⟩ (fun hHeld => ?_); generalize w14.drew = w15 at BK101 HB hHeld ⊢; refine pk_ (i := 0) (N := some 6) (bs 4 1) rfl rfl ?_; refine pk_ (i := 2) (N := some 3) (bs 4 5) rfl rfl ?_; refine tkK4_ (i := 1) (N := some 7) (bs 4 7) rfl rfl hHeld ?_; refine pk_ (i := 3) (N := some 4) (bs 4 15) rfl rfl ?_; refine done_ (by kernel_rfl) ?_; try go_wp2
  replace BK101 := Aside0.mk (blk_drew BK101.out); replace HB := Aside0.mk (below_drew1 HB.out); refine start_ (n := 25) (S := fun w' => w'.cell? ⟨gb101, 0, none⟩ = some (.string a0_0) ∧ w'.cell? ⟨gb101, 1, none⟩ = some (.string a0_1) ∧ w'.cell? ⟨gb101, 2, none⟩ = some (.int .i64 a0_2) ∧ w'.cell? ⟨gb101, 3, none⟩ = some (.int .i64 a0_3)) (ds := []) (bs 25 0) (by kernel_rfl) rfl rfl ⟨(blk_cell BK101.out 0).trans rfl, (blk_cell BK101.out 1).trans rfl, (blk_cell BK101.out 2).trans rfl, (blk_cell BK101.out 3).trans rfl⟩ (fun hHeld => ?_); refine with_tabW commit_Who.tab5 commit_Who.bits5 (fun HT_ HW_ => ?_); generalize w15.drew = w16 at BK101 HB hHeld ⊢; refine pu_ (i := 0) (N := some 12) (bs 25 1) rfl rfl ?_; refine pu_ (i := 3) (N := some 15) (bs 25 9) rfl rfl ?_; refine pu_ (i := 7) (N := some 19) (bs 25 137) rfl rfl ?_; refine pu_ (i := 12) (N := some 24) (bs 25 4233) rfl rfl ?_; refine pu_ (i := 14) (N := some 26) (bs 25 20617) rfl rfl ?_; refine pu_ (i := 15) (N := some 27) (bs 25 53385) rfl rfl ?_; refine pu_ (i := 16) (N := some 28) (bs 25 118921) rfl rfl ?_; refine pu_ (i := 19) (N := some 31) (bs 25 643209) rfl rfl ?_; refine pu_ (i := 20) (N := some 32) (bs 25 1691785) rfl rfl ?_; refine pu_ (i := 21) (N := some 33) (bs 25 3788937) rfl rfl ?_; refine tkW4_ (i := 1) (N := some 13) (bs 25 3788939) rfl rfl hHeld ?_; refine pu_ (i := 2) (N := some 14) (bs 25 3788943) rfl rfl ?_; refine tkW4_ (i := 4) (N := some 16) (bs 25 3788959) rfl rfl hHeld ?_; refine pu_ (i := 5) (N := some 17) (bs 25 3788991) rfl rfl ?_; refine pu_ (i := 6) (N := some 18) (bs 25 3789055) rfl rfl ?_; refine tkW4_ (i := 8) (N := some 20) (bs 25 3789311) rfl rfl hHeld ?_; refine one_ (i := 9) (N := some 21) (bs 25 3789823) rfl rfl (one_of HT_.out (by kernel_rfl)) (by decide) (fun K hK => ?_); refine goes_ Tryz.func91 (by kernel_rfl) rfl #[.int .i64 a0_2] (by rfl) rfl rfl z5_ ?_
  with_reducible refine (strconv_Itoa.calls a0_2 t102 _ ?side1 A6.out).mono ?_
  (case side1 => exact GV.below hgv (hs_))
  rintro e w17 ⟨rfl, hb⟩; refine ⟨_, rfl, ?_⟩; replace BK101 := ab_ BK101 hb; replace HB := Aside0.mk (below_step (hs_) hb); (try clear hb)
  (try clear hb2)
  (try clear hk)
  (try clear hi)
  refine hK.out _ _ ⟨(blk_cell BK101.out 0).trans rfl, (blk_cell BK101.out 1).trans rfl, (blk_cell BK101.out 2).trans rfl, (blk_cell BK101.out 3).trans rfl⟩ (fun hHeld => ?_); clear hK K; refine norm_ (a' := ?_) ?_ ?_; rotate_left
  ·show Act.put _ (some 21) _ = _
   simp only [Act.put, List.setIfInBounds_toArray, List.set_cons_zero, List.set_cons_succ, i64_w, i32_w]; rfl
  refine pu_ (i := 10) (N := some 22) (bs 25 3790847) rfl rfl ?_; refine pu_ (i := 11) (N := some 23) (bs 25 3792895) rfl rfl ?_; refine pu_ (i := 13) (N := some 25) (bs 25 3801087) rfl rfl ?_; refine one_ (i := 17) (N := some 29) (bs 25 3932159) rfl rfl (one_of HT_.out (by kernel_rfl)) (by decide) (fun K hK => ?_); refine goesT_ Tryz.func90 (by kernel_rfl) rfl #[.int .i64 (wrap64 (Int.tdiv (wrap64 (-a0_3)) 60))] (by rfl) rfl rfl rfl z8_ ?_
  with_reducible refine (commit_Who_1.calls (wrap64 (Int.tdiv (wrap64 (-a0_3)) 60))  t103 _ ?side1 A10.out).mono ?_
  (case side1 => exact GV.below hgv (hs_))
  rintro e w18 ⟨rfl, hb⟩; refine ⟨_, rfl, ?_⟩; replace BK101 := ab_ BK101 hb; replace HB := Aside0.mk (below_step (hs_) hb); (try clear hb)
  (try clear hb2)
  (try clear hk)
  (try clear hi)
  refine hK.out _ _ ⟨(blk_cell BK101.out 0).trans rfl, (blk_cell BK101.out 1).trans rfl, (blk_cell BK101.out 2).trans rfl, (blk_cell BK101.out 3).trans rfl⟩ (fun hHeld => ?_); clear hK K; refine norm_ (a' := ?_) ?_ ?_; rotate_left
  ·show Act.put _ (some 29) _ = _
   simp only [Act.put, List.setIfInBounds_toArray, List.set_cons_zero, List.set_cons_succ, i64_w, i32_w]; rfl
  refine pu_ (i := 18) (N := some 30) (bs 25 4194303) rfl rfl ?_; refine one_ (i := 22) (N := some 34) (bs 25 8388607) rfl rfl (one_of HT_.out (by kernel_rfl)) (by decide) (fun K hK => ?_); refine goesT_ Tryz.func90 (by kernel_rfl) rfl #[.int .i64 (Int.tmod (wrap64 (-a0_3)) 60)] (by rfl) rfl rfl rfl z8_ ?_
  with_reducible refine (commit_Who_1.calls (Int.tmod (wrap64 (-a0_3)) 60)  t104 _ ?side1 A12.out).mono ?_
  (case side1 => exact GV.below hgv (hs_))
  rintro e w19 ⟨rfl, hb⟩; refine ⟨_, rfl, ?_⟩; replace BK101 := ab_ BK101 hb; replace HB := Aside0.mk (below_step (hs_) hb); (try clear hb)
  (try clear hb2)
  (try clear hk)
  (try clear hi)
  refine hK.out _ _ ⟨(blk_cell BK101.out 0).trans rfl, (blk_cell BK101.out 1).trans rfl, (blk_cell BK101.out 2).trans rfl, (blk_cell BK101.out 3).trans rfl⟩ (fun hHeld => ?_); clear hK K; refine norm_ (a' := ?_) ?_ ?_; rotate_left
  ·show Act.put _ (some 34) _ = _
   simp only [Act.put, List.setIfInBounds_toArray, List.set_cons_zero, List.set_cons_succ, i64_w, i32_w]; rfl
  refine pu_ (i := 23) (N := some 35) (bs 25 16777215) rfl rfl ?_; refine pu_ (i := 24) (N := some 2) (bs 25 33554431) rfl rfl ?_; refine done_ (done_of HT_.out (by kernel_rfl)) ?_; try go_wp2
  go_ret
  exact ⟨z3_, hs_⟩
 rw [if_neg c2] at H; have c2b0 := decide_eq_false c2; clear c2; by_cases c20 : a0_0.size + 2 ≤ 9223372036854775807; rotate_left
 ·rw [if_neg c20] at H; exact absurd H (by simp)
 rw [if_pos c20] at H; have c20b0 := eq_true c20; have c20b1 := decide_eq_true c20; try have c20b2 := nl_ c20
 by_cases c21 : (a0_0 ++ (⟨#[32, 60]⟩ : ByteArray)).size + a0_1.size ≤ 9223372036854775807; rotate_left
 ·rw [if_neg c21] at H; exact absurd H (by simp)
 rw [if_pos c21] at H; have c21b0 := eq_true c21; have c21b1 := decide_eq_true c21; try have c21b3 : (9223372036854775807 < a0_0.size + 2 + a0_1.size) = False := have h_ := c21; ns_
 try have c21b2 := nl_ c21
 by_cases c22 : ((a0_0 ++ (⟨#[32, 60]⟩ : ByteArray)) ++ a0_1).size + 2 ≤ 9223372036854775807; rotate_left
 ·rw [if_neg c22] at H; exact absurd H (by simp)
 rw [if_pos c22] at H; have c22b0 := eq_true c22; have c22b1 := decide_eq_true c22; try have c22b3 : (9223372036854775807 < a0_0.size + 2 + a0_1.size + 2) = False := have h_ := c22; ns_
 try have c22b2 := nl_ c22
 replace H := Option.bind_eq_some_iff.mp H; obtain ⟨t105, A230, H⟩ := H; have A23 := Aside0.mk A230; clear A230; by_cases c24 : (((a0_0 ++ (⟨#[32, 60]⟩ : ByteArray)) ++ a0_1) ++ (⟨#[62, 32]⟩ : ByteArray)).size + t105.size ≤ 9223372036854775807; rotate_left
 ·rw [if_neg c24] at H; exact absurd H (by simp)
 rw [if_pos c24] at H; have c24b0 := eq_true c24; have c24b1 := decide_eq_true c24; try have c24b3 : (9223372036854775807 < a0_0.size + 2 + a0_1.size + 2 + t105.size) = False := have h_ := c24; ns_
 try have c24b2 := nl_ c24
 by_cases c25 : ((((a0_0 ++ (⟨#[32, 60]⟩ : ByteArray)) ++ a0_1) ++ (⟨#[62, 32]⟩ : ByteArray)) ++ t105).size + 1 ≤ 9223372036854775807; rotate_left
 ·rw [if_neg c25] at H; exact absurd H (by simp)
 rw [if_pos c25] at H; have c25b0 := eq_true c25; have c25b1 := decide_eq_true c25; try have c25b3 : (9223372036854775807 < a0_0.size + 2 + a0_1.size + 2 + t105.size + 1) = False := have h_ := c25; ns_
 try have c25b2 := nl_ c25
 by_cases c26 : (((((a0_0 ++ (⟨#[32, 60]⟩ : ByteArray)) ++ a0_1) ++ (⟨#[62, 32]⟩ : ByteArray)) ++ t105) ++ (⟨#[32]⟩ : ByteArray)).size + 1 ≤ 9223372036854775807; rotate_left
 ·rw [if_neg c26] at H; exact absurd H (by simp)
 rw [if_pos c26] at H; have c26b0 := eq_true c26; have c26b1 := decide_eq_true c26; try have c26b3 : (9223372036854775807 < a0_0.size + 2 + a0_1.size + 2 + t105.size + 1 + 1) = False := have h_ := c26; ns_
 try have c26b2 := nl_ c26
 replace H := Option.bind_eq_some_iff.mp H; obtain ⟨t106, A270, H⟩ := H; have A27 := Aside0.mk A270; clear A270; by_cases c28 : ((((((a0_0 ++ (⟨#[32, 60]⟩ : ByteArray)) ++ a0_1) ++ (⟨#[62, 32]⟩ : ByteArray)) ++ t105) ++ (⟨#[32]⟩ : ByteArray)) ++ (⟨#[43]⟩ : ByteArray)).size + t106.size ≤ 9223372036854775807; rotate_left
 ·rw [if_neg c28] at H; exact absurd H (by simp)
 rw [if_pos c28] at H; have c28b0 := eq_true c28; have c28b1 := decide_eq_true c28; try have c28b3 : (9223372036854775807 < a0_0.size + 2 + a0_1.size + 2 + t105.size + 1 + 1 + t106.size) = False := have h_ := c28; ns_
 try have c28b2 := nl_ c28
 replace H := Option.bind_eq_some_iff.mp H; obtain ⟨t107, A290, H⟩ := H; have A29 := Aside0.mk A290; clear A290; by_cases c30 : (((((((a0_0 ++ (⟨#[32, 60]⟩ : ByteArray)) ++ a0_1) ++ (⟨#[62, 32]⟩ : ByteArray)) ++ t105) ++ (⟨#[32]⟩ : ByteArray)) ++ (⟨#[43]⟩ : ByteArray)) ++ t106).size + t107.size ≤ 9223372036854775807; rotate_left
 ·rw [if_neg c30] at H; exact absurd H (by simp)
 rw [if_pos c30] at H; have c30b0 := eq_true c30; have c30b1 := decide_eq_true c30; try have c30b3 : (9223372036854775807 < a0_0.size + 2 + a0_1.size + 2 + t105.size + 1 + 1 + t106.size + t107.size) = False := have h_ := c30; ns_
 try have c30b2 := nl_ c30
 obtain rfl := Option.some.inj H; go_enter Tryz.func31, Tryz.ntmps31; try go_wp2_with (first | ((with_reducible refine gate_dst (N := 1) rfl ?_); refine be_ (cs := #[.string a0_0, .string a0_1, .int .i64 a0_2, .int .i64 a0_3]) (t := 24) ?_; intro gb101 hg w31 hbox hb; have BK101 := Aside0.mk (hbox); have GW101 := ag_ hg HB; have GE101 := ag_ hg HB; replace HB := ah_ HB hb; clear hb hbox hg)); replace BK101 := Aside0.mk (blk_drew BK101.out); replace HB := Aside0.mk (below_drew1 HB.out); refine start_ (n := 4) (S := fun w' => w'.cell? ⟨gb101, 0, none⟩ = some (.string a0_0) ∧ w'.cell? ⟨gb101, 1, none⟩ = some (.string a0_1) ∧ w'.cell? ⟨gb101, 2, none⟩ = some (.int .i64 a0_2) ∧ w'.cell? ⟨gb101, 3, none⟩ = some (.int .i64 a0_3)) (ds := []) (bs 4 0) (by kernel_rfl) rfl rfl ⟨(blk_cell BK101.out 0).trans rfl, (blk_cell BK101.out 1).trans rfl, (blk_cell BK101.out 2).trans rfl, (blk_cell BK101.out 3).trans rfl⟩ (fun hHeld => ?_); generalize w31.drew = w32 at BK101 HB hHeld ⊢; refine pk_ (i := 0) (N := some 6) (bs 4 1) rfl rfl ?_; refine pk_ (i := 2) (N := some 3) (bs 4 5) rfl rfl ?_; refine tkK4_ (i := 1) (N := some 7) (bs 4 7) rfl rfl hHeld ?_; refine pk_ (i := 3) (N := some 4) (bs 4 15) rfl rfl ?_; refine done_ (by kernel_rfl) ?_; try go_wp2
 replace BK101 := Aside0.mk (blk_drew BK101.out); replace HB := Aside0.mk (below_drew1 HB.out); refine start_ (n := 25) (S := fun w' => w'.cell? ⟨gb101, 0, none⟩ = some (.string a0_0) ∧ w'.cell? ⟨gb101, 1, none⟩ = some (.string a0_1) ∧ w'.cell? ⟨gb101, 2, none⟩ = some (.int .i64 a0_2) ∧ w'.cell? ⟨gb101, 3, none⟩ = some (.int .i64 a0_3)) (ds := []) (bs 25 0) (by kernel_rfl) rfl rfl ⟨(blk_cell BK101.out 0).trans rfl, (blk_cell BK101.out 1).trans rfl, (blk_cell BK101.out 2).trans rfl, (blk_cell BK101.out 3).trans rfl⟩ (fun hHeld => ?_); refine with_tabW commit_Who.tab5 commit_Who.bits5 (fun HT_ HW_ => ?_); generalize w32.drew = w33 at BK101 HB hHeld ⊢; refine pu_ (i := 0) (N := some 12) (bs 25 1) rfl rfl ?_; refine pu_ (i := 3) (N := some 15) (bs 25 9) rfl rfl ?_; refine pu_ (i := 7) (N := some 19) (bs 25 137) rfl rfl ?_; refine pu_ (i := 12) (N := some 24) (bs 25 4233) rfl rfl ?_; refine pu_ (i := 14) (N := some 26) (bs 25 20617) rfl rfl ?_; refine pu_ (i := 15) (N := some 27) (bs 25 53385) rfl rfl ?_; refine pu_ (i := 16) (N := some 28) (bs 25 118921) rfl rfl ?_; refine pu_ (i := 19) (N := some 31) (bs 25 643209) rfl rfl ?_; refine pu_ (i := 20) (N := some 32) (bs 25 1691785) rfl rfl ?_; refine pu_ (i := 21) (N := some 33) (bs 25 3788937) rfl rfl ?_; refine tkW4_ (i := 1) (N := some 13) (bs 25 3788939) rfl rfl hHeld ?_; refine pu_ (i := 2) (N := some 14) (bs 25 3788943) rfl rfl ?_; refine tkW4_ (i := 4) (N := some 16) (bs 25 3788959) rfl rfl hHeld ?_; refine pu_ (i := 5) (N := some 17) (bs 25 3788991) rfl rfl ?_; refine pu_ (i := 6) (N := some 18) (bs 25 3789055) rfl rfl ?_; refine tkW4_ (i := 8) (N := some 20) (bs 25 3789311) rfl rfl hHeld ?_; refine one_ (i := 9) (N := some 21) (bs 25 3789823) rfl rfl (one_of HT_.out (by kernel_rfl)) (by decide) (fun K hK => ?_); refine goes_ Tryz.func91 (by kernel_rfl) rfl #[.int .i64 a0_2] (by rfl) rfl rfl z5_ ?_
 with_reducible refine (strconv_Itoa.calls a0_2 t105 _ ?side1 A23.out).mono ?_
 (case side1 => exact GV.below hgv (hs_))
 rintro e w34 ⟨rfl, hb⟩; refine ⟨_, rfl, ?_⟩; replace BK101 := ab_ BK101 hb; replace HB := Aside0.mk (below_step (hs_) hb); (try clear hb)
 (try clear hb2)
 (try clear hk)
 (try clear hi)
 refine hK.out _ _ ⟨(blk_cell BK101.out 0).trans rfl, (blk_cell BK101.out 1).trans rfl, (blk_cell BK101.out 2).trans rfl, (blk_cell BK101.out 3).trans rfl⟩ (fun hHeld => ?_); clear hK K; refine norm_ (a' := ?_) ?_ ?_; rotate_left
 ·show Act.put _ (some 21) _ = _
  simp only [Act.put, List.setIfInBounds_toArray, List.set_cons_zero, List.set_cons_succ, i64_w, i32_w]; rfl
 refine pu_ (i := 10) (N := some 22) (bs 25 3790847) rfl rfl ?_; refine pu_ (i := 11) (N := some 23) (bs 25 3792895) rfl rfl ?_; refine pu_ (i := 13) (N := some 25) (bs 25 3801087) rfl rfl ?_; refine one_ (i := 17) (N := some 29) (bs 25 3932159) rfl rfl (one_of HT_.out (by kernel_rfl)) (by decide) (fun K hK => ?_); refine goesT_ Tryz.func90 (by kernel_rfl) rfl #[.int .i64 (wrap64 (Int.tdiv a0_3 60))] (by rfl) rfl rfl rfl z8_ ?_
 with_reducible refine (commit_Who_1.calls (wrap64 (Int.tdiv a0_3 60))  t106 _ ?side1 A27.out).mono ?_
 (case side1 => exact GV.below hgv (hs_))
 rintro e w35 ⟨rfl, hb⟩; refine ⟨_, rfl, ?_⟩; replace BK101 := ab_ BK101 hb; replace HB := Aside0.mk (below_step (hs_) hb); (try clear hb)
 (try clear hb2)
 (try clear hk)
 (try clear hi)
 refine hK.out _ _ ⟨(blk_cell BK101.out 0).trans rfl, (blk_cell BK101.out 1).trans rfl, (blk_cell BK101.out 2).trans rfl, (blk_cell BK101.out 3).trans rfl⟩ (fun hHeld => ?_); clear hK K; refine norm_ (a' := ?_) ?_ ?_; rotate_left
 ·show Act.put _ (some 29) _ = _
  simp only [Act.put, List.setIfInBounds_toArray, List.set_cons_zero, List.set_cons_succ, i64_w, i32_w]; rfl
 refine pu_ (i := 18) (N := some 30) (bs 25 4194303) rfl rfl ?_; refine one_ (i := 22) (N := some 34) (bs 25 8388607) rfl rfl (one_of HT_.out (by kernel_rfl)) (by decide) (fun K hK => ?_); refine goesT_ Tryz.func90 (by kernel_rfl) rfl #[.int .i64 (Int.tmod a0_3 60)] (by rfl) rfl rfl rfl z8_ ?_
 with_reducible refine (commit_Who_1.calls (Int.tmod a0_3 60)  t107 _ ?side1 A29.out).mono ?_
 (case side1 => exact GV.below hgv (hs_))
 rintro e w36 ⟨rfl, hb⟩; refine ⟨_, rfl, ?_⟩; replace BK101 := ab_ BK101 hb; replace HB := Aside0.mk (below_step (hs_) hb); (try clear hb)
 (try clear hb2)
 (try clear hk)
 (try clear hi)
 refine hK.out _ _ ⟨(blk_cell BK101.out 0).trans rfl, (blk_cell BK101.out 1).trans rfl, (blk_cell BK101.out 2).trans rfl, (blk_cell BK101.out 3).trans rfl⟩ (fun hHeld => ?_); clear hK K; refine norm_ (a' := ?_) ?_ ?_; rotate_left
 ·show Act.put _ (some 34) _ = _
  simp only [Act.put, List.setIfInBounds_toArray, List.set_cons_zero, List.set_cons_succ, i64_w, i32_w]; rfl
 refine pu_ (i := 23) (N := some 35) (bs 25 16777215) rfl rfl ?_; refine pu_ (i := 24) (N := some 2) (bs 25 33554431) rfl rfl ?_; refine done_ (done_of HT_.out (by kernel_rfl)) ?_; try go_wp2
 go_ret
 exact ⟨z3_, hs_⟩


def slices_IndexFunc_string_string.l0 : Nat → List ByteArray → (ByteArray → Option (Bool)) → Int → Int → Option (Int)
 | 0, _, _, _, _ => none
 | k + 1, x0, x1, x7, x8 => if x8 < x7 then (if 0 ≤ x8 then (if x8 < (x0.length : Int) then ((x1 (rdOf ByteArray.empty x0 x8)).bind fun t188 => (if t188 = true then (some x8) else (slices_IndexFunc_string_string.l0 k x0 x1 x7 (wrap64 (x8 + 1))))) else (none)) else (none)) else (some (-1))
def slices_IndexFunc_string_string.f (k : Nat) (l0 : List ByteArray) (a1 : (ByteArray → Option (Bool))) : Option (Int) := slices_IndexFunc_string_string.l0 k l0 a1 (l0.length : Int) 0
theorem slices_IndexFunc_string_string.mono_l : ∀ k, (∀ y0 y1 y2 y3, LeO (slices_IndexFunc_string_string.l0 k y0 y1 y2 y3) (slices_IndexFunc_string_string.l0 (k + 1) y0 y1 y2 y3))
 | 0 => fun _ _ _ _ r h => by simp [slices_IndexFunc_string_string.l0] at h
 | k + 1 => by
  have ih0 := slices_IndexFunc_string_string.mono_l k
  ·intro y0 y1 y2 y3
   unfold slices_IndexFunc_string_string.l0
   have m0_ := @ih0
   exact mz_
theorem slices_IndexFunc_string_string.mono : ∀ a0 a1 k, LeO (slices_IndexFunc_string_string.f k a0 a1) (slices_IndexFunc_string_string.f (k + 1) a0 a1) := by
 intro a0 a1 k; have ih0 := slices_IndexFunc_string_string.mono_l k; unfold slices_IndexFunc_string_string.f; have m0_ := @ih0; exact mz_
set_option maxHeartbeats 8000000 in
set_option maxRecDepth 100000 in
theorem slices_IndexFunc_string_string.calls (k : Nat) (A0 : Option Addr) (c0 : Nat) (l0 : List ByteArray) (G1_ : Nat) (B1_ : Array Value) (a1 : (ByteArray → Option (Bool))) (r : Int) (w : World) (hr0 : Kd.C Kd.string w A0 l0.length l0) (hc0 : l0.length ≤ c0) (eg1_ : ∀ args w, (callFunc G1_ args).run Tryz.prog w = .ok (.enter G1_ args) w) (hq1_ : ∀ (z0 : ByteArray) (zr0 : Bool) (W_ : World), Below w.heap.size w W_ → a1 z0 = some zr0 → Calls Tryz.prog G1_ (#[.string z0] ++ B1_) W_ fun e w' => e = .returned (.bool zr0) ∧ Below W_.heap.size W_ w') (h : slices_IndexFunc_string_string.f k l0 a1 = some r) :
  Calls Tryz.prog 138 #[.slice A0 l0.length c0, .func (.func G1_) #[] B1_] w fun e w' => e = .returned (.int .i64 r) ∧ Below w.heap.size w w' := by
 have HR0 := Aside0.mk hr0; have HC0 := Aside0.mk hc0; clear hr0 hc0; have HB := Aside0.mk (Below.refl w.heap.size w); unfold slices_IndexFunc_string_string.f at h; have H := h; clear h; have H' := Aside0.mk H; clear H; go_enter Tryz.func138, Tryz.ntmps138; go_wp2
 go_loopg [8] k (fun kq v8 w' => ∃ (x8_1 : Int), v8 = .int .i64 x8_1 ∧ Aside0 (slices_IndexFunc_string_string.l0 kq l0 a1 (l0.length : Int) x8_1 = some r) ∧ Aside0 (kq ≤ k) ∧ Aside0 (Below w.heap.size w w'))
 case atStart => exact ⟨(0), z1_, H', ⟨Nat.le_refl _⟩, ⟨hb_ HB.out⟩⟩
 case round =>
  clear H'; try clear c1
  try clear p2
  obtain ⟨x8_1, rfl, HA, HK1, HB⟩ := hrel
  cases gk with
  | zero => exact absurd HA.out (by simp [slices_IndexFunc_string_string.l0])
  | succ k1 =>
   have H := HA.out; clear HA; simp only [slices_IndexFunc_string_string.l0] at H; by_cases c3 : x8_1 < (l0.length : Int); rotate_left
   ·rw [if_neg c3] at H; have c3b0 := decide_eq_false c3; clear c3; obtain rfl := Option.some.inj H; go_wp2
    go_ret
    exact ⟨z3_, hb_ HB.out⟩
   rw [if_pos c3] at H; have c3b0 := decide_eq_true c3; clear c3; by_cases c4 : 0 ≤ x8_1; rotate_left
   ·rw [if_neg c4] at H; exact absurd H (by simp)
   rw [if_pos c4] at H; have c4b0 := decide_eq_true c4; clear c4; by_cases c5 : x8_1 < (l0.length : Int); rotate_left
   ·rw [if_neg c5] at H; exact absurd H (by simp)
   rw [if_pos c5] at H; have c5b0 := decide_eq_true c5; clear c5; replace H := Option.bind_eq_some_iff.mp H; obtain ⟨t188, A60, H⟩ := H; have A6 := Aside0.mk A60; clear A60; by_cases c7 : t188 = true
   ·subst c7; rw [if_pos rfl] at H; obtain rfl := Option.some.inj H; have p187 : 0 ≤ (x8_1 : Int) := of_decide_eq_true z0_; have q187 : x8_1 < (l0.length : Int) := of_decide_eq_true z0_; obtain ⟨ad187, e187, hx187_0⟩ := Kd.at_string HR0.out x8_1 p187 q187
    cases e187
    replace hx187_0 := (HB.out.cell (World.block_lt_of_cell? w _ hx187_0)).trans hx187_0; replace p187 := eq_true p187; replace q187 := eq_true q187; go_wp2_with (first | (refine goesF_ (some 16) rfl rfl (g := G1_) (lb := B1_) eg1_ #[.string (rdOf ByteArray.empty l0 x8_1)] rfl rfl z8_ (#[.string (rdOf ByteArray.empty l0 x8_1)] ++ B1_) (by first | rfl | simp) ?_; (refine (hq1_ (rdOf ByteArray.empty l0 x8_1) true _  ?side1 A6.out).mono ?_); (case side1 => repeat (first | (with_reducible first | exact HB.out | apply below_alloc | apply pw_below_drewN | apply below_drew1) | exact HB.out)); rintro e w8 ⟨rfl, hb⟩; refine ⟨_, rfl, ?_⟩; replace HB := ah_ HB hb; (try clear hb); (try clear hb2); (try clear hk); (try clear hi)))
    go_ret
    exact ⟨z3_, hb_ HB.out⟩
   replace c7 := Bool.eq_false_iff.mpr c7; subst c7; rw [if_neg nft_] at H; have H' := Aside0.mk H; clear H; have p187 : 0 ≤ (x8_1 : Int) := of_decide_eq_true z0_; have q187 : x8_1 < (l0.length : Int) := of_decide_eq_true z0_; obtain ⟨ad187, e187, hx187_0⟩ := Kd.at_string HR0.out x8_1 p187 q187
   cases e187
   replace hx187_0 := (HB.out.cell (World.block_lt_of_cell? w _ hx187_0)).trans hx187_0; replace p187 := eq_true p187; replace q187 := eq_true q187; go_wp2_with (first | (refine goesF_ (some 16) rfl rfl (g := G1_) (lb := B1_) eg1_ #[.string (rdOf ByteArray.empty l0 x8_1)] rfl rfl z8_ (#[.string (rdOf ByteArray.empty l0 x8_1)] ++ B1_) (by first | rfl | simp) ?_; (refine (hq1_ (rdOf ByteArray.empty l0 x8_1) false _  ?side1 A6.out).mono ?_); (case side1 => repeat (first | (with_reducible first | exact HB.out | apply below_alloc | apply pw_below_drewN | apply below_drew1) | exact HB.out)); rintro e w9 ⟨rfl, hb⟩; refine ⟨_, rfl, ?_⟩; replace HB := ah_ HB hb; (try clear hb); (try clear hb2); (try clear hk); (try clear hi)))
   go_roundg k1
   case measure => have := HK1.out; omega
   case rel => exact ⟨(wrap64 (x8_1 + 1)), z1_, H', ⟨by have := HK1.out; omega⟩, ⟨hb_ HB.out⟩⟩


def slices_ContainsFunc_string_string.f (k : Nat) (l0 : List ByteArray) (a1 : (ByteArray → Option (Bool))) : Option (Bool) := (slices_IndexFunc_string_string.f k l0 a1).bind fun t189 => (some (decide (t189 ≥ 0)))
theorem slices_ContainsFunc_string_string.mono : ∀ a0 a1 k, LeO (slices_ContainsFunc_string_string.f k a0 a1) (slices_ContainsFunc_string_string.f (k + 1) a0 a1) := by
 intro a0 a1 k; unfold slices_ContainsFunc_string_string.f; have m0_ := @slices_IndexFunc_string_string.mono; exact mz_
set_option maxHeartbeats 8000000 in
set_option maxRecDepth 100000 in
theorem slices_ContainsFunc_string_string.calls (k : Nat) (A0 : Option Addr) (c0 : Nat) (l0 : List ByteArray) (G1_ : Nat) (B1_ : Array Value) (a1 : (ByteArray → Option (Bool))) (r : Bool) (w : World) (hr0 : Kd.C Kd.string w A0 l0.length l0) (hc0 : l0.length ≤ c0) (eg1_ : ∀ args w, (callFunc G1_ args).run Tryz.prog w = .ok (.enter G1_ args) w) (hq1_ : ∀ (z0 : ByteArray) (zr0 : Bool) (W_ : World), Below w.heap.size w W_ → a1 z0 = some zr0 → Calls Tryz.prog G1_ (#[.string z0] ++ B1_) W_ fun e w' => e = .returned (.bool zr0) ∧ Below W_.heap.size W_ w') (h : slices_ContainsFunc_string_string.f k l0 a1 = some r) :
  Calls Tryz.prog 66 #[.slice A0 l0.length c0, .func (.func G1_) #[] B1_] w fun e w' => e = .returned (.bool r) ∧ Below w.heap.size w w' := by
 have HR0 := Aside0.mk hr0; have HC0 := Aside0.mk hc0; clear hr0 hc0; have HB := Aside0.mk (Below.refl w.heap.size w); unfold slices_ContainsFunc_string_string.f at h; have H := h; clear h; replace H := Option.bind_eq_some_iff.mp H; obtain ⟨t189, A30, H⟩ := H; have A3 := Aside0.mk A30; clear A30; obtain rfl := Option.some.inj H; go_enter Tryz.func66, Tryz.ntmps66; go_wp2_with (first | ((with_reducible refine gate_callee (f := 138) rfl ?_); refine gl_ (some 7) Tryz.func138 #[.slice A0 l0.length c0, .func (.func G1_) #[] B1_] ?_; (with_reducible refine (slices_IndexFunc_string_string.calls k _ _ l0 G1_ B1_ a1 t189 _ ?side1 ?side2 ?side3 ?side4 A3.out).mono ?_); (case side1 => repeat (first | exact HR0.out | (with_reducible refine Kd.C_alloc ?_ _) | (with_reducible refine Kd.C_drewN ?_ _) | (with_reducible refine Kd.C_drew ?_))); (case side2 => exact HC0.out); (case side3 => exact eg1_); (case side4 => intro z0_ z1_ W_ hB_ h_; exact hq1_ z0_ z1_ _ (Below.trans (hb_ HB.out) (hB_.mono (below_size (hb_ HB.out)))) h_); rintro e w4 ⟨rfl, hb⟩; refine ⟨_, rfl, ?_⟩; replace HB := ah_ HB hb; (try clear hb); (try clear hb2); (try clear hk); (try clear hi)))
 go_ret
 exact ⟨z3_, hb_ HB.out⟩


mutual
def commit_named.j0 : Nat → ByteArray → Bool → Option (Bool)
 | 0, _, _ => none
 | k + 1, x0, x24 => if x24 = true then (some false) else (commit_named.l0 k x0 (x0.size : Int) 0)
def commit_named.l0 : Nat → ByteArray → Int → Int → Option (Bool)
 | 0, _, _, _ => none
 | k + 1, x0, x26, x27 => if x27 < x26 then (if 0 ≤ x27 then (if x27 < (x0.size : Int) then (if (bt x0 x27) < 32 then (some false) else (if (bt x0 x27) = 60 then (some false) else (if (bt x0 x27) = 62 then (some false) else (commit_named.l0 k x0 x26 (wrap64 (x27 + 1)))))) else (none)) else (none)) else (some true)
end
def commit_named.f (k : Nat) (a0 : ByteArray) : Option (Bool) := if (a0.size : Int) < 1 then (commit_named.j0 k a0 true) else (if (a0.size : Int) > 64 then (commit_named.j0 k a0 true) else (if 0 < (a0.size : Int) then (if (bt a0 0) = 32 then (commit_named.j0 k a0 true) else (if 0 ≤ (wrap64 ((a0.size : Int) - 1)) then (if (wrap64 ((a0.size : Int) - 1)) < (a0.size : Int) then (commit_named.j0 k a0 ((bt a0 (wrap64 ((a0.size : Int) - 1))) == 32)) else (none)) else (none))) else (none)))
theorem commit_named.mono_l : ∀ k, (∀ y0 y1, LeO (commit_named.j0 k y0 y1) (commit_named.j0 (k + 1) y0 y1)) ∧ (∀ y0 y1 y2, LeO (commit_named.l0 k y0 y1 y2) (commit_named.l0 (k + 1) y0 y1 y2))
 | 0 => ⟨fun _ _ r h => by simp [commit_named.j0] at h, fun _ _ _ r h => by simp [commit_named.l0] at h⟩
 | k + 1 => by
  obtain ⟨ih0, ih1⟩ := commit_named.mono_l k
  refine ⟨?_, ?_⟩
  ·intro y0 y1
   unfold commit_named.j0
   have m0_ := @ih0
   have m1_ := @ih1
   exact mz_
  ·intro y0 y1 y2
   unfold commit_named.l0
   have m0_ := @ih0
   have m1_ := @ih1
   exact mz_
theorem commit_named.mono : ∀ a0 k, LeO (commit_named.f k a0) (commit_named.f (k + 1) a0) := by
 intro a0 k; obtain ⟨ih0, ih1⟩ := commit_named.mono_l k; unfold commit_named.f; have m0_ := @ih0; have m1_ := @ih1; exact mz_
set_option maxHeartbeats 8000000 in
set_option maxRecDepth 100000 in
theorem commit_named.calls (k : Nat) (a0 : ByteArray) (r : Bool) (w : World) (h : commit_named.f k a0 = some r) :
  Calls Tryz.prog 139 #[.string a0] w fun e w' => e = .returned (.bool r) ∧ Drawn0 w w' := by
 unfold commit_named.f at h; have H := h; clear h; have HC2 := Aside0.mk H; clear H; go_enter Tryz.func139, Tryz.ntmps139; go_upto_region 1 with (fail)
 go_cut [24] (fun v24 wc => ∃ (kq : Nat) (x24_1 : Bool), v24 = .bool x24_1 ∧ Aside0 (commit_named.j0 kq a0 x24_1 = some r) ∧ Aside0 (kq ≤ k) ∧ Drawn0 w wc)
 case first =>
  have H := HC2.out; clear HC2; by_cases c3 : (a0.size : Int) < 1
  ·rw [if_pos c3] at H; have c3b0 := decide_eq_true c3; have c3b1 : decide (a0.size < 1) = true := decide_eq_true (by omega); clear c3; (first | rw [c3b0] | (simp only [i64_w, i32_w]; rw [c3b0]) | skip); have H' := Aside0.mk H; clear H; go_wp2
   go_meet
   case rel => exact ⟨_, (true), z1_, H', ⟨z4_⟩, z2_⟩
  rw [if_neg c3] at H; have c3b0 := decide_eq_false c3; have c3b1 : decide (a0.size < 1) = false := decide_eq_false (by omega); clear c3; (first | rw [c3b0] | (simp only [i64_w, i32_w]; rw [c3b0]) | skip); by_cases c4 : (a0.size : Int) > 64
  ·rw [if_pos c4] at H; have c4b0 := decide_eq_true c4; have c4b1 : decide (64 < a0.size) = true := decide_eq_true (by omega); clear c4; have H' := Aside0.mk H; clear H; go_wp2
   go_meet
   case rel => exact ⟨_, (true), z1_, H', ⟨z4_⟩, z2_⟩
  rw [if_neg c4] at H; have c4b0 := decide_eq_false c4; have c4b1 : decide (64 < a0.size) = false := decide_eq_false (by omega); clear c4; by_cases c5 : 0 < (a0.size : Int); rotate_left
  ·rw [if_neg c5] at H; exact absurd H (by simp)
  rw [if_pos c5] at H; have c5b0 := decide_eq_true c5; have c5b1 : decide (0 < a0.size) = true := decide_eq_true (by omega); clear c5; by_cases c7 : (bt a0 0) = 32
  ·rw [if_pos c7] at H; have c7b0 := beq_iff_eq.mpr c7; have c7b1 := bne_eq_false_iff_eq.mpr c7; clear c7; have H' := Aside0.mk H; clear H; have p6 : 0 ≤ (0 : Int) := (by omega); have q6 : 0 < a0.size := (by have : (0 : Int) < (a0.size : Int) := of_decide_eq_true z0_; omega)
   have hx6 : ∀ h : 0 < a0.size, ((a0[0]'h).toNat : Int) = bt a0 0 := bt_at a0 0; clear p6; have qi6 : (0 < (a0.size : Int)) = True := eq_true (of_decide_eq_true z0_); replace q6 := eq_true q6; go_wp2
   go_meet
   case rel => exact ⟨_, (true), z1_, H', ⟨z4_⟩, z2_⟩
  rw [if_neg c7] at H; have c7b0 := beq_eq_false_iff_ne.mpr c7; have c7b1 := bne_iff_ne.mpr c7; obtain ⟨ji8, hji8⟩ : ∃ j_ : Int, (wrap64 ((a0.size : Int) - 1)) = j_ := ⟨_, rfl⟩; replace H : (if 0 ≤ (ji8) then (if (ji8) < (a0.size : Int) then (commit_named.j0 k a0 ((bt a0 (ji8)) == 32)) else (none)) else (none)) = some r := by first | (rw [hji8] at H; exact H) | (simp only [hji8] at H ⊢; exact H)
  have hji8w : (IntKind.i64.wrap ((a0.size : Int) - 1)) = ji8 := (i64_w _).trans hji8; by_cases c9 : 0 ≤ (ji8); rotate_left
  ·rw [if_neg c9] at H; exact absurd H (by simp)
  rw [if_pos c9] at H; have c9b0 := decide_eq_true c9; clear c9; by_cases c10 : (ji8) < (a0.size : Int); rotate_left
  ·rw [if_neg c10] at H; exact absurd H (by simp)
  rw [if_pos c10] at H; have c10b0 := decide_eq_true c10; clear c10; have H' := Aside0.mk H; clear H; have p6 : 0 ≤ (0 : Int) := (by omega); have q6 : 0 < a0.size := (by have : (0 : Int) < (a0.size : Int) := of_decide_eq_true z0_; omega)
  have hx6 : ∀ h : 0 < a0.size, ((a0[0]'h).toNat : Int) = bt a0 0 := bt_at a0 0; clear p6; have qi6 : (0 < (a0.size : Int)) = True := eq_true (of_decide_eq_true z0_); replace q6 := eq_true q6; have p11 : 0 ≤ ((ji8) : Int) := of_decide_eq_true z0_; have q11 : (ji8) < (a0.size : Int) := of_decide_eq_true z0_; have hx11 := bt_at a0 (ji8); replace p11 := eq_true p11; replace q11 := eq_true q11; go_wp2
  go_meet
  case rel => exact ⟨_, (((bt a0 (ji8)) == 32)), (by first | rfl | (simp; done) | (simp only [← hji8] <;> (first | rfl | simp)) | (simp [*]; done)), H', ⟨z4_⟩, z2_⟩
 case rest =>
  clear HC2; try clear c1
  try clear p1
  try clear q1
  try clear hx1
  try clear p2
  try clear c3
  try clear c3b0
  try clear c3b1
  try clear c4
  try clear c4b0
  try clear c4b1
  try clear c5
  try clear c5b0
  try clear c5b1
  try clear p6
  try clear q6
  try clear hx6
  try clear qi6
  try clear c7
  try clear c7b0
  try clear c7b1
  try clear c9
  try clear c9b0
  try clear c10
  try clear c10b0
  try clear p11
  try clear q11
  try clear hx11
  try clear p11
  try clear p6
  try clear q11
  try clear q6
  obtain ⟨kq, x24_1, rfl, HA, HJ1, ⟨mc1, rfl⟩⟩ := hcut
  cases kq with
  | zero => exact absurd HA.out (by simp [commit_named.j0])
  | succ kj1 =>
   have H := HA.out; clear HA; simp only [commit_named.j0] at H; by_cases c12 : x24_1 = true
   ·subst c12; rw [if_pos rfl] at H; obtain rfl := Option.some.inj H; go_wp2
    go_ret
    exact ⟨z1_, z2_⟩
   replace c12 := Bool.eq_false_iff.mpr c12; subst c12; rw [if_neg nft_] at H; have H' := Aside0.mk H; clear H; go_wp2
   go_loopg [27] kj1 (fun kq v27 w' => ∃ (x27_2 : Int), v27 = .int .i64 x27_2 ∧ Aside0 (commit_named.l0 kq a0 (a0.size : Int) x27_2 = some r) ∧ Aside0 (kq ≤ kj1) ∧ Drawn0 w w')
   case atStart => exact ⟨(0), z1_, H', ⟨Nat.le_refl _⟩, z2_⟩
   case round =>
    clear H'; try clear c1
    try clear p1
    try clear q1
    try clear hx1
    try clear p2
    try clear c3
    try clear c3b0
    try clear c3b1
    try clear c4
    try clear c4b0
    try clear c4b1
    try clear c5
    try clear c5b0
    try clear c5b1
    try clear p6
    try clear q6
    try clear hx6
    try clear qi6
    try clear c7
    try clear c7b0
    try clear c7b1
    try clear c9
    try clear c9b0
    try clear c10
    try clear c10b0
    try clear p11
    try clear q11
    try clear hx11
    try clear c12
    try clear p1
    try clear p11
    try clear p2
    try clear p6
    try clear q1
    try clear q11
    try clear q6
    obtain ⟨x27_2, rfl, HA, HK2, ⟨m2, rfl⟩⟩ := hrel
    cases gk with
    | zero => exact absurd HA.out (by simp [commit_named.l0])
    | succ k2 =>
     have H := HA.out; clear HA; simp only [commit_named.l0] at H; by_cases c13 : x27_2 < (a0.size : Int); rotate_left
     ·rw [if_neg c13] at H; have c13b0 := decide_eq_false c13; clear c13; obtain rfl := Option.some.inj H; go_wp2
      go_ret
      exact ⟨z1_, z2_⟩
     rw [if_pos c13] at H; have c13b0 := decide_eq_true c13; clear c13; by_cases c14 : 0 ≤ x27_2; rotate_left
     ·rw [if_neg c14] at H; exact absurd H (by simp)
     rw [if_pos c14] at H; have c14b0 := decide_eq_true c14; clear c14; by_cases c15 : x27_2 < (a0.size : Int); rotate_left
     ·rw [if_neg c15] at H; exact absurd H (by simp)
     rw [if_pos c15] at H; have c15b0 := decide_eq_true c15; clear c15; by_cases c17 : (bt a0 x27_2) < 32
     ·rw [if_pos c17] at H; have c17b0 := decide_eq_true c17; clear c17; obtain rfl := Option.some.inj H; have p16 : 0 ≤ (x27_2 : Int) := of_decide_eq_true z0_; have q16 : x27_2 < (a0.size : Int) := of_decide_eq_true z0_; have hx16 := bt_at a0 x27_2; replace p16 := eq_true p16; replace q16 := eq_true q16; go_wp2
      go_ret
      exact ⟨z1_, z2_⟩
     rw [if_neg c17] at H; have c17b0 := decide_eq_false c17; clear c17; by_cases c19 : (bt a0 x27_2) = 60
     ·rw [if_pos c19] at H; have c19b0 := beq_iff_eq.mpr c19; have c19b1 := bne_eq_false_iff_eq.mpr c19; clear c19; obtain rfl := Option.some.inj H; have p16 : 0 ≤ (x27_2 : Int) := of_decide_eq_true z0_; have q16 : x27_2 < (a0.size : Int) := of_decide_eq_true z0_; have hx16 := bt_at a0 x27_2; replace p16 := eq_true p16; replace q16 := eq_true q16; have p18 : 0 ≤ (x27_2 : Int) := of_decide_eq_true z0_; have q18 : x27_2 < (a0.size : Int) := of_decide_eq_true z0_; have hx18 := bt_at a0 x27_2; replace p18 := eq_true p18; replace q18 := eq_true q18; go_wp2
      go_ret
      exact ⟨z1_, z2_⟩
     rw [if_neg c19] at H; have c19b0 := beq_eq_false_iff_ne.mpr c19; have c19b1 := bne_iff_ne.mpr c19; by_cases c21 : (bt a0 x27_2) = 62
     ·rw [if_pos c21] at H; have c21b0 := beq_iff_eq.mpr c21; have c21b1 := bne_eq_false_iff_eq.mpr c21; clear c21; obtain rfl := Option.some.inj H; have p16 : 0 ≤ (x27_2 : Int) := of_decide_eq_true z0_; have q16 : x27_2 < (a0.size : Int) := of_decide_eq_true z0_; have hx16 := bt_at a0 x27_2; replace p16 := eq_true p16; replace q16 := eq_true q16; have p18 : 0 ≤ (x27_2 : Int) := of_decide_eq_true z0_; have q18 : x27_2 < (a0.size : Int) := of_decide_eq_true z0_; have hx18 := bt_at a0 x27_2; replace p18 := eq_true p18; replace q18 := eq_true q18; have p20 : 0 ≤ (x27_2 : Int) := of_decide_eq_true z0_; have q20 : x27_2 < (a0.size : Int) := of_decide_eq_true z0_; have hx20 := bt_at a0 x27_2; replace p20 := eq_true p20; replace q20 := eq_true q20; go_wp2
      go_ret
      exact ⟨z1_, z2_⟩
     rw [if_neg c21] at H; have c21b0 := beq_eq_false_iff_ne.mpr c21; have c21b1 := bne_iff_ne.mpr c21; have H' := Aside0.mk H; clear H; have p16 : 0 ≤ (x27_2 : Int) := of_decide_eq_true z0_; have q16 : x27_2 < (a0.size : Int) := of_decide_eq_true z0_; have hx16 := bt_at a0 x27_2; replace p16 := eq_true p16; replace q16 := eq_true q16; have p18 : 0 ≤ (x27_2 : Int) := of_decide_eq_true z0_; have q18 : x27_2 < (a0.size : Int) := of_decide_eq_true z0_; have hx18 := bt_at a0 x27_2; replace p18 := eq_true p18; replace q18 := eq_true q18; have p20 : 0 ≤ (x27_2 : Int) := of_decide_eq_true z0_; have q20 : x27_2 < (a0.size : Int) := of_decide_eq_true z0_; have hx20 := bt_at a0 x27_2; replace p20 := eq_true p20; replace q20 := eq_true q20; go_wp2
     go_roundg k2
     case measure => have := HJ1.out; have := HK2.out; omega
     case rel => exact ⟨(wrap64 (x27_2 + 1)), z1_, H', ⟨by have := HJ1.out; have := HK2.out; omega⟩, z2_⟩


def commit_somebody.f (k : Nat) (a0_0 : ByteArray) (a0_1 : ByteArray) (a0_2 : Int) (a0_3 : Int) : Option (Bool) := (commit_named.f k a0_0).bind fun t105 => (if t105 = true then ((commit_named.f k a0_1).bind fun t106 => (if t106 = true then (if a0_2 ≥ 0 then (if a0_2 ≤ 1099511627776 then (if a0_3 ≥ (-840) then (some (decide (a0_3 ≤ 840))) else (some false)) else (some false)) else (some false)) else (some false))) else (some false))
theorem commit_somebody.mono : ∀ a0 a1 a2 a3 k, LeO (commit_somebody.f k a0 a1 a2 a3) (commit_somebody.f (k + 1) a0 a1 a2 a3) := by
 intro a0 a1 a2 a3 k; unfold commit_somebody.f; have m0_ := @commit_named.mono; exact mz_
set_option maxHeartbeats 8000000 in
set_option maxRecDepth 100000 in
theorem commit_somebody.calls (k : Nat) (a0_0 : ByteArray) (a0_1 : ByteArray) (a0_2 : Int) (a0_3 : Int) (r : Bool) (w : World) (h : commit_somebody.f k a0_0 a0_1 a0_2 a0_3 = some r) :
  Calls Tryz.prog 67 #[.agg #[.string a0_0, .string a0_1, .int .i64 a0_2, .int .i64 a0_3]] w fun e w' => e = .returned (.bool r) ∧ Below w.heap.size w w' := by
 have hu24 := Tryz.underlying24; have HB := Aside0.mk (Below.refl w.heap.size w); unfold commit_somebody.f at h; have H := h; clear h; replace H := Option.bind_eq_some_iff.mp H; obtain ⟨t105, A20, H⟩ := H; have A2 := Aside0.mk A20; clear A20; by_cases c3 : t105 = true; rotate_left
 ·replace c3 := Bool.eq_false_iff.mpr c3; subst c3; rw [if_neg nft_] at H; obtain rfl := Option.some.inj H; go_enter Tryz.func67, Tryz.ntmps67; go_wp2_with (first | ((with_reducible refine gate_dst (N := 1) rfl ?_); refine be_ (cs := #[.string a0_0, .string a0_1, .int .i64 a0_2, .int .i64 a0_3]) (t := 24) ?_; intro gb104 hg w19 hbox hb; have BK104 := Aside0.mk (hbox); have GW104 := ag_ hg HB; have GE104 := ag_ hg HB; replace HB := ah_ HB hb; clear hb hbox hg; obtain ⟨Z20_0, Z20_1, Z20_2, Z20_3, F20_0, F20_1, F20_2, F20_3⟩ := bc4 BK104.out) | ((with_reducible refine gate_callee (f := 139) rfl ?_); refine gl_ (some 5) Tryz.func139 #[.string a0_0] ?_; (with_reducible refine (commit_named.calls k a0_0 false _ A2.out).mono ?_); rintro e w' ⟨rfl, ⟨nd, rfl⟩⟩; refine ⟨_, rfl, ?_⟩)); go_ret
  exact ⟨z3_, hs_⟩
 subst c3; rw [if_pos rfl] at H; replace H := Option.bind_eq_some_iff.mp H; obtain ⟨t106, A40, H⟩ := H; have A4 := Aside0.mk A40; clear A40; by_cases c5 : t106 = true; rotate_left
 ·replace c5 := Bool.eq_false_iff.mpr c5; subst c5; rw [if_neg nft_] at H; obtain rfl := Option.some.inj H; go_enter Tryz.func67, Tryz.ntmps67; have tk9_ : True := trivial; have tk10_ : True := trivial; go_wp2_with (first | ((with_reducible refine gate_dst (N := 1) rfl ?_); refine be_ (cs := #[.string a0_0, .string a0_1, .int .i64 a0_2, .int .i64 a0_3]) (t := 24) ?_; intro gb104 hg w17 hbox hb; have BK104 := Aside0.mk (hbox); have GW104 := ag_ hg HB; have GE104 := ag_ hg HB; replace HB := ah_ HB hb; clear hb hbox hg; obtain ⟨Z18_0, Z18_1, Z18_2, Z18_3, F18_0, F18_1, F18_2, F18_3⟩ := bc4 BK104.out) | (have _t := tk9_; (with_reducible refine gate_callee (f := 139) rfl ?_); refine gl_ (some 5) Tryz.func139 #[.string a0_0] ?_; (with_reducible refine (commit_named.calls k a0_0 true _ A2.out).mono ?_); rintro e w' ⟨rfl, ⟨nd, rfl⟩⟩; refine ⟨_, rfl, ?_⟩; clear tk9_) | (go_at_call 139; have _t := tk10_; (with_reducible refine (commit_named.calls k a0_1 false _ A4.out).mono ?_); rintro e w' ⟨rfl, ⟨nd, rfl⟩⟩; clear tk10_)); go_ret
  exact ⟨z3_, hs_⟩
 subst c5; rw [if_pos rfl] at H; by_cases c6 : a0_2 ≥ 0; rotate_left
 ·rw [if_neg c6] at H; have c6b0 := decide_eq_false c6; clear c6; obtain rfl := Option.some.inj H; go_enter Tryz.func67, Tryz.ntmps67; have tk7_ : True := trivial; have tk8_ : True := trivial; go_wp2_with (first | ((with_reducible refine gate_dst (N := 1) rfl ?_); refine be_ (cs := #[.string a0_0, .string a0_1, .int .i64 a0_2, .int .i64 a0_3]) (t := 24) ?_; intro gb104 hg w15 hbox hb; have BK104 := Aside0.mk (hbox); have GW104 := ag_ hg HB; have GE104 := ag_ hg HB; replace HB := ah_ HB hb; clear hb hbox hg; obtain ⟨Z16_0, Z16_1, Z16_2, Z16_3, F16_0, F16_1, F16_2, F16_3⟩ := bc4 BK104.out) | (have _t := tk7_; (with_reducible refine gate_callee (f := 139) rfl ?_); refine gl_ (some 5) Tryz.func139 #[.string a0_0] ?_; (with_reducible refine (commit_named.calls k a0_0 true _ A2.out).mono ?_); rintro e w' ⟨rfl, ⟨nd, rfl⟩⟩; refine ⟨_, rfl, ?_⟩; clear tk7_) | (go_at_call 139; have _t := tk8_; (with_reducible refine (commit_named.calls k a0_1 true _ A4.out).mono ?_); rintro e w' ⟨rfl, ⟨nd, rfl⟩⟩; clear tk8_)); go_ret
  exact ⟨z3_, hs_⟩
 rw [if_pos c6] at H; have c6b0 := decide_eq_true c6; clear c6; by_cases c7 : a0_2 ≤ 1099511627776; rotate_left
 ·rw [if_neg c7] at H; have c7b0 := decide_eq_false c7; clear c7; obtain rfl := Option.some.inj H; go_enter Tryz.func67, Tryz.ntmps67; have tk5_ : True := trivial; have tk6_ : True := trivial; go_wp2_with (first | ((with_reducible refine gate_dst (N := 1) rfl ?_); refine be_ (cs := #[.string a0_0, .string a0_1, .int .i64 a0_2, .int .i64 a0_3]) (t := 24) ?_; intro gb104 hg w13 hbox hb; have BK104 := Aside0.mk (hbox); have GW104 := ag_ hg HB; have GE104 := ag_ hg HB; replace HB := ah_ HB hb; clear hb hbox hg; obtain ⟨Z14_0, Z14_1, Z14_2, Z14_3, F14_0, F14_1, F14_2, F14_3⟩ := bc4 BK104.out) | (have _t := tk5_; (with_reducible refine gate_callee (f := 139) rfl ?_); refine gl_ (some 5) Tryz.func139 #[.string a0_0] ?_; (with_reducible refine (commit_named.calls k a0_0 true _ A2.out).mono ?_); rintro e w' ⟨rfl, ⟨nd, rfl⟩⟩; refine ⟨_, rfl, ?_⟩; clear tk5_) | (go_at_call 139; have _t := tk6_; (with_reducible refine (commit_named.calls k a0_1 true _ A4.out).mono ?_); rintro e w' ⟨rfl, ⟨nd, rfl⟩⟩; clear tk6_)); go_ret
  exact ⟨z3_, hs_⟩
 rw [if_pos c7] at H; have c7b0 := decide_eq_true c7; clear c7; by_cases c8 : a0_3 ≥ (-840)
 ·rw [if_pos c8] at H; have c8b0 := decide_eq_true c8; clear c8; obtain rfl := Option.some.inj H; go_enter Tryz.func67, Tryz.ntmps67; have tk1_ : True := trivial; have tk2_ : True := trivial; go_wp2_with (first | ((with_reducible refine gate_dst (N := 1) rfl ?_); refine be_ (cs := #[.string a0_0, .string a0_1, .int .i64 a0_2, .int .i64 a0_3]) (t := 24) ?_; intro gb104 hg w9 hbox hb; have BK104 := Aside0.mk (hbox); have GW104 := ag_ hg HB; have GE104 := ag_ hg HB; replace HB := ah_ HB hb; clear hb hbox hg; obtain ⟨Z10_0, Z10_1, Z10_2, Z10_3, F10_0, F10_1, F10_2, F10_3⟩ := bc4 BK104.out) | (have _t := tk1_; (with_reducible refine gate_callee (f := 139) rfl ?_); refine gl_ (some 5) Tryz.func139 #[.string a0_0] ?_; (with_reducible refine (commit_named.calls k a0_0 true _ A2.out).mono ?_); rintro e w' ⟨rfl, ⟨nd, rfl⟩⟩; refine ⟨_, rfl, ?_⟩; clear tk1_) | (go_at_call 139; have _t := tk2_; (with_reducible refine (commit_named.calls k a0_1 true _ A4.out).mono ?_); rintro e w' ⟨rfl, ⟨nd, rfl⟩⟩; clear tk2_)); go_ret
  exact ⟨z3_, hs_⟩
 rw [if_neg c8] at H; have c8b0 := decide_eq_false c8; clear c8; obtain rfl := Option.some.inj H; go_enter Tryz.func67, Tryz.ntmps67; have tk3_ : True := trivial; have tk4_ : True := trivial; go_wp2_with (first | ((with_reducible refine gate_dst (N := 1) rfl ?_); refine be_ (cs := #[.string a0_0, .string a0_1, .int .i64 a0_2, .int .i64 a0_3]) (t := 24) ?_; intro gb104 hg w11 hbox hb; have BK104 := Aside0.mk (hbox); have GW104 := ag_ hg HB; have GE104 := ag_ hg HB; replace HB := ah_ HB hb; clear hb hbox hg; obtain ⟨Z12_0, Z12_1, Z12_2, Z12_3, F12_0, F12_1, F12_2, F12_3⟩ := bc4 BK104.out) | (have _t := tk3_; (with_reducible refine gate_callee (f := 139) rfl ?_); refine gl_ (some 5) Tryz.func139 #[.string a0_0] ?_; (with_reducible refine (commit_named.calls k a0_0 true _ A2.out).mono ?_); rintro e w' ⟨rfl, ⟨nd, rfl⟩⟩; refine ⟨_, rfl, ?_⟩; clear tk3_) | (go_at_call 139; have _t := tk4_; (with_reducible refine (commit_named.calls k a0_1 true _ A4.out).mono ?_); rintro e w' ⟨rfl, ⟨nd, rfl⟩⟩; clear tk4_)); go_ret
 exact ⟨z3_, hs_⟩

end Go.Proofs.YtbhfbbfjdklfgaaGreatDoor.Q


/- strings.Split at a separator of one byte returns the pieces, in new memory. -/
namespace Go.Proofs.YtbhfbbfjdklfgaaGreatDoor.Q
open Go.RowKit Go.Lib Go.Proofs.YtbhfbbfjdklfgaaGreatDoorW.PrintWords Go.Proofs.YtbhfbbfjdklfgaaGreatDoorW.PrintLast

theorem R_strings (e : Nat) (w : World) (l : List ByteArray) (hl : l.length ≤ maxLen) :
    Kd.R Kd.string e (w.alloc (.cells (l.map Value.string).toArray e)) w.heap.size (fun _ => True) (.slice (some ⟨w.heap.size, 0, none⟩) l.length l.length) l := by
  refine ⟨fun _ _ => trivial, l.map Value.string, ⟨by simp [Kd.string, Kd.scalar], .inr ⟨w.heap.size, l.length, (l.map Value.string).toArray, rfl, Nat.le_refl _, heap_alloc_new w _, Nat.le_refl _, hl, by simp [Kd.string, Kd.scalar], List.take_of_length_le (by simp [Kd.string, Kd.scalar])⟩⟩, by simp [Kd.string, Kd.scalar], fun j p hp => ?_⟩
  show ((l.map Value.string).drop (j * 1)).take 1 = [.string p]
  have hj := (List.getElem?_eq_some_iff.1 hp).1
  rw [Nat.mul_one, List.drop_eq_getElem_cons (by simpa using hj)]
  have : l[j] = p := by simpa [List.getElem?_eq_getElem hj] using hp
  simp [this]

def strings_Split.f (a0 : ByteArray) (a1 : ByteArray) : Option (List ByteArray) := if a1.size = 1 ∧ a0.size < 4294967281 then some (Lib.splitB a1 0 (Lib.countB a0 a1) a0) else none

set_option maxHeartbeats 1000000 in
theorem strings_Split.calls (a0 : ByteArray) (a1 : ByteArray) (r : List ByteArray) (w : World) (h : strings_Split.f a0 a1 = some r) :
    Calls Tryz.prog 200 #[.string a0, .string a1] w fun e w' => ∃ v0_ : Value, e = .returned (v0_) ∧ Kd.R Kd.string 9 w' w.heap.size (fun _ => True) v0_ r ∧ Below w.heap.size w w' := by
  unfold strings_Split.f at h
  split at h
  case isFalse => cases h
  case isTrue hc =>
  obtain rfl := Option.some.inj h
  obtain ⟨c, rfl⟩ := Lib.one_byte a1 hc.1
  have h1 : 1 ≤ (⟨#[c]⟩ : ByteArray).size := by rw [hc.1]; exact Nat.le_refl _
  have hle := Lib.countB_le ⟨#[c]⟩ h1 a0.size a0 (Nat.le_refl _)
  have hlen := Lib.splitB_all ⟨#[c]⟩ h1 0 _ a0 rfl
  have ct := Any.strings_genSplit_core Tryz.lays221 (by kernel_rfl) a0 ⟨#[c]⟩ 0 (-1) (Lib.countB a0 ⟨#[c]⟩ + 1) w hc.2 h1 (Nat.zero_le _)
    (fun x C hx => by
      refine (Tryz.strings_Index_one x c _).mono fun e w' ⟨he, hw⟩ => ⟨?_, hw⟩
      rw [he]
      show _ = Ending.returned (Value.int .i64 (Lib.index x.data.toList [c]))
      rw [Lib.index_one])
    (by
      refine (Tryz.strings_Count_one a0 c w).mono fun e w' ⟨he, hw⟩ => ⟨?_, hw⟩
      rw [he]
      show _ = Ending.returned (Value.int .i64 ((Lib.count a0.data.toList [c] : Nat) : Int))
      rw [Lib.count_one]
      rfl) (by decide) (by decide) (by rw [if_pos (by decide)]; omega)
  rw [Nat.add_sub_cancel, hlen] at ct
  have e2 : Lib.cellsOf (Lib.splitB ⟨#[c]⟩ 0 (Lib.countB a0 ⟨#[c]⟩) a0) (Lib.countB a0 ⟨#[c]⟩ + 1) = ((Lib.splitB ⟨#[c]⟩ 0 (Lib.countB a0 ⟨#[c]⟩) a0).map Value.string).toArray := by rw [← hlen]; exact Lib.cellsOf_full _
  rw [e2] at ct
  have HR := R_strings 9 w (Lib.splitB ⟨#[c]⟩ 0 (Lib.countB a0 ⟨#[c]⟩) a0) (by rw [hlen]; unfold maxLen; omega)
  rw [hlen] at HR
  go_enter Tryz.func200, Tryz.ntmps200
  go_wp2_with (go_at_call 234; refine (show Calls _ 234 _ _ _ from ct).mono ?_; rintro e w' ⟨rfl, hw⟩; rw [hw])
  go_ret
  exact ⟨_, rfl, HR, below_alloc (Below.refl _ _) _⟩
end Go.Proofs.YtbhfbbfjdklfgaaGreatDoor.Q


namespace Go.Proofs.YtbhfbbfjdklfgaaGreatDoor.Q
open Go.RowKit Go.Proofs.YtbhfbbfjdklfgaaGreatDoorW.PrintWords Go.Proofs.YtbhfbbfjdklfgaaGreatDoorW.PrintLast Go.Proofs.YtbhfbbfjdklfgaaGreatDoorW.PrintMore
attribute [local go_sem] max2_int min2_int max_two min_two max_three min_three max_four min_four   -- for this text's walks alone


mutual
def path_part.j0 : Nat → ByteArray → Bool → Option (Bool)
 | 0, _, _ => none
 | k + 1, x0, x23 => if x23 = true then (some false) else (path_part.l0 k x0 (x0.size : Int) 0)
def path_part.l0 : Nat → ByteArray → Int → Int → Option (Bool)
 | 0, _, _, _ => none
 | k + 1, x0, x25, x26 => if x26 < x25 then (if 0 ≤ x26 then (if x26 < (x0.size : Int) then (if (bt x0 x26) < 32 then (some false) else (path_part.l0 k x0 x25 (wrap64 (x26 + 1)))) else (none)) else (none)) else (some true)
end
def path_part.f (k : Nat) (a0 : ByteArray) : Option (Bool) := if (a0.size : Int) < 1 then (path_part.j0 k a0 true) else (if (a0.size : Int) > 64 then (path_part.j0 k a0 true) else (if a0.toList = ([46] : List UInt8) then (path_part.j0 k a0 true) else (if a0.toList = ([46, 46] : List UInt8) then (path_part.j0 k a0 true) else (path_part.j0 k a0 (a0.toList == ([46, 103, 114, 97, 102, 116] : List UInt8))))))
theorem path_part.mono_l : ∀ k, (∀ y0 y1, LeO (path_part.j0 k y0 y1) (path_part.j0 (k + 1) y0 y1)) ∧ (∀ y0 y1 y2, LeO (path_part.l0 k y0 y1 y2) (path_part.l0 (k + 1) y0 y1 y2))
 | 0 => ⟨fun _ _ r h => by simp [path_part.j0] at h, fun _ _ _ r h => by simp [path_part.l0] at h⟩
 | k + 1 => by
  obtain ⟨ih0, ih1⟩ := path_part.mono_l k
  refine ⟨?_, ?_⟩
  ·intro y0 y1
   unfold path_part.j0
   have m0_ := @ih0
   have m1_ := @ih1
   exact mz_
  ·intro y0 y1 y2
   unfold path_part.l0
   have m0_ := @ih0
   have m1_ := @ih1
   exact mz_
theorem path_part.mono : ∀ a0 k, LeO (path_part.f k a0) (path_part.f (k + 1) a0) := by
 intro a0 k; obtain ⟨ih0, ih1⟩ := path_part.mono_l k; unfold path_part.f; have m0_ := @ih0; have m1_ := @ih1; exact mz_
set_option maxHeartbeats 8000000 in
set_option maxRecDepth 100000 in
theorem path_part.calls (k : Nat) (a0 : ByteArray) (r : Bool) (w : World) (h : path_part.f k a0 = some r) :
  Calls Tryz.prog 201 #[.string a0] w fun e w' => e = .returned (.bool r) ∧ Drawn0 w w' := by
 unfold path_part.f at h; have H := h; clear h; have HC2 := Aside0.mk H; clear H; go_enter Tryz.func201, Tryz.ntmps201; go_upto_region 1 with (fail)
 go_cut [23] (fun v23 wc => ∃ (kq : Nat) (x23_1 : Bool), v23 = .bool x23_1 ∧ Aside0 (path_part.j0 kq a0 x23_1 = some r) ∧ Aside0 (kq ≤ k) ∧ Drawn0 w wc)
 case first =>
  have H := HC2.out; clear HC2; by_cases c3 : (a0.size : Int) < 1
  ·rw [if_pos c3] at H; have c3b0 := decide_eq_true c3; have c3b1 : decide (a0.size < 1) = true := decide_eq_true (by omega); clear c3; (first | rw [c3b0] | (simp only [i64_w, i32_w]; rw [c3b0]) | skip); have H' := Aside0.mk H; clear H; go_wp2
   go_meet
   case rel => exact ⟨_, (true), z1_, H', ⟨z4_⟩, z2_⟩
  rw [if_neg c3] at H; have c3b0 := decide_eq_false c3; have c3b1 : decide (a0.size < 1) = false := decide_eq_false (by omega); clear c3; (first | rw [c3b0] | (simp only [i64_w, i32_w]; rw [c3b0]) | skip); by_cases c4 : (a0.size : Int) > 64
  ·rw [if_pos c4] at H; have c4b0 := decide_eq_true c4; have c4b1 : decide (64 < a0.size) = true := decide_eq_true (by omega); clear c4; have H' := Aside0.mk H; clear H; go_wp2
   go_meet
   case rel => exact ⟨_, (true), z1_, H', ⟨z4_⟩, z2_⟩
  rw [if_neg c4] at H; have c4b0 := decide_eq_false c4; have c4b1 : decide (64 < a0.size) = false := decide_eq_false (by omega); clear c4; by_cases c5 : a0.toList = ([46] : List UInt8)
  ·rw [if_pos c5] at H; have c5b0 := beq_iff_eq.mpr c5; have c5b1 := bne_eq_false_iff_eq.mpr c5; clear c5; have H' := Aside0.mk H; clear H; go_wp2
   go_meet
   case rel => exact ⟨_, (true), z1_, H', ⟨z4_⟩, z2_⟩
  rw [if_neg c5] at H; have c5b0 := beq_eq_false_iff_ne.mpr c5; have c5b1 := bne_iff_ne.mpr c5; by_cases c6 : a0.toList = ([46, 46] : List UInt8)
  ·rw [if_pos c6] at H; have c6b0 := beq_iff_eq.mpr c6; have c6b1 := bne_eq_false_iff_eq.mpr c6; clear c6; have H' := Aside0.mk H; clear H; go_wp2
   go_meet
   case rel => exact ⟨_, (true), z1_, H', ⟨z4_⟩, z2_⟩
  rw [if_neg c6] at H; have c6b0 := beq_eq_false_iff_ne.mpr c6; have c6b1 := bne_iff_ne.mpr c6; have H' := Aside0.mk H; clear H; go_wp2
  go_meet
  case rel => exact ⟨_, ((a0.toList == ([46, 103, 114, 97, 102, 116] : List UInt8))), z1_, H', ⟨z4_⟩, z2_⟩
 case rest =>
  clear HC2; try clear c2
  try clear p2
  try clear c3
  try clear c3b0
  try clear c3b1
  try clear c4
  try clear c4b0
  try clear c4b1
  try clear c5
  try clear c5b0
  try clear c5b1
  try clear c6
  try clear c6b0
  try clear c6b1
  obtain ⟨kq, x23_1, rfl, HA, HJ1, ⟨mc1, rfl⟩⟩ := hcut
  cases kq with
  | zero => exact absurd HA.out (by simp [path_part.j0])
  | succ kj1 =>
   have H := HA.out; clear HA; simp only [path_part.j0] at H; by_cases c7 : x23_1 = true
   ·subst c7; rw [if_pos rfl] at H; obtain rfl := Option.some.inj H; go_wp2
    go_ret
    exact ⟨z1_, z2_⟩
   replace c7 := Bool.eq_false_iff.mpr c7; subst c7; rw [if_neg nft_] at H; have H' := Aside0.mk H; clear H; go_wp2
   go_loopg [26] kj1 (fun kq v26 w' => ∃ (x26_2 : Int), v26 = .int .i64 x26_2 ∧ Aside0 (path_part.l0 kq a0 (a0.size : Int) x26_2 = some r) ∧ Aside0 (kq ≤ kj1) ∧ Drawn0 w w')
   case atStart => exact ⟨(0), z1_, H', ⟨Nat.le_refl _⟩, z2_⟩
   case round =>
    clear H'; try clear c1
    try clear c2
    try clear p2
    try clear c3
    try clear c3b0
    try clear c3b1
    try clear c4
    try clear c4b0
    try clear c4b1
    try clear c5
    try clear c5b0
    try clear c5b1
    try clear c6
    try clear c6b0
    try clear c6b1
    try clear c7
    try clear p2
    obtain ⟨x26_2, rfl, HA, HK2, ⟨m2, rfl⟩⟩ := hrel
    cases gk with
    | zero => exact absurd HA.out (by simp [path_part.l0])
    | succ k2 =>
     have H := HA.out; clear HA; simp only [path_part.l0] at H; by_cases c8 : x26_2 < (a0.size : Int); rotate_left
     ·rw [if_neg c8] at H; have c8b0 := decide_eq_false c8; clear c8; obtain rfl := Option.some.inj H; go_wp2
      go_ret
      exact ⟨z1_, z2_⟩
     rw [if_pos c8] at H; have c8b0 := decide_eq_true c8; clear c8; by_cases c9 : 0 ≤ x26_2; rotate_left
     ·rw [if_neg c9] at H; exact absurd H (by simp)
     rw [if_pos c9] at H; have c9b0 := decide_eq_true c9; clear c9; by_cases c10 : x26_2 < (a0.size : Int); rotate_left
     ·rw [if_neg c10] at H; exact absurd H (by simp)
     rw [if_pos c10] at H; have c10b0 := decide_eq_true c10; clear c10; by_cases c12 : (bt a0 x26_2) < 32
     ·rw [if_pos c12] at H; have c12b0 := decide_eq_true c12; clear c12; obtain rfl := Option.some.inj H; have p11 : 0 ≤ (x26_2 : Int) := of_decide_eq_true z0_; have q11 : x26_2 < (a0.size : Int) := of_decide_eq_true z0_; have hx11 := bt_at a0 x26_2; replace p11 := eq_true p11; replace q11 := eq_true q11; go_wp2
      go_ret
      exact ⟨z1_, z2_⟩
     rw [if_neg c12] at H; have c12b0 := decide_eq_false c12; clear c12; have H' := Aside0.mk H; clear H; have p11 : 0 ≤ (x26_2 : Int) := of_decide_eq_true z0_; have q11 : x26_2 < (a0.size : Int) := of_decide_eq_true z0_; have hx11 := bt_at a0 x26_2; replace p11 := eq_true p11; replace q11 := eq_true q11; go_wp2
     go_roundg k2
     case measure => have := HJ1.out; have := HK2.out; omega
     case rel => exact ⟨(wrap64 (x26_2 + 1)), z1_, H', ⟨by have := HJ1.out; have := HK2.out; omega⟩, z2_⟩


mutual
def path_Is.j0 : Nat → ByteArray → Bool → Option (Bool)
 | 0, _, _ => none
 | k + 1, x0, x12 => if x12 = true then (some false) else ((strings_Split.f x0 ⟨#[47]⟩).bind fun t107 => (path_Is.l0 k t107 t107 (t107.length : Int) 0))
def path_Is.l0 : Nat → List ByteArray → List ByteArray → Int → Int → Option (Bool)
 | 0, _, _, _, _ => none
 | k + 1, x3, x15, x16, x17 => if x17 < x16 then (if 0 ≤ x17 then (if x17 < (x15.length : Int) then ((path_part.f k (rdOf ByteArray.empty x15 x17)).bind fun t111 => (if t111 = true then (path_Is.l0 k x3 x15 x16 (wrap64 (x17 + 1))) else (some false))) else (none)) else (none)) else (some (decide ((x3.length : Int) ≤ 16)))
end
def path_Is.f (k : Nat) (a0 : ByteArray) : Option (Bool) := if a0.toList = ([] : List UInt8) then (path_Is.j0 k a0 true) else (path_Is.j0 k a0 (decide ((a0.size : Int) > 255)))
theorem path_Is.mono_l : ∀ k, (∀ y0 y1, LeO (path_Is.j0 k y0 y1) (path_Is.j0 (k + 1) y0 y1)) ∧ (∀ y0 y1 y2 y3, LeO (path_Is.l0 k y0 y1 y2 y3) (path_Is.l0 (k + 1) y0 y1 y2 y3))
 | 0 => ⟨fun _ _ r h => by simp [path_Is.j0] at h, fun _ _ _ _ r h => by simp [path_Is.l0] at h⟩
 | k + 1 => by
  obtain ⟨ih0, ih1⟩ := path_Is.mono_l k
  refine ⟨?_, ?_⟩
  ·intro y0 y1
   unfold path_Is.j0
   have m0_ := @ih0
   have m1_ := @ih1
   have m2_ := @path_part.mono
   exact mz_
  ·intro y0 y1 y2 y3
   unfold path_Is.l0
   have m0_ := @ih0
   have m1_ := @ih1
   have m2_ := @path_part.mono
   exact mz_
theorem path_Is.mono : ∀ a0 k, LeO (path_Is.f k a0) (path_Is.f (k + 1) a0) := by
 intro a0 k; obtain ⟨ih0, ih1⟩ := path_Is.mono_l k; unfold path_Is.f; have m0_ := @ih0; have m1_ := @ih1; have m2_ := @path_part.mono; exact mz_
set_option maxHeartbeats 8000000 in
set_option maxRecDepth 100000 in
theorem path_Is.calls (k : Nat) (a0 : ByteArray) (r : Bool) (w : World) (h : path_Is.f k a0 = some r) :
  Calls Tryz.prog 156 #[.string a0] w fun e w' => e = .returned (.bool r) ∧ Below w.heap.size w w' := by
 have HB := Aside0.mk (Below.refl w.heap.size w); unfold path_Is.f at h; have H := h; clear h; have HC2 := Aside0.mk H; clear H; go_enter Tryz.func156, Tryz.ntmps156; go_upto_region 1 with (fail)
 go_cut [12] (fun v12 wc => ∃ (kq : Nat) (x12_1 : Bool), v12 = .bool x12_1 ∧ Aside0 (path_Is.j0 kq a0 x12_1 = some r) ∧ Aside0 (kq ≤ k) ∧ Aside0 (Below w.heap.size w wc))
 case first =>
  have H := HC2.out; clear HC2; by_cases c3 : a0.toList = ([] : List UInt8)
  ·rw [if_pos c3] at H; have c3b0 := beq_iff_eq.mpr c3; have c3b1 := bne_eq_false_iff_eq.mpr c3; clear c3; (first | rw [c3b0] | (simp only [i64_w, i32_w]; rw [c3b0]) | skip); have H' := Aside0.mk H; clear H; go_wp2
   go_meet
   case rel => exact ⟨_, (true), z1_, H', ⟨z4_⟩, ⟨hb_ HB.out⟩⟩
  rw [if_neg c3] at H; have c3b0 := beq_eq_false_iff_ne.mpr c3; have c3b1 := bne_iff_ne.mpr c3; (first | rw [c3b0] | (simp only [i64_w, i32_w]; rw [c3b0]) | skip); have H' := Aside0.mk H; clear H; go_wp2
  go_meet
  case rel => exact ⟨_, (decide ((a0.size : Int) > 255)), z1_, H', ⟨z4_⟩, ⟨hb_ HB.out⟩⟩
 case rest =>
  clear HC2; try clear c1
  try clear p2
  try clear c3
  try clear c3b0
  try clear c3b1
  obtain ⟨kq, x12_1, rfl, HA, HJ1, HB⟩ := hcut
  cases kq with
  | zero => exact absurd HA.out (by simp [path_Is.j0])
  | succ kj1 =>
   have H := HA.out; clear HA; simp only [path_Is.j0] at H; by_cases c4 : x12_1 = true
   ·subst c4; rw [if_pos rfl] at H; obtain rfl := Option.some.inj H; go_wp2
    go_ret
    exact ⟨z3_, hb_ HB.out⟩
   replace c4 := Bool.eq_false_iff.mpr c4; subst c4; rw [if_neg nft_] at H; replace H := Option.bind_eq_some_iff.mp H; obtain ⟨t107, A50, H⟩ := H; have A5 := Aside0.mk A50; clear A50; have H' := Aside0.mk H; clear H; go_wp2_with (first | ((with_reducible refine gate_callee (f := 200) rfl ?_); refine gl_ (some 14) Tryz.func200 #[.string a0, .string ⟨#[47]⟩] ?_; (with_reducible refine (strings_Split.calls a0 ⟨#[47]⟩ t107 _ A5.out).mono ?_); rintro e w6 ⟨v108, rfl, ho0, hb⟩; refine ⟨_, rfl, ?_⟩; have HO109 := Aside0.mk (Kd.R_lower ho0 (below_size (hb_ HB.out))); replace HB := ah_ HB hb; (try clear hb); (try clear hb2); (try clear hk); (try clear hi); (try clear ho0); obtain ⟨Ao7, co7, eo7⟩ := Kd.R_slice HO109.out; subst eo7)); go_loopg [17] kj1 (fun kq v17 w' => ∃ (x17_2 : Int), v17 = .int .i64 x17_2 ∧ Aside0 (path_Is.l0 kq t107 t107 (t107.length : Int) x17_2 = some r) ∧ Aside0 (kq ≤ kj1) ∧ Aside0 (Kd.R Kd.string 9 w' w.heap.size (fun _ => True) (.slice Ao7 t107.length co7) t107) ∧ Aside0 (Kd.R Kd.string 9 w' w.heap.size (fun _ => True) (.slice Ao7 t107.length co7) t107) ∧ Aside0 (Below w.heap.size w w'))
   case atStart => exact ⟨(0), z1_, H', ⟨Nat.le_refl _⟩, ⟨by (with_reducible repeat (first | apply Kd.R_alloc | apply Kd.R_drewN | apply Kd.R_drew)); exact HO109.out⟩, ⟨by (with_reducible repeat (first | apply Kd.R_alloc | apply Kd.R_drewN | apply Kd.R_drew)); exact HO109.out⟩, ⟨hb_ HB.out⟩⟩
   case round =>
    clear H'; try clear c1
    try clear c2
    try clear p2
    try clear c3
    try clear c3b0
    try clear c3b1
    try clear c4
    try clear p2
    obtain ⟨x17_2, rfl, HA, HK2, HO_3, HO_15, HB⟩ := hrel
    cases gk with
    | zero => exact absurd HA.out (by simp [path_Is.l0])
    | succ k2 =>
     have H := HA.out; clear HA; simp only [path_Is.l0] at H; by_cases c8 : x17_2 < (t107.length : Int); rotate_left
     ·rw [if_neg c8] at H; have c8b0 := decide_eq_false c8; clear c8; obtain rfl := Option.some.inj H; go_wp2
      go_ret
      exact ⟨z3_, hb_ HB.out⟩
     rw [if_pos c8] at H; have c8b0 := decide_eq_true c8; clear c8; by_cases c9 : 0 ≤ x17_2; rotate_left
     ·rw [if_neg c9] at H; exact absurd H (by simp)
     rw [if_pos c9] at H; have c9b0 := decide_eq_true c9; clear c9; by_cases c10 : x17_2 < (t107.length : Int); rotate_left
     ·rw [if_neg c10] at H; exact absurd H (by simp)
     rw [if_pos c10] at H; have c10b0 := decide_eq_true c10; clear c10; replace H := Option.bind_eq_some_iff.mp H; obtain ⟨t111, A110, H⟩ := H; have A11 := Aside0.mk A110; clear A110; by_cases c12 : t111 = true; rotate_left
     ·replace c12 := Bool.eq_false_iff.mpr c12; subst c12; rw [if_neg nft_] at H; obtain rfl := Option.some.inj H; have p110 : 0 ≤ (x17_2 : Int) := of_decide_eq_true z0_; have q110 : x17_2 < (t107.length : Int) := of_decide_eq_true z0_; obtain ⟨ad110, e110, hx110_0⟩ := Kd.at_string (Kd.R_reads' HO_15.out).2.2 x17_2 p110 q110
      cases e110
      replace p110 := eq_true p110; replace q110 := eq_true q110; go_wp2_with (first | ((with_reducible refine gate_callee (f := 201) rfl ?_); refine gl_ (some 22) Tryz.func201 #[.string (rdOf ByteArray.empty t107 x17_2)] ?_; (with_reducible refine (path_part.calls k2 (rdOf ByteArray.empty t107 x17_2) false _ A11.out).mono ?_); rintro e w' ⟨rfl, ⟨nd, rfl⟩⟩; refine ⟨_, rfl, ?_⟩)); go_ret
      exact ⟨z3_, hb_ HB.out⟩
     subst c12; rw [if_pos rfl] at H; have H' := Aside0.mk H; clear H; have p110 : 0 ≤ (x17_2 : Int) := of_decide_eq_true z0_; have q110 : x17_2 < (t107.length : Int) := of_decide_eq_true z0_; obtain ⟨ad110, e110, hx110_0⟩ := Kd.at_string (Kd.R_reads' HO_15.out).2.2 x17_2 p110 q110
     cases e110
     replace p110 := eq_true p110; replace q110 := eq_true q110; go_wp2_with (first | ((with_reducible refine gate_callee (f := 201) rfl ?_); refine gl_ (some 22) Tryz.func201 #[.string (rdOf ByteArray.empty t107 x17_2)] ?_; (with_reducible refine (path_part.calls k2 (rdOf ByteArray.empty t107 x17_2) true _ A11.out).mono ?_); rintro e w' ⟨rfl, ⟨nd, rfl⟩⟩; refine ⟨_, rfl, ?_⟩)); go_roundg k2
     case measure => have := HJ1.out; have := HK2.out; omega
     case rel => exact ⟨(wrap64 (x17_2 + 1)), z1_, H', ⟨by have := HJ1.out; have := HK2.out; omega⟩, ⟨z17_⟩, ⟨by (with_reducible repeat (first | apply Kd.R_alloc | apply Kd.R_drewN | apply Kd.R_drew)); exact HO_15.out⟩, ⟨hb_ HB.out⟩⟩




end Go.Proofs.YtbhfbbfjdklfgaaGreatDoor.Q


/- Paths: the parts between slashes, and what is a path; the program's and the reference's. -/
namespace Go.Proofs.YtbhfbbfjdklfgaaGreatDoor.Q
open Go.RowKit Go.Proofs.YtbhfbbfjdklfgaaGreatDoorW.PrintWords Go.Proofs.YtbhfbbfjdklfgaaGreatDoorW.PrintLast Go.Proofs.YtbhfbbfjdklfgaaGreatDoorW.PrintMore

theorem wrap_id {x : Int} (h0 : -9223372036854775808 ≤ x) (h1 : x ≤ 9223372036854775807) : wrap64 x = x := by unfold wrap64; omega
theorem rd_ext (l : List ByteArray) (i : Nat) (h : i < l.length) : rdOf ByteArray.empty l i = l[i] := by
  simp [rdOf, List.getD, List.getElem?_eq_getElem h]
theorem ba_ext {a b : ByteArray} (h : a.data.toList = b.data.toList) : a = b := by
  cases a; cases b; simp at h; simp [h]
theorem append_data (a b : ByteArray) : (a ++ b).data.toList = a.data.toList ++ b.data.toList := by simp
theorem bt_get (s : ByteArray) (i : Nat) (h : i < s.size) : bt s i = ((s.data.toList[i]'(by rw [← Lib.size_eq]; exact h)).toNat : Int) := by
  unfold bt
  simp only [Int.toNat_natCast]
  rw [dif_pos h]
  rfl
end Go.Proofs.YtbhfbbfjdklfgaaGreatDoor.Q


/- strings.IndexByte, and strconv.Atoi at digits. -/
namespace Go.Proofs.YtbhfbbfjdklfgaaGreatDoor.Q
open Go.RowKit Go.Proofs.YtbhfbbfjdklfgaaGreatDoorW.PrintWords Go.Proofs.YtbhfbbfjdklfgaaGreatDoorW.PrintLast
def strings_IndexByte.f (a0 : ByteArray) (a1 : Int) : Option Int := some (Lib.indexByte a0.data.toList a1.toNat.toUInt8)
theorem strings_IndexByte.calls (a0 : ByteArray) (a1 : Int) (r : Int) (w : World) (h : strings_IndexByte.f a0 a1 = some r) :
    Calls Tryz.prog 167 #[.string a0, .int .u8 a1] w fun e w' => e = .returned (.int .i64 r) ∧ Drawn0 w w' := by
  unfold strings_IndexByte.f at h
  obtain rfl := Option.some.inj h
  refine (Tryz.strings_IndexByte a0 a1 w).mono ?_
  rintro e w' ⟨rfl, rfl⟩
  exact ⟨rfl, Drawn0.refl _⟩
def strconv_Atoi.f (a0 : ByteArray) : Option (Int × Option Int) := if a0.size ≤ 18 then (Lib.atoi a0.data.toList).bind fun n => some (n, none) else none
theorem strconv_Atoi.calls (a0 : ByteArray) (r1 : Int) (r2 : Option Int) (w : World) (h : strconv_Atoi.f a0 = some (r1, r2)) :
    Calls Tryz.prog 145 #[.string a0] w fun e w' => e = .returned (.tuple #[.int .i64 r1, errW r2]) ∧ Below w.heap.size w w' := by
  unfold strconv_Atoi.f at h
  split at h
  · rename_i hl
    obtain ⟨n, hn, h2⟩ := Option.bind_eq_some_iff.1 h
    obtain ⟨rfl, rfl⟩ := Prod.mk.inj (Option.some.inj h2)
    refine (Tryz.strconv_Atoi a0 n hl hn w).mono ?_
    rintro e w' ⟨rfl, t, rfl⟩
    exact ⟨rfl, Lib.bytesWorld_below _ _ _⟩
  · cases h
end Go.Proofs.YtbhfbbfjdklfgaaGreatDoor.Q


namespace Go.Proofs.YtbhfbbfjdklfgaaGreatDoor.Q
open Go.RowKit Go.Proofs.YtbhfbbfjdklfgaaGreatDoorW.PrintWords Go.Proofs.YtbhfbbfjdklfgaaGreatDoorW.PrintLast Go.Proofs.YtbhfbbfjdklfgaaGreatDoorW.PrintMore
attribute [local go_sem] max2_int min2_int max_two min_two max_three min_three max_four min_four   -- for this text's walks alone

def ident_value.f (a0 : Int) : Option (Int) := (strings_IndexByte.f ⟨#[48, 49, 50, 51, 52, 53, 54, 55, 56, 57, 97, 98, 99, 100, 101, 102]⟩ a0).bind fun t101 => (some t101)
set_option maxHeartbeats 8000000 in
set_option maxRecDepth 100000 in
theorem ident_value.calls (a0 : Int) (r : Int) (w : World) (h : ident_value.f a0 = some r) :
  Calls Tryz.prog 181 #[.int .u8 a0] w fun e w' => e = .returned (.int .i64 r) ∧ Drawn0 w w' := by
 unfold ident_value.f at h; have H := h; clear h; replace H := Option.bind_eq_some_iff.mp H; obtain ⟨t101, A20, H⟩ := H; have A2 := Aside0.mk A20; clear A20; obtain rfl := Option.some.inj H; go_enter Tryz.func181, Tryz.ntmps181; go_wp2_with (first | ((with_reducible refine gate_callee (f := 167) rfl ?_); refine gl_ (some 4) Tryz.func167 #[.string ⟨#[48, 49, 50, 51, 52, 53, 54, 55, 56, 57, 97, 98, 99, 100, 101, 102]⟩, .int .u8 a0] ?_; (with_reducible refine (strings_IndexByte.calls ⟨#[48, 49, 50, 51, 52, 53, 54, 55, 56, 57, 97, 98, 99, 100, 101, 102]⟩ a0 t101 _ A2.out).mono ?_); rintro e w' ⟨rfl, ⟨nd, rfl⟩⟩; refine ⟨_, rfl, ?_⟩)); go_ret
 exact ⟨z1_, z2_⟩


def ident_all.l0 : Nat → ByteArray → Int → Int → Option (Bool)
 | 0, _, _, _ => none
 | k + 1, x0, x5, x6 => if x6 < x5 then (if 0 ≤ x6 then (if x6 < (x0.size : Int) then ((ident_value.f (bt x0 x6)).bind fun t102 => (if t102 < 0 then (some false) else (ident_all.l0 k x0 x5 (wrap64 (x6 + 1))))) else (none)) else (none)) else (some true)
def ident_all.f (k : Nat) (a0 : ByteArray) : Option (Bool) := ident_all.l0 k a0 (a0.size : Int) 0
theorem ident_all.mono_l : ∀ k, (∀ y0 y1 y2, LeO (ident_all.l0 k y0 y1 y2) (ident_all.l0 (k + 1) y0 y1 y2))
 | 0 => fun _ _ _ r h => by simp [ident_all.l0] at h
 | k + 1 => by
  have ih0 := ident_all.mono_l k
  ·intro y0 y1 y2
   unfold ident_all.l0
   have m0_ := @ih0
   exact mz_
theorem ident_all.mono : ∀ a0 k, LeO (ident_all.f k a0) (ident_all.f (k + 1) a0) := by
 intro a0 k; have ih0 := ident_all.mono_l k; unfold ident_all.f; have m0_ := @ih0; exact mz_
set_option maxHeartbeats 8000000 in
set_option maxRecDepth 100000 in
theorem ident_all.calls (k : Nat) (a0 : ByteArray) (r : Bool) (w : World) (h : ident_all.f k a0 = some r) :
  Calls Tryz.prog 137 #[.string a0] w fun e w' => e = .returned (.bool r) ∧ Drawn0 w w' := by
 unfold ident_all.f at h; have H := h; clear h; have H' := Aside0.mk H; clear H; go_enter Tryz.func137, Tryz.ntmps137; go_wp2
 go_loopg [6] k (fun kq v6 w' => ∃ (x6_1 : Int), v6 = .int .i64 x6_1 ∧ Aside0 (ident_all.l0 kq a0 (a0.size : Int) x6_1 = some r) ∧ Aside0 (kq ≤ k) ∧ Drawn0 w w')
 case atStart => exact ⟨(0), z1_, H', ⟨Nat.le_refl _⟩, z2_⟩
 case round =>
  clear H'; try clear c1
  obtain ⟨x6_1, rfl, HA, HK1, ⟨m1, rfl⟩⟩ := hrel
  cases gk with
  | zero => exact absurd HA.out (by simp [ident_all.l0])
  | succ k1 =>
   have H := HA.out; clear HA; simp only [ident_all.l0] at H; by_cases c2 : x6_1 < (a0.size : Int); rotate_left
   ·rw [if_neg c2] at H; have c2b0 := decide_eq_false c2; clear c2; obtain rfl := Option.some.inj H; go_wp2
    go_ret
    exact ⟨z1_, z2_⟩
   rw [if_pos c2] at H; have c2b0 := decide_eq_true c2; clear c2; by_cases c3 : 0 ≤ x6_1; rotate_left
   ·rw [if_neg c3] at H; exact absurd H (by simp)
   rw [if_pos c3] at H; have c3b0 := decide_eq_true c3; clear c3; by_cases c4 : x6_1 < (a0.size : Int); rotate_left
   ·rw [if_neg c4] at H; exact absurd H (by simp)
   rw [if_pos c4] at H; have c4b0 := decide_eq_true c4; clear c4; replace H := Option.bind_eq_some_iff.mp H; obtain ⟨t102, A60, H⟩ := H; have A6 := Aside0.mk A60; clear A60; by_cases c7 : t102 < 0
   ·rw [if_pos c7] at H; have c7b0 := decide_eq_true c7; clear c7; obtain rfl := Option.some.inj H; have p5 : 0 ≤ (x6_1 : Int) := of_decide_eq_true z0_; have q5 : x6_1 < (a0.size : Int) := of_decide_eq_true z0_; have hx5 := bt_at a0 x6_1; replace p5 := eq_true p5; replace q5 := eq_true q5; go_wp2_with (first | ((with_reducible refine gate_callee (f := 181) rfl ?_); refine gl_ (some 12) Tryz.func181 #[.int .u8 (bt a0 x6_1)] ?_; (with_reducible refine (ident_value.calls (bt a0 x6_1) t102 _ A6.out).mono ?_); rintro e w' ⟨rfl, ⟨nd, rfl⟩⟩; refine ⟨_, rfl, ?_⟩)); go_ret
    exact ⟨z1_, z2_⟩
   rw [if_neg c7] at H; have c7b0 := decide_eq_false c7; clear c7; have H' := Aside0.mk H; clear H; have p5 : 0 ≤ (x6_1 : Int) := of_decide_eq_true z0_; have q5 : x6_1 < (a0.size : Int) := of_decide_eq_true z0_; have hx5 := bt_at a0 x6_1; replace p5 := eq_true p5; replace q5 := eq_true q5; go_wp2_with (first | ((with_reducible refine gate_callee (f := 181) rfl ?_); refine gl_ (some 12) Tryz.func181 #[.int .u8 (bt a0 x6_1)] ?_; (with_reducible refine (ident_value.calls (bt a0 x6_1) t102 _ A6.out).mono ?_); rintro e w' ⟨rfl, ⟨nd, rfl⟩⟩; refine ⟨_, rfl, ?_⟩)); go_roundg k1
   case measure => have := HK1.out; omega
   case rel => exact ⟨(wrap64 (x6_1 + 1)), z1_, H', ⟨by have := HK1.out; omega⟩, z2_⟩


def ident_Is.f (k : Nat) (a0 : ByteArray) : Option (Bool) := if (a0.size : Int) = 40 then ((ident_all.f k a0).bind fun t103 => (some t103)) else (some false)
theorem ident_Is.mono : ∀ a0 k, LeO (ident_Is.f k a0) (ident_Is.f (k + 1) a0) := by
 intro a0 k; unfold ident_Is.f; have m0_ := @ident_all.mono; exact mz_
set_option maxHeartbeats 8000000 in
set_option maxRecDepth 100000 in
theorem ident_Is.calls (k : Nat) (a0 : ByteArray) (r : Bool) (w : World) (h : ident_Is.f k a0 = some r) :
  Calls Tryz.prog 65 #[.string a0] w fun e w' => e = .returned (.bool r) ∧ Drawn0 w w' := by
 unfold ident_Is.f at h; have H := h; clear h; by_cases c2 : (a0.size : Int) = 40; rotate_left
 ·rw [if_neg c2] at H; have c2b0 := beq_eq_false_iff_ne.mpr c2; have c2b1 := bne_iff_ne.mpr c2; obtain rfl := Option.some.inj H; go_enter Tryz.func65, Tryz.ntmps65; go_wp2
  go_ret
  exact ⟨z1_, z2_⟩
 rw [if_pos c2] at H; have c2b0 := beq_iff_eq.mpr c2; have c2b1 := bne_eq_false_iff_eq.mpr c2; clear c2; replace H := Option.bind_eq_some_iff.mp H; obtain ⟨t103, A30, H⟩ := H; have A3 := Aside0.mk A30; clear A30; obtain rfl := Option.some.inj H; go_enter Tryz.func65, Tryz.ntmps65; go_wp2_with (first | (go_at_call 137; (with_reducible refine (ident_all.calls k a0 t103 _ A3.out).mono ?_); rintro e w' ⟨rfl, ⟨nd, rfl⟩⟩)); go_ret
 exact ⟨z1_, z2_⟩

end Go.Proofs.YtbhfbbfjdklfgaaGreatDoor.Q


/- Laws of no program: copy, clear and an insert on rows whose elements have several cells. -/
namespace Go.Proofs.YtbhfbbfjdklfgaaGreatDoor.Q
open Go.RowKit Go.Lib Go.Proofs.YtbhfbbfjdklfgaaGreatDoorW.PrintWords Go.Proofs.YtbhfbbfjdklfgaaGreatDoorW.PrintLast Go.Proofs.YtbhfbbfjdklfgaaGreatDoorW.PrintMore
section
variable {P : Program}
end
theorem reps_append {α : Type} {R : α → List Value → Prop} {size : Nat} {ps qs : List α} {cs ds : List Value} (h : Reps R size ps cs) (k : Reps R size qs ds) : Reps R size (ps ++ qs) (cs ++ ds) := by
  refine ⟨by rw [List.length_append, List.length_append, h.1, k.1, Nat.add_mul], fun j p hj => ?_⟩
  rcases Nat.lt_or_ge j ps.length with hlt | hge
  · rw [List.getElem?_append_left hlt] at hj
    have hle : j * size + size ≤ cs.length := by rw [h.1, ← Nat.succ_mul]; exact Nat.mul_le_mul_right _ hlt
    rw [List.drop_append_of_le_length (by omega), List.take_append_of_le_length (by rw [List.length_drop]; omega)]
    exact h.2 j p hj
  · rw [List.getElem?_append_right hge] at hj
    have e : j * size = cs.length + (j - ps.length) * size := by rw [h.1, ← Nat.add_mul]; congr 1; omega
    rw [e, List.drop_append, List.drop_of_length_le (by omega : cs.length ≤ cs.length + (j - ps.length) * size), List.nil_append]
    rw [show cs.length + (j - ps.length) * size - cs.length = (j - ps.length) * size by omega]
    exact k.2 _ p hj
section
variable {P : Program} {ops : Array Oper} {rest : List Oper} {o : Oper} {a : Act} {Q : Exit → Act → World → Prop} {α : Type}
/-- 'make([]T, 0, n)'. -/
theorem R_makecap (d : Kd α) {w0 W : World} (base e : Nat) (hgd : o.guard = none) {N : Tmp} (_hd : o.dst = some N) (t : TypeId) (x y : Operand) (ho : o.op = .makeSlice t x y) (n : Int) (hx : a.eval x = .int .i64 0) (hy : a.eval y = .int .i64 n)
    (ht : P.underlying t = some (.slice e)) (z : Value) (bytes : Nat) (hinfo : (P.info? e).map (fun i => (i.zero, i.size, i.bytes)) = some (some z, d.sz, bytes)) (hz : z.cells.size = d.sz) (hb0 : 0 < bytes)
    {ok : Nat → Prop} (hfresh : ok W.heap.size) (h0 : 0 ≤ n) (hl : n.toNat * bytes ≤ 281474976710656) (HB : Below base w0 W) (hbase : base ≤ W.heap.size)
    (h : ∀ v1 w1, d.R e w1 base ok v1 [] → Below base w0 w1 → W.grownBy w1 none → (∃ b, v1.ownBlock = some b ∧ W.heap.size ≤ b) → wpList P ops Q rest (a.put o.dst v1) w1) : wpList P ops Q (o :: rest) a W := by
  obtain ⟨m, rfl⟩ := Int.eq_ofNat_of_zero_le h0
  simp only [Int.toNat_natCast] at hl
  obtain ⟨i0, hi, hzz⟩ := Option.map_eq_some_iff.1 hinfo
  simp only [Prod.mk.injEq] at hzz
  obtain ⟨hz0, hz1, hz2⟩ := hzz
  have hm : m ≤ 281474976710656 := Nat.le_trans (Nat.le_mul_of_pos_right _ hb0) hl
  have hr := run_make (P := P) W t e i0 z ht hi hz0 .i64 .i64 0 (m : Int) (by omega) (by omega)
    (by
      have h3 : ((i0.bytes * m : Nat) : Int) ≤ 281474976710656 := by rw [hz2, Nat.mul_comm]; omega
      rwa [Int.natCast_mul] at h3) (by omega)
  simp only [Int.toNat_natCast] at hr
  rw [hz1] at hr
  refine Kd.event_run hgd (v := .slice (some ⟨W.heap.size, 0, none⟩) 0 m) (w1 := W.alloc (.cells (madeCells z.cells (m * d.sz)) e)) (by simp [execOp, ho, hx, hy, hr]) (h _ _ ⟨fun k hk => ?_, [], ?_, ⟨by simp, fun j p hj => by simp at hj⟩⟩ (HB.alloc hbase _) (World.grownBy_alloc W _ none) ⟨W.heap.size, by simp [Value.ownBlock], Nat.le_refl _⟩)
  · have : W.heap.size = k := by simpa [Value.ownBlock] using hk
    subst this
    exact hfresh
  · exact World.ownsRow_made W (madeCells z.cells (m * d.sz)) m hbase (by unfold maxLen; omega) (by simp [madeCells])
end
section
variable {P : Program} {ops : Array Oper} {o : Oper} {a : Act} {Q : Exit → Act → World → Prop} {Kc : Act → World → Prop}
end
end Go.Proofs.YtbhfbbfjdklfgaaGreatDoor.Q


namespace Go.Proofs.YtbhfbbfjdklfgaaGreatDoor.Q
open Go.RowKit Go.Proofs.YtbhfbbfjdklfgaaGreatDoorW.PrintWords Go.Proofs.YtbhfbbfjdklfgaaGreatDoorW.PrintLast Go.Proofs.YtbhfbbfjdklfgaaGreatDoorW.PrintMore
attribute [local go_sem] max2_int min2_int max_two min_two max_three min_three max_four min_four   -- for this text's walks alone

def ident_Hex.l0 : Nat → ByteArray → List Int → Int → Int → Option (ByteArray)
 | 0, _, _, _, _ => none
 | k + 1, x0, x3, x10, x11 => if x11 < x10 then (if 0 ≤ x11 then (if x11 < (x0.size : Int) then (if 0 ≤ ((bt x0 x11) / 16) then (if ((bt x0 x11) / 16) < 16 then (if 0 ≤ (Go.bits .and .u8 (bt x0 x11) 15) then (if (Go.bits .and .u8 (bt x0 x11) 15) < 16 then ((some (([bt ⟨#[48, 49, 50, 51, 52, 53, 54, 55, 56, 57, 97, 98, 99, 100, 101, 102]⟩ ((bt x0 x11) / 16), bt ⟨#[48, 49, 50, 51, 52, 53, 54, 55, 56, 57, 97, 98, 99, 100, 101, 102]⟩ (Go.bits .and .u8 (bt x0 x11) 15)] : List Int) : List Int)).bind fun y184 => (if x3.length + y184.length < 140737488355328 then (ident_Hex.l0 k x0 (x3 ++ y184) x10 (wrap64 (x11 + 1))) else (none))) else (none)) else (none)) else (none)) else (none)) else (none)) else (none)) else (some (strOfNums x3))
def ident_Hex.f (k : Nat) (a0 : ByteArray) : Option (ByteArray) := if 0 ≤ (wrap64 (2 * (a0.size : Int))) then (if (wrap64 (2 * (a0.size : Int)) : Int).toNat ≤ 281474976710656 then (ident_Hex.l0 k a0 (([] : List Int)) (a0.size : Int) 0) else (none)) else (none)
theorem ident_Hex.mono_l : ∀ k, (∀ y0 y1 y2 y3, LeO (ident_Hex.l0 k y0 y1 y2 y3) (ident_Hex.l0 (k + 1) y0 y1 y2 y3))
 | 0 => fun _ _ _ _ r h => by simp [ident_Hex.l0] at h
 | k + 1 => by
  have ih0 := ident_Hex.mono_l k
  ·intro y0 y1 y2 y3
   unfold ident_Hex.l0
   have m0_ := @ih0
   exact mz_
theorem ident_Hex.mono : ∀ a0 k, LeO (ident_Hex.f k a0) (ident_Hex.f (k + 1) a0) := by
 intro a0 k; have ih0 := ident_Hex.mono_l k; unfold ident_Hex.f; have m0_ := @ih0; exact mz_
def ident_Hex.T5 : Bool × List (List Nat × List Nat) := (true, [([], []), ([], []), ([], []), ([1, 2], [1, 2]), ([3], [3]), ([4], [4]), ([], []), ([], []), ([6, 7], [6, 7]), ([8], [8]), ([9], [9]), ([5, 10], [5, 10]), ([0, 11], [0, 11]), ([12, 12, 0, 1, 2, 3, 4, 5, 6, 7, 8, 9, 10, 11, 12], [0, 12])])
def ident_Hex.B5 : List Nat := [0, 0, 0, 6, 14, 30, 0, 0, 192, 448, 960, 2046, 4095, 8191]
theorem ident_Hex.tab5 : rtab .any (opsOf Tryz.f149 5) = ident_Hex.T5 := by kernel_rfl
theorem ident_Hex.bits5 : waitsOk ident_Hex.T5.2 ident_Hex.B5 = true := by kernel_rfl
set_option maxHeartbeats 8000000 in
set_option maxRecDepth 100000 in
theorem ident_Hex.calls (k : Nat) (a0 : ByteArray) (r : ByteArray) (w : World) (h : ident_Hex.f k a0 = some r) :
  Calls Tryz.prog 149 #[.string a0] w fun e w' => e = .returned (.string r) ∧ Below w.heap.size w w' := by
 have HB := Aside0.mk (Below.refl w.heap.size w); unfold ident_Hex.f at h; have H := h; clear h; obtain ⟨ji2, hji2⟩ : ∃ j_ : Int, (wrap64 (2 * (a0.size : Int))) = j_ := ⟨_, rfl⟩; replace H : (if 0 ≤ (ji2) then (if (ji2 : Int).toNat ≤ 281474976710656 then (ident_Hex.l0 k a0 (([] : List Int)) (a0.size : Int) 0) else (none)) else (none)) = some r := by first | (rw [hji2] at H; exact H) | (simp only [hji2] at H ⊢; exact H)
 have hji2w : (IntKind.i64.wrap (2 * (a0.size : Int))) = ji2 := (i64_w _).trans hji2; by_cases c3 : 0 ≤ (ji2); rotate_left
 ·rw [if_neg c3] at H; exact absurd H (by simp)
 rw [if_pos c3] at H; have c3b0 := eq_true c3; have c3b1 := decide_eq_true c3; clear c3; by_cases c4 : (ji2 : Int).toNat ≤ 281474976710656; rotate_left
 ·rw [if_neg c4] at H; exact absurd H (by simp)
 rw [if_pos c4] at H; have c4b0 := eq_true c4; have c4b1 := decide_eq_true c4; clear c4; obtain ⟨y181, hy181⟩ : ∃ y_ : List Int, y_ = (([] : List Int)) := ⟨_, rfl⟩; replace H : (ident_Hex.l0 k a0 y181 (a0.size : Int) 0) = some r := by first | (rw [hy181]; with_reducible exact H) | (have H2_ := (Option.bind_some _ _).symm.trans H; rw [hy181]; with_reducible exact H2_) | (have H2_ := (Option.bind_some _ _).symm.trans H; with_reducible exact H2_) | with_reducible exact H | (rw [hy181]; exact H) | exact H
 have Ny181 := Aside0.mk hy181; clear hy181; have H' := Aside0.mk H; clear H; go_enter Tryz.func149, Tryz.ntmps149; go_wp2_with (first | ((with_reducible refine gate_dst (N := 8) rfl ?_); refine R_makecap (Kd.int .u8) _ 5 rfl (N := 8) rfl 103 _ _ rfl ji2 rfl rfl Tryz.underlying103 (.int .u8 0) 1 info5 rfl (by decide) (ok := fun _ => True) trivial (of_decide_eq_true z0_) (Nat.le_trans (Nat.mul_le_mul_right _ (of_decide_eq_true z0_ : ji2.toNat ≤ 281474976710656)) (by omega)) (Below.refl _ _) (Nat.le_refl _) ?_; intro v182 w5 ho6 hb hg_ hnew_; clear hg_ hnew_; (first | rw [← Ny181.out] at ho6 | (simp only [Int.reduceToNat] at ho6; rw [← Ny181.out] at ho6)); have HO183 := Aside0.mk (Kd.R_lower ho6 (below_size (hb_ HB.out))); replace HB := ah_ HB hb; clear hb ho6)); go_loopg [3, 11] k (fun kq v3 v11 w' => ∃ (x3_1 : List Int) (x11_1 : Int), v11 = .int .i64 x11_1 ∧ Aside0 (ident_Hex.l0 kq a0 x3_1 (a0.size : Int) x11_1 = some r) ∧ Aside0 (kq ≤ k) ∧ Aside0 (Kd.R (Kd.int .u8) 5 w' w.heap.size (fun _ => True) v3 x3_1) ∧ Aside0 (Below w.heap.size w w'))
 case atStart => exact ⟨(y181), (0), z1_, H', ⟨Nat.le_refl _⟩, ⟨by (with_reducible repeat (first | apply Kd.R_alloc | apply Kd.R_drewN | apply Kd.R_drew)); exact HO183.out⟩, ⟨hb_ HB.out⟩⟩
 case round =>
  clear H'; try clear c1
  try clear p2
  try clear c3
  try clear c3b0
  try clear c3b1
  try clear c4
  try clear c4b0
  try clear c4b1
  try clear p6
  obtain ⟨x3_1, x11_1, rfl, HA, HK1, HO_3, HB⟩ := hrel
  cases gk with
  | zero => exact absurd HA.out (by simp [ident_Hex.l0])
  | succ k1 =>
   have H := HA.out; clear HA; simp only [ident_Hex.l0] at H; by_cases c7 : x11_1 < (a0.size : Int); rotate_left
   ·rw [if_neg c7] at H; have c7b0 := decide_eq_false c7; clear c7; obtain rfl := Option.some.inj H; have hcv25 := own_string (P := Tryz.prog) Tryz.underlying103 Tryz.underlying5 Tryz.underlying9 (Kd.own_of_R HO_3.out); go_wp2
    go_ret
    exact ⟨by first | rfl | (simp [errW_none, errW_some] <;> rfl) | (simp only [← hji2]; first | rfl | (simp [errW_none, errW_some] <;> rfl)) | (simp [*, errW_none, errW_some] <;> rfl) | (simp [ne_nil_bool]; done) | (simp [*, ne_nil_bool]; done), hb_ HB.out⟩
   rw [if_pos c7] at H; have c7b0 := decide_eq_true c7; clear c7; by_cases c8 : 0 ≤ x11_1; rotate_left
   ·rw [if_neg c8] at H; exact absurd H (by simp)
   rw [if_pos c8] at H; have c8b0 := decide_eq_true c8; clear c8; by_cases c9 : x11_1 < (a0.size : Int); rotate_left
   ·rw [if_neg c9] at H; exact absurd H (by simp)
   rw [if_pos c9] at H; have c9b0 := decide_eq_true c9; clear c9; obtain ⟨ji11, hji11⟩ : ∃ j_ : Int, ((bt a0 x11_1) / 16) = j_ := ⟨_, rfl⟩; replace H : (if 0 ≤ (ji11) then (if (ji11) < 16 then (if 0 ≤ (Go.bits .and .u8 (bt a0 x11_1) 15) then (if (Go.bits .and .u8 (bt a0 x11_1) 15) < 16 then ((some (([bt ⟨#[48, 49, 50, 51, 52, 53, 54, 55, 56, 57, 97, 98, 99, 100, 101, 102]⟩ (ji11), bt ⟨#[48, 49, 50, 51, 52, 53, 54, 55, 56, 57, 97, 98, 99, 100, 101, 102]⟩ (Go.bits .and .u8 (bt a0 x11_1) 15)] : List Int) : List Int)).bind fun y184 => (if x3_1.length + y184.length < 140737488355328 then (ident_Hex.l0 k1 a0 (x3_1 ++ y184) (a0.size : Int) (wrap64 (x11_1 + 1))) else (none))) else (none)) else (none)) else (none)) else (none)) = some r := by first | (rw [hji11] at H; exact H) | (simp only [hji11] at H ⊢; exact H)
   by_cases c12 : 0 ≤ (ji11); rotate_left
   ·rw [if_neg c12] at H; exact absurd H (by simp)
   rw [if_pos c12] at H; have c12b0 := decide_eq_true c12; clear c12; by_cases c13 : (ji11) < 16; rotate_left
   ·rw [if_neg c13] at H; exact absurd H (by simp)
   rw [if_pos c13] at H; have c13b0 := decide_eq_true c13; clear c13; by_cases c16 : 0 ≤ (Go.bits .and .u8 (bt a0 x11_1) 15); rotate_left
   ·rw [if_neg c16] at H; exact absurd H (by simp)
   rw [if_pos c16] at H; have c16b0 := decide_eq_true c16; clear c16; by_cases c17 : (Go.bits .and .u8 (bt a0 x11_1) 15) < 16; rotate_left
   ·rw [if_neg c17] at H; exact absurd H (by simp)
   rw [if_pos c17] at H; have c17b0 := decide_eq_true c17; clear c17; obtain ⟨y184, hy184⟩ : ∃ y_ : List Int, y_ = (([bt ⟨#[48, 49, 50, 51, 52, 53, 54, 55, 56, 57, 97, 98, 99, 100, 101, 102]⟩ (ji11), bt ⟨#[48, 49, 50, 51, 52, 53, 54, 55, 56, 57, 97, 98, 99, 100, 101, 102]⟩ (Go.bits .and .u8 (bt a0 x11_1) 15)] : List Int)) := ⟨_, rfl⟩; replace H : (if x3_1.length + y184.length < 140737488355328 then (ident_Hex.l0 k1 a0 (x3_1 ++ y184) (a0.size : Int) (wrap64 (x11_1 + 1))) else (none)) = some r := by first | (rw [hy184]; with_reducible exact H) | (have H2_ := (Option.bind_some _ _).symm.trans H; rw [hy184]; with_reducible exact H2_) | (have H2_ := (Option.bind_some _ _).symm.trans H; with_reducible exact H2_) | with_reducible exact H | (rw [hy184]; exact H) | exact H
   have Ny184 := Aside0.mk hy184; clear hy184; by_cases c19 : x3_1.length + y184.length < 140737488355328; rotate_left
   ·rw [if_neg c19] at H; exact absurd H (by simp)
   rw [if_pos c19] at H; have LMc19 := Aside0.mk c19; clear c19; obtain ⟨y187, hy187⟩ : ∃ y_ : List Int, y_ = (x3_1 ++ y184) := ⟨_, rfl⟩; replace H : (ident_Hex.l0 k1 a0 y187 (a0.size : Int) (wrap64 (x11_1 + 1))) = some r := by first | (rw [hy187]; with_reducible exact H) | (have H2_ := (Option.bind_some _ _).symm.trans H; rw [hy187]; with_reducible exact H2_) | (have H2_ := (Option.bind_some _ _).symm.trans H; with_reducible exact H2_) | with_reducible exact H | (rw [hy187]; exact H) | exact H
   have Ny187 := Aside0.mk hy187; clear hy187; have H' := Aside0.mk H; clear H; try go_wp2
   replace HO_3 := Aside0.mk (Kd.R_drew HO_3.out); replace HB := Aside0.mk (below_drew1 HB.out); have p10 : 0 ≤ (x11_1 : Int) := of_decide_eq_true z0_; have q10 : x11_1 < (a0.size : Int) := of_decide_eq_true z0_; have hx10 := bt_at a0 x11_1; replace p10 := eq_true p10; replace q10 := eq_true q10; have p14 : 0 ≤ ((ji11) : Int) := of_decide_eq_true z0_; have q14 : (ji11) < (16 : Int) := of_decide_eq_true z0_; have hx14 := bt_at ⟨#[48, 49, 50, 51, 52, 53, 54, 55, 56, 57, 97, 98, 99, 100, 101, 102]⟩ (ji11); replace p14 := eq_true p14; replace q14 := eq_true q14; have p15 : 0 ≤ (x11_1 : Int) := of_decide_eq_true z0_; have q15 : x11_1 < (a0.size : Int) := of_decide_eq_true z0_; have hx15 := bt_at a0 x11_1; replace p15 := eq_true p15; replace q15 := eq_true q15; have p18 : 0 ≤ ((Go.bits .and .u8 (bt a0 x11_1) 15) : Int) := of_decide_eq_true z0_; have q18 : (Go.bits .and .u8 (bt a0 x11_1) 15) < (16 : Int) := of_decide_eq_true z0_; have hx18 := bt_at ⟨#[48, 49, 50, 51, 52, 53, 54, 55, 56, 57, 97, 98, 99, 100, 101, 102]⟩ (Go.bits .and .u8 (bt a0 x11_1) 15); replace p18 := eq_true p18; replace q18 := eq_true q18; refine start_ (n := 14) (S := fun w' => True) (ds := []) (bs 14 0) (by kernel_rfl) rfl rfl trivial (fun hHeld => ?_); refine with_tabW ident_Hex.tab5 ident_Hex.bits5 (fun HT_ HW_ => ?_); generalize wr.drew = w20 at HO_3 HB hHeld ⊢; refine pu_ (i := 0) (N := some 14) (bs 14 1) rfl rfl ?_; refine pu_ (i := 1) (N := some 15) (bs 14 3) rfl rfl ?_; refine pu_ (i := 2) (N := some 16) (bs 14 7) rfl rfl ?_; refine pu_ (i := 6) (N := some 20) (bs 14 71) rfl rfl ?_; refine pu_ (i := 7) (N := some 21) (bs 14 199) rfl rfl ?_; refine tkW0_ (i := 3) (N := some 17) (bs 14 207) rfl rfl hHeld ?_; refine pu_ (i := 4) (N := some 18) (bs 14 223) rfl rfl ?_; refine tkW0_ (i := 5) (N := some 19) (bs 14 255) rfl rfl hHeld ?_; refine tkW0_ (i := 8) (N := some 22) (bs 14 511) rfl rfl hHeld ?_; refine pu_ (i := 9) (N := some 23) (bs 14 1023) rfl rfl ?_; refine tkW0_ (i := 10) (N := some 24) (bs 14 2047) rfl rfl hHeld ?_; refine one_ (i := 11) (N := some 25) (bs 14 4095) rfl rfl (one_of HT_.out (by kernel_rfl)) (by decide) (fun K hK => ?_); refine Kd.R_lit_step (Kd.int .u8) _ 5 ?hg (N := 25) ?hd (xs := ([bt ⟨#[48, 49, 50, 51, 52, 53, 54, 55, 56, 57, 97, 98, 99, 100, 101, 102]⟩ (ji11), bt ⟨#[48, 49, 50, 51, 52, 53, 54, 55, 56, 57, 97, 98, 99, 100, 101, 102]⟩ (Go.bits .and .u8 (bt a0 x11_1) 15)] : List Int)) (inner := [.int .u8 (bt ⟨#[48, 49, 50, 51, 52, 53, 54, 55, 56, 57, 97, 98, 99, 100, 101, 102]⟩ (ji11)), .int .u8 (bt ⟨#[48, 49, 50, 51, 52, 53, 54, 55, 56, 57, 97, 98, 99, 100, 101, 102]⟩ (Go.bits .and .u8 (bt a0 x11_1) 15))]) (ok := fun _ => True) (okp := fun _ => True) ?hr ?hp (fun _ hk => hk) trivial (Below.refl _ _) (Nat.le_refl _) (by simp) ?_; (case hd => rfl); (case hg => rfl); (case hr => first | (go_simp; done) | (go_simp; rfl)); (case hp => exact (Reps.one (show Kd.M (Kd.int .u8) _ _ _ (bt ⟨#[48, 49, 50, 51, 52, 53, 54, 55, 56, 57, 97, 98, 99, 100, 101, 102]⟩ (ji11)) [.int .u8 (bt ⟨#[48, 49, 50, 51, 52, 53, 54, 55, 56, 57, 97, 98, 99, 100, 101, 102]⟩ (ji11))] from rfl) (Reps.one (show Kd.M (Kd.int .u8) _ _ _ (bt ⟨#[48, 49, 50, 51, 52, 53, 54, 55, 56, 57, 97, 98, 99, 100, 101, 102]⟩ (Go.bits .and .u8 (bt a0 x11_1) 15)) [.int .u8 (bt ⟨#[48, 49, 50, 51, 52, 53, 54, 55, 56, 57, 97, 98, 99, 100, 101, 102]⟩ (Go.bits .and .u8 (bt a0 x11_1) 15))] from rfl) (Reps.none _ _))))
   intro v185 w21 ho22 hb hg_ hnew_; clear hg_ hnew_; (first | rw [← Ny184.out] at ho22 | (simp only [Int.reduceToNat] at ho22; rw [← Ny184.out] at ho22)); have HO186 := Aside0.mk (Kd.R_lower (Kd.R_new' ho22 (Kd.R_lt (rk_ HO_3.out))) (below_size (hb_ HB.out))); replace HO_3 := Aside0.mk (Kd.R_elder' (rk_ HO_3.out) (Kd.R_base ho22) hb); replace HB := ah_ HB hb; clear hb ho22; obtain ⟨Ao24, co24, eo24⟩ := Kd.R_slice HO186.out; (first | subst eo24 | (injection eo24 with f1_ f2_ f3_; have f4_ := f1_.symm; have f5_ := f3_.symm; clear f1_ f2_ f3_; subst f4_; subst f5_)); refine hK.out _ _ trivial (fun hHeld => ?_); clear hK K; refine norm_ (a' := ?_) ?_ ?_; rotate_left
   ·show Act.put _ (some 25) _ = _
    simp only [Act.put, List.setIfInBounds_toArray, List.set_cons_zero, List.set_cons_succ, i64_w, i32_w]; rfl
   refine one_ (i := 12) (N := some 26) (bs 14 8191) rfl rfl (one_of HT_.out (by kernel_rfl)) (by decide) (fun K hK => ?_); refine Kd.R_append_rows_step (Kd.int .u8) (w0 := w) w.heap.size (by rfl) (.tmp 14) (.tmp 25) 103 5 (.int .u8 0) 1 rfl Tryz.underlying103 info5 rfl (by decide) (by omega) u3 x3_1 y184 _ _ _ (fun k_ => some k_ ≠ (.slice Ao24 y184.length co24 : Value).ownBlock) (fun _ => False) rfl rfl ?aO ?aR (fun _ _ h => h) (fun _ h => h.elim) ?aF ?aB ?aS ?aL ?_; (case aR => repeat (first | exact (Kd.R_reads' HO186.out).2.2 | (with_reducible refine Kd.C_alloc ?_ _) | (with_reducible refine Kd.C_drewN ?_ _) | (with_reducible refine Kd.C_drew ?_)))
   (case aB => exact (hb_ HB.out))
   (case aF => exact (fun k_ hk => Kd.fresh' (Kd.R_lt (rk_ HO186.out)) k_ hk))
   (case aO => exact (by (with_reducible repeat (first | apply Kd.R_alloc | apply Kd.R_drewN | apply Kd.R_drew)); exact Kd.R_mono HO_3.out (fun _ hk => hk.2)))
   (case aS => exact (below_size (hb_ HB.out)))
   (case aL => have := LMc19.out; omega)
   intro v188 w23 ho hb hg hat; rw [← Ny187.out] at ho; have n0_ := Aside0.mk (Kd.R_after (ok := (fun _ => True)) (rk_ HO186.out) hg hat); have n1_ := Aside0.mk (hb); have n2_ := Aside0.mk (ho); clear HO186; clear HB; clear HO_3; have HO186 := n0_; have HB := n1_; have HO189 := n2_; clear n0_ n1_ n2_; clear ho hb hg hat; refine hK.out _ _ trivial (fun hHeld => ?_); clear hK K; refine norm_ (a' := ?_) ?_ ?_; rotate_left
   ·show Act.put _ (some 26) _ = _
    simp only [Act.put, List.setIfInBounds_toArray, List.set_cons_zero, List.set_cons_succ, i64_w, i32_w]; rfl
   refine pu_ (i := 13) (N := some 3) (bs 14 16383) rfl rfl ?_; refine done_ (done_of HT_.out (by kernel_rfl)) ?_; try go_wp2
   go_roundg k1
   case measure => have := HK1.out; omega
   case rel => exact ⟨(y187), (wrap64 (x11_1 + 1)), z1_, H', ⟨by have := HK1.out; omega⟩, ⟨by (with_reducible repeat (first | apply Kd.R_alloc | apply Kd.R_drewN | apply Kd.R_drew)); exact Kd.R_mono HO189.out (fun _ hk => trivial)⟩, ⟨hb_ HB.out⟩⟩


def graftageref02_Hex.T6 : Bool × List (List Nat × List Nat) := (true, [([], []), ([], []), ([], []), ([], []), ([2, 3], [2, 3]), ([4], [4]), ([1, 5], [1, 5]), ([], []), ([], []), ([], []), ([8, 9], [8, 9]), ([10], [10]), ([7, 11], [7, 11]), ([6, 12], [6, 12]), ([0, 13], [0, 13]), ([14, 14, 0, 1, 2, 3, 4, 5, 6, 7, 8, 9, 10, 11, 12, 13, 14], [0, 14])])
def graftageref02_Hex.B6 : List Nat := [0, 0, 0, 0, 12, 28, 62, 0, 0, 0, 768, 1792, 3968, 8190, 16383, 32767]
theorem graftageref02_Hex.tab6 : rtab .any (opsOf Tryz.f197 6) = graftageref02_Hex.T6 := by kernel_rfl
theorem graftageref02_Hex.bits6 : waitsOk graftageref02_Hex.T6.2 graftageref02_Hex.B6 = true := by kernel_rfl
end Go.Proofs.YtbhfbbfjdklfgaaGreatDoor.Q


/- Ids: digits, bytes and their digits; the program's and the reference's. -/
namespace Go.Proofs.YtbhfbbfjdklfgaaGreatDoor.Q
open Go.RowKit Go.Proofs.YtbhfbbfjdklfgaaGreatDoorW.PrintWords Go.Proofs.YtbhfbbfjdklfgaaGreatDoorW.PrintLast Go.Proofs.YtbhfbbfjdklfgaaGreatDoorW.PrintMore

def hexD : List UInt8 := [48, 49, 50, 51, 52, 53, 54, 55, 56, 57, 97, 98, 99, 100, 101, 102]
/-- A digit's value; -1. -/
def dv (b : Int) : Int := Lib.indexByte hexD b.toNat.toUInt8
theorem dv_table : ∀ n : Fin 256, graftageref02_Digit.f 2 (n.val : Int) = some (dv (n.val : Int)) ∧ -1 ≤ dv (n.val : Int) ∧ dv (n.val : Int) ≤ 15 := by decide +kernel
theorem bt_fin (s : ByteArray) (i : Int) : ∃ n : Fin 256, bt s i = (n.val : Int) := by
  obtain ⟨h0, h1⟩ := bt_range s i
  exact ⟨⟨(bt s i).toNat, by omega⟩, by simp; omega⟩
theorem value_eq (b : Int) : ident_value.f b = some (dv b) := rfl
theorem Digit_bt (s : ByteArray) (i : Int) (k : Nat) (hk : 2 ≤ k) : graftageref02_Digit.f k (bt s i) = some (dv (bt s i)) := by
  obtain ⟨n, hn⟩ := bt_fin s i
  rw [hn]
  exact at_rounds (fun k => graftageref02_Digit.mono _ k) hk (dv_table n).1
/-- Are all digits, from a place on? -/
def hexF (s : ByteArray) : Nat → Nat → Bool
  | 0, _ => true
  | d + 1, i => decide (0 ≤ dv (bt s i)) && hexF s d (i + 1)
theorem all_l0 (s : ByteArray) (hs : s.size ≤ 140737488351232) : ∀ (d k i : Nat), i + d = s.size → d < k → ident_all.l0 k s s.size i = some (hexF s d i) := by
  intro d
  induction d with
  | zero =>
    intro k i hi hk
    obtain ⟨k, rfl⟩ : ∃ m, k = m + 1 := ⟨k - 1, by omega⟩
    simp only [ident_all.l0]
    rw [if_neg (by omega)]; rfl
  | succ d ih =>
    intro k i hi hk
    obtain ⟨k, rfl⟩ : ∃ m, k = m + 1 := ⟨k - 1, by omega⟩
    have := ih k (i + 1) (by omega) (by omega)
    simp only [ident_all.l0]
    rw [if_pos (by omega), if_pos (by omega), if_pos (by omega), value_eq, wrap_id (by omega) (by omega)]
    simp only [Option.bind_some]
    rw [hexF]
    by_cases h : dv (bt s i) < 0
    · rw [if_pos h, decide_eq_false (by omega)]; rfl
    · rw [if_neg h, decide_eq_true (by omega), Bool.true_and]; exact_mod_cast this
theorem digits_l0 (s : ByteArray) (hs : s.size ≤ 140737488351232) : ∀ (d k i : Nat), i + d = s.size → d + 2 < k → graftageref02_digits.l0 k s i = some (hexF s d i) := by
  intro d
  induction d with
  | zero =>
    intro k i hi hk
    obtain ⟨k, rfl⟩ : ∃ m, k = m + 1 := ⟨k - 1, by omega⟩
    simp only [graftageref02_digits.l0]
    rw [if_neg (by omega)]; rfl
  | succ d ih =>
    intro k i hi hk
    obtain ⟨k, rfl⟩ : ∃ m, k = m + 1 := ⟨k - 1, by omega⟩
    have := ih k (i + 1) (by omega) (by omega)
    simp only [graftageref02_digits.l0]
    rw [if_pos (by omega), if_pos (by omega), Digit_bt s i k (by omega), wrap_id (by omega) (by omega)]
    simp only [Option.bind_some]
    rw [hexF]
    by_cases h : dv (bt s i) < 0
    · rw [if_pos h, decide_eq_false (by omega)]; rfl
    · rw [if_neg h, decide_eq_true (by omega), Bool.true_and]; exact_mod_cast this
def idOk (s : ByteArray) : Bool := decide (s.size = 40) && hexF s s.size 0
theorem ident_Is_ev (s : ByteArray) : Ev (fun k => ident_Is.f k s) (idOk s) := by
  unfold idOk
  by_cases h : s.size = 40
  · refine Ev.congr (f := fun k => (ident_all.f k s).bind fun t => some t) (fun k => by unfold ident_Is.f; rw [if_pos (by omega)]) ?_
    refine Ev.bind (Ev.of (fun k => ident_all.mono s k) (k := 60) (r := hexF s s.size 0) ?_) ?_
    · unfold ident_all.f
      exact_mod_cast all_l0 s (by omega) s.size 60 0 (by omega) (by omega)
    · rw [decide_eq_true h, Bool.true_and]; exact Ev.now _
  · refine Ev.congr (f := fun _ => some false) (fun k => by unfold ident_Is.f; rw [if_neg (by omega)]) ?_
    rw [decide_eq_false h, Bool.false_and]; exact Ev.now _
theorem ref_idIs_ev (s : ByteArray) : Ev (fun k => graftageref02_Is.f k s) (idOk s) := by
  unfold idOk
  by_cases h : s.size = 40
  · refine Ev.congr (f := fun k => (graftageref02_digits.f k s).bind fun t => some t) (fun k => by unfold graftageref02_Is.f; rw [if_pos (by omega)]) ?_
    refine Ev.bind (Ev.of (fun k => graftageref02_digits.mono s k) (k := 60) (r := hexF s s.size 0) ?_) ?_
    · unfold graftageref02_digits.f
      exact_mod_cast digits_l0 s (by omega) s.size 60 0 (by omega) (by omega)
    · rw [decide_eq_true h, Bool.true_and]; exact Ev.now _
  · refine Ev.congr (f := fun _ => some false) (fun k => by unfold graftageref02_Is.f; rw [if_neg (by omega)]) ?_
    rw [decide_eq_false h, Bool.false_and]; exact Ev.now _
theorem hexF_at (s : ByteArray) : ∀ (d i : Nat), hexF s d i = true → ∀ j, i ≤ j → j < i + d → 0 ≤ dv (bt s j)
  | 0, _, _, j, h1, h2 => by omega
  | d + 1, i, h, j, h1, h2 => by
    rw [hexF, Bool.and_eq_true, decide_eq_true_eq] at h
    by_cases e : j = i
    · rw [e]; exact h.1
    · exact hexF_at s d (i + 1) h.2 j (by omega) (by omega)
def hx (n : Int) : Int := bt (⟨#[48, 49, 50, 51, 52, 53, 54, 55, 56, 57, 97, 98, 99, 100, 101, 102]⟩ : ByteArray) n
end Go.Proofs.YtbhfbbfjdklfgaaGreatDoor.Q


/- A closure of commit.Check, told without rounds: no id? -/
namespace Go.Proofs.YtbhfbbfjdklfgaaGreatDoor.Q
open Go.RowKit Go.Proofs.YtbhfbbfjdklfgaaGreatDoorW.PrintWords Go.Proofs.YtbhfbbfjdklfgaaGreatDoorW.PrintLast Go.Proofs.YtbhfbbfjdklfgaaGreatDoorW.PrintMore
theorem ev_take {α : Type} {g : Nat → Option α} {r : α} (h : Ev g r) : ∃ k, g k = some r := h.rounds
def commit_Check_1.f (a0 : ByteArray) : Option Bool := some (!idOk a0)
theorem commit_Check_1.calls (a0 : ByteArray) (r : Bool) (w : World) (h : commit_Check_1.f a0 = some r) :
    Calls Tryz.prog 64 #[.string a0] w fun e w' => e = .returned (.bool r) ∧ Drawn0 w w' := by
  obtain rfl := Option.some.inj h
  clear h
  obtain ⟨k, hk⟩ := ev_take (ident_Is_ev a0)
  have HK := Aside0.mk hk
  clear hk
  obtain ⟨b, hb⟩ : ∃ b, b = idOk a0 := ⟨_, rfl⟩
  rw [← hb] at HK ⊢
  clear hb
  go_enter Tryz.func64, Tryz.ntmps64
  go_wp2_with (go_at_call 65; (with_reducible refine (ident_Is.calls k a0 b _ HK.out).mono ?_); rintro e w1 ⟨rfl, hb⟩; have HB := Aside0.mk hb; clear hb)
  go_ret
  exact ⟨rfl, HB.out⟩
end Go.Proofs.YtbhfbbfjdklfgaaGreatDoor.Q


/- A map from strings to truth values that the call makes, as a state: how often it was written, and what stands at a key. -/
namespace Go.Proofs.YtbhfbbfjdklfgaaGreatDoor.Q
open Go.RowKit Go.Maps Go.Proofs.YtbhfbbfjdklfgaaGreatDoorW.PrintWords Go.Proofs.YtbhfbbfjdklfgaaGreatDoorW.PrintLast Go.Proofs.YtbhfbbfjdklfgaaGreatDoorW.PrintMore
structure MSB where
  n : Nat
  f : List UInt8 → Option Bool
def MSB.nil : MSB := ⟨0, fun _ => none⟩
def MSB.get (m : MSB) (k : ByteArray) : Bool := (m.f k.data.toList).getD false
def MSB.has (m : MSB) (k : ByteArray) : Bool := (m.f k.data.toList).isSome
def MSB.put (m : MSB) (k : ByteArray) (v : Bool) : MSB := ⟨m.n + 1, fun x => if x = k.data.toList then some v else m.f x⟩
def IsS84 (w0 W : World) (g : Nat) (f0 : MSB) : Prop := w0.heap.size ≤ g ∧ ∃ D : DataW Unit, W.ownsMap Tryz.prog 9 (plainElem Tryz.prog 4) g f0.n D ∧
  ∀ s : List UInt8, s.length ≤ maxLen → D.atKey (.string s) (.lit (.bool false)) = .lit (.bool ((f0.f s).getD false)) ∧ Maps.has D (.string s) = (f0.f s).isSome
theorem plainElem_bool_inv {H : Type} {P : Program} {e : TypeId} (he : P.underlying e = some .bool) {v : Value} {z : DataW H × List MemPlace} (h : plainElem P e v = some z) : ∃ a, v = .bool a ∧ z = (.lit (.bool a), []) := by
  unfold plainElem at h
  rw [he] at h
  cases v <;> simp at h
  subst h
  exact ⟨_, rfl, rfl⟩
theorem wpList_lookup_own_bool {H : Type} {P : Program} (w : World) {ops : Array Oper} {rest : List Oper} {o : Oper} {a : Act} {Q : Exit → Act → World → Prop}
    (hg : o.guard = none) (m x : Operand) (t : TypeId) (hop : o.op = Op.lookup t m x false)
    (k e : TypeId) (K : Keyed P k) (ht : P.underlying t = some (.map k e)) (he : P.underlying e = some .bool) (hz : (zeroValue e).run P w = .ok (.bool false) w) (b n : Nat) (D : DataW H)
    (hm : a.eval m = .map (some b)) (hown : w.ownsMap P k (plainElem P e) b n D) (key : Value) (kl : Lit) (hx : a.eval x = key) (hkey : keyOf P k key = some kl)
    (hK : ∀ c : Bool, D.atKey kl (.lit (.bool false)) = .lit (.bool c) → wpList P ops Q rest (a.put o.dst (.bool c)) w) :
    wpList P ops Q (o :: rest) a w := by
  refine wpList_plain hg fun K' hK' => ?_
  obtain ⟨v, ps, hrun, hv⟩ := hown.lookup K ht hz (plainElem_bool he false) hkey
  obtain ⟨c, rfl, hc⟩ := plainElem_bool_inv he hv
  unfold Oper.wp
  simp [execOp, hop, hm, hx, hrun, Result.andThen]
  exact hK' _ _ (hK c (congrArg Prod.fst hc))
theorem mapLawB : Keyed Tryz.prog 9 := string_keyed Tryz.underlying9
theorem mapZeroB (w : World) : (zeroValue 4).run Tryz.prog w = .ok (.bool false) w := by kernel_rfl
section
variable {w0 W W1 : World} {g : Nat} {f0 : MSB}
theorem IsS84.block (h : IsS84 w0 W g f0) : ∃ es clock, W.heap[g]? = some (.map es clock) := by
  obtain ⟨_, D, ⟨es, c, hb, _⟩, _⟩ := h
  exact ⟨es, c, hb⟩
theorem IsS84.grown {row : Option Nat} (h : IsS84 w0 W g f0) (hw : W.grownBy W1 row) (hne : some g ≠ row) : IsS84 w0 W1 g f0 := by
  obtain ⟨h0, D, h1, h2⟩ := h
  exact ⟨h0, D, h1.kept hw hne, h2⟩
theorem IsS84.below (h : IsS84 w0 W g f0) (hw : Below W.heap.size W W1) : IsS84 w0 W1 g f0 := h.grown (grown_of_below hw none) (by simp)
theorem IsS84.alloc (h : IsS84 w0 W g f0) (o : Obj) : IsS84 w0 (W.alloc o) g f0 := h.below (below_alloc (Below.refl _ _) o)
theorem IsS84.drewN (h : IsS84 w0 W g f0) (m : Nat) : IsS84 w0 (W.drewN m) g f0 := h
theorem IsS84.drew (h : IsS84 w0 W g f0) : IsS84 w0 W.drew g f0 := h
theorem IsS84.at_ {m : Nat} (hq : W.drewN m = W1) (h : IsS84 w0 W g f0) : IsS84 w0 W1 g f0 := by subst hq; exact h
theorem IsS84.ge (h : IsS84 w0 W g f0) : w0.heap.size ≤ g := h.1
theorem IsS84.lt (h : IsS84 w0 W g f0) : g < W.heap.size := by
  obtain ⟨_, D, h1, _⟩ := h
  exact h1.lt
theorem IsS84.fresh (h : IsS84 w0 W g f0) : ∀ k, W.heap.size ≤ k → k ≠ g := fun k hk e => by have := h.lt; omega
theorem IsS84.far {p : Addr} (h : IsS84 w0 W g f0) (hne : g ≠ p.block) (u : Value) : IsS84 w0 (W.setCell p u) g f0 := by
  obtain ⟨h0, D, h1, h2⟩ := h
  exact ⟨h0, D, h1.setCell hne u, h2⟩
theorem IsS84.apart {α : Type} {d : Kd α} {e : Nat} {base : Nat} {ok : Nat → Prop} {v : Value} {xs : List α} (h : IsS84 w0 W g f0) (ho : d.R e W base ok v xs) (ht : ∀ q, q ∈ e :: d.E → q ≠ 84) : d.R e W base (fun k => ok k ∧ k ≠ g) v xs := by
  obtain ⟨es, c, hb⟩ := h.block
  refine Kd.R_mono (Kd.R_bound ho) (fun k hk => ⟨hk.1, ?_⟩)
  rintro rfl
  obtain ⟨_, _, _, q, _, cells, hc⟩ := hk
  rw [hc] at hb
  cases hb
theorem IsS84.own_ne {α : Type} {d : Kd α} {e : Nat} {base : Nat} {ok : Nat → Prop} {v : Value} {xs : List α} (h : IsS84 w0 W g f0) (ho : d.R e W base ok v xs) (ht : e ≠ 84) : some g ≠ v.ownBlock := by
  obtain ⟨es, c, hb⟩ := h.block
  intro he
  obtain ⟨_, _, _, q, _, cells, hc⟩ := (Kd.R_bound ho).1 g he.symm
  rw [hc] at hb
  cases hb
theorem IsS84.made (hb : W.ownsMap Tryz.prog 9 (plainElem (H := Unit) Tryz.prog 4) g 0 (.map [])) (hg : w0.heap.size ≤ g) : IsS84 w0 W g MSB.nil :=
  ⟨hg, .map [], hb, fun s hs => ⟨by simp [DataW.atKey, MSB.nil], by simp [Maps.has, MSB.nil]⟩⟩
end
section
variable {ops : Array Oper} {rest : List Oper} {o : Oper} {a : Act} {Q : Exit → Act → World → Prop} {w0 W : World} {g : Nat} {f0 : MSB}
theorem mkmapB_event (hgd : o.guard = none) {N : Tmp} (hd : o.dst = some N) (hop : o.op = .makeMap 84 none)
    (h : ∀ g, g = W.heap.size → ∀ w1, w1.ownsMap Tryz.prog 9 (plainElem (H := Unit) Tryz.prog 4) g 0 (.map []) → Below W.heap.size W w1 → wpList Tryz.prog ops Q rest (a.put o.dst (.map (some g))) w1) : wpList Tryz.prog ops Q (o :: rest) a W := by
  have hmm := @run_makeMap Tryz.prog
  refine Kd.event_run hgd (v := .map (some W.heap.size)) (w1 := W.alloc (.map #[] 0)) ?_ (h _ rfl _ (World.ownsMap_made _ _ _ _) (below_alloc (Below.refl _ _) _))
  simp [execOp, hop, hmm, Result.andThen]
theorem IsS84.look {m x : Operand} {k : ByteArray} (h : IsS84 w0 W g f0) (hgd : o.guard = none) (hop : o.op = .lookup 84 m x false) (hm : a.eval m = .map (some g)) (hx : a.eval x = .string k) (hs : k.size ≤ 9223372036854775807)
    {c_ : Bool} (he_ : MSB.get f0 k = c_) (K : wpList Tryz.prog ops Q rest (a.put o.dst (.bool c_)) W) : wpList Tryz.prog ops Q (o :: rest) a W := by
  subst he_
  obtain ⟨h0, D, h1, h2⟩ := h
  refine wpList_lookup_own_bool _ hgd m x 84 hop 9 4 mapLawB Tryz.underlying84 Tryz.underlying4 (mapZeroB _) g f0.n D hm h1 _ _ hx (WideMaps.keyOf_string_mk Tryz.underlying9 (by unfold maxLen; exact hs)) ?_
  intro c hat
  have := (h2 k.data.toList (by unfold maxLen; exact hs)).1
  rw [this] at hat
  have e : c = MSB.get f0 k := by
    injection hat with hat
    injection hat with hat
    exact hat.symm
  rw [e]
  exact K
theorem IsS84.put_ {m x v : Operand} {k : ByteArray} {n : Bool} (h : IsS84 w0 W g f0) (hgd : o.guard = none) (hop : o.op = .mapUpdate 84 m x v) (hm : a.eval m = .map (some g)) (hx : a.eval x = .string k) (hv : a.eval v = .bool n) (hs : k.size ≤ 9223372036854775807) (hn : f0.n < 4611686018427387904) (hw : True)
    (K : ∀ w1, IsS84 w0 w1 g (MSB.put f0 k n) → W.grownBy w1 (some g) → wpList Tryz.prog ops Q rest (a.put o.dst undef) w1) : wpList Tryz.prog ops Q (o :: rest) a W := by
  obtain ⟨h0, D, h1, h2⟩ := h
  have hk : keyOf Tryz.prog 9 (.string k) = some (.string k.data.toList) := WideMaps.keyOf_string_mk Tryz.underlying9 (by unfold maxLen; exact hs)
  refine wpList_mapUpdate_own _ hgd m x v 84 hop 9 4 mapLawB Tryz.underlying84 _ g f0.n D hm h1 (by unfold maxLen; omega) _ _ _ hx hv hk _ [] (plainElem_bool Tryz.underlying4 n) ?_
  intro w1 hown hg
  refine K w1 ⟨h0, _, hown, fun s hl => ?_⟩ hg
  have hD : IsMap D := by
    obtain ⟨es, c, _, _, _, rfl⟩ := h1
    exact ⟨_, rfl⟩
  have hkl : WideAt.IsKeyLit (.string k.data.toList) := trivial
  by_cases e : s = k.data.toList
  · subst e
    refine ⟨?_, ?_⟩
    · rw [atKey_put_same hD hkl]; simp [MSB.put]
    · rw [has_put_same hD hkl]; simp [MSB.put]
  · have hne : (Lit.string s) ≠ .string k.data.toList := fun h => e (by injection h)
    have := h2 s hl
    refine ⟨?_, ?_⟩
    · rw [atKey_put_other hne, this.1]; simp [MSB.put, e]
    · rw [has_put_other hne, this.2]; simp [MSB.put, e]
end
end Go.Proofs.YtbhfbbfjdklfgaaGreatDoor.Q


namespace Go.Proofs.YtbhfbbfjdklfgaaGreatDoor.Q
open Go.RowKit Go.Proofs.YtbhfbbfjdklfgaaGreatDoorW.PrintWords Go.Proofs.YtbhfbbfjdklfgaaGreatDoorW.PrintLast Go.Proofs.YtbhfbbfjdklfgaaGreatDoorW.PrintMore
attribute [local go_sem] max2_int min2_int max_two min_two max_three min_three max_four min_four   -- for this text's walks alone

mutual
def commit_Check.j0 : Nat → Bool → ByteArray → List ByteArray → ByteArray → ByteArray → Int → Int → ByteArray → ByteArray → Int → Int → ByteArray → Option (Int)
 | 0, _, _, _, _, _, _, _, _, _, _, _, _ => none
 | k + 1, x33, x102000, x102001, x102002, x102003, x102004, x102005, x102006, x102007, x102008, x102009, x102010 => if x33 = true then (some 1) else (if (x102010.size : Int) > 4096 then (commit_Check.j1 k true x102000 x102001 x102002 x102003 x102004 x102005 x102006 x102007 x102008 x102009 x102010) else (commit_Check.j1 k (decide ((x102001.length : Int) > 8)) x102000 x102001 x102002 x102003 x102004 x102005 x102006 x102007 x102008 x102009 x102010))
def commit_Check.j1 : Nat → Bool → ByteArray → List ByteArray → ByteArray → ByteArray → Int → Int → ByteArray → ByteArray → Int → Int → ByteArray → Option (Int)
 | 0, _, _, _, _, _, _, _, _, _, _, _, _ => none
 | k + 1, x43, x102000, x102001, x102002, x102003, x102004, x102005, x102006, x102007, x102008, x102009, x102010 => if x43 = true then (some 4) else (commit_Check.l0 k x102001 (x102001.length : Int) 0 MSB.nil)
def commit_Check.l0 : Nat → List ByteArray → Int → Int → MSB → Option (Int)
 | 0, _, _, _, _ => none
 | k + 1, x46, x47, x48, x108000 => if x48 < x47 then (if 0 ≤ x48 then (if x48 < (x46.length : Int) then (if (rdOf ByteArray.empty x46 x48).size ≤ 9223372036854775807 then (if MSB.get x108000 (rdOf ByteArray.empty x46 x48) = true then (some 6) else (if x108000.n < 4611686018427387904 then (commit_Check.l0 k x46 x47 (wrap64 (x48 + 1)) (MSB.put x108000 (rdOf ByteArray.empty x46 x48) true)) else (none))) else (none)) else (none)) else (none)) else (some 0)
end
def commit_Check.f (k : Nat) (a0_0 : ByteArray) (l0_1 : List ByteArray) (a0_2 : ByteArray) (a0_3 : ByteArray) (a0_4 : Int) (a0_5 : Int) (a0_6 : ByteArray) (a0_7 : ByteArray) (a0_8 : Int) (a0_9 : Int) (a0_10 : ByteArray) : Option (Int) := (commit_Check_1.f a0_0).bind fun t102 => (if t102 = true then (commit_Check.j0 k true a0_0 l0_1 a0_2 a0_3 a0_4 a0_5 a0_6 a0_7 a0_8 a0_9 a0_10) else ((slices_ContainsFunc_string_string.f k l0_1 (fun z0 => commit_Check_1.f z0)).bind fun t103 => (if t103 = true then (commit_Check.j0 k true a0_0 l0_1 a0_2 a0_3 a0_4 a0_5 a0_6 a0_7 a0_8 a0_9 a0_10) else ((commit_somebody.f k a0_2 a0_3 a0_4 a0_5).bind fun t104 => (if t104 = true then ((commit_somebody.f k a0_6 a0_7 a0_8 a0_9).bind fun t105 => (if t105 = true then ((strings_Contains2.f a0_10 ⟨#[0]⟩).bind fun t106 => (commit_Check.j0 k t106 a0_0 l0_1 a0_2 a0_3 a0_4 a0_5 a0_6 a0_7 a0_8 a0_9 a0_10)) else (commit_Check.j0 k true a0_0 l0_1 a0_2 a0_3 a0_4 a0_5 a0_6 a0_7 a0_8 a0_9 a0_10))) else (commit_Check.j0 k true a0_0 l0_1 a0_2 a0_3 a0_4 a0_5 a0_6 a0_7 a0_8 a0_9 a0_10))))))
theorem commit_Check.mono_l : ∀ k, (∀ y0 y1 y2 y3 y4 y5 y6 y7 y8 y9 y10 y11, LeO (commit_Check.j0 k y0 y1 y2 y3 y4 y5 y6 y7 y8 y9 y10 y11) (commit_Check.j0 (k + 1) y0 y1 y2 y3 y4 y5 y6 y7 y8 y9 y10 y11)) ∧ (∀ y0 y1 y2 y3 y4 y5 y6 y7 y8 y9 y10 y11, LeO (commit_Check.j1 k y0 y1 y2 y3 y4 y5 y6 y7 y8 y9 y10 y11) (commit_Check.j1 (k + 1) y0 y1 y2 y3 y4 y5 y6 y7 y8 y9 y10 y11)) ∧ (∀ y0 y1 y2 y3, LeO (commit_Check.l0 k y0 y1 y2 y3) (commit_Check.l0 (k + 1) y0 y1 y2 y3))
 | 0 => ⟨fun _ _ _ _ _ _ _ _ _ _ _ _ r h => by simp [commit_Check.j0] at h, fun _ _ _ _ _ _ _ _ _ _ _ _ r h => by simp [commit_Check.j1] at h, fun _ _ _ _ r h => by simp [commit_Check.l0] at h⟩
 | k + 1 => by
  obtain ⟨ih0, ih1, ih2⟩ := commit_Check.mono_l k
  refine ⟨?_, ?_, ?_⟩
  ·intro y0 y1 y2 y3 y4 y5 y6 y7 y8 y9 y10 y11
   unfold commit_Check.j0
   have m0_ := @ih0
   have m1_ := @ih1
   have m2_ := @ih2
   have m3_ := @commit_somebody.mono
   have m4_ := @slices_ContainsFunc_string_string.mono
   exact mz_
  ·intro y0 y1 y2 y3 y4 y5 y6 y7 y8 y9 y10 y11
   unfold commit_Check.j1
   have m0_ := @ih0
   have m1_ := @ih1
   have m2_ := @ih2
   have m3_ := @commit_somebody.mono
   have m4_ := @slices_ContainsFunc_string_string.mono
   exact mz_
  ·intro y0 y1 y2 y3
   unfold commit_Check.l0
   have m0_ := @ih0
   have m1_ := @ih1
   have m2_ := @ih2
   have m3_ := @commit_somebody.mono
   have m4_ := @slices_ContainsFunc_string_string.mono
   exact mz_
theorem commit_Check.mono : ∀ a0 a1 a2 a3 a4 a5 a6 a7 a8 a9 a10 k, LeO (commit_Check.f k a0 a1 a2 a3 a4 a5 a6 a7 a8 a9 a10) (commit_Check.f (k + 1) a0 a1 a2 a3 a4 a5 a6 a7 a8 a9 a10) := by
 intro a0 a1 a2 a3 a4 a5 a6 a7 a8 a9 a10 k; obtain ⟨ih0, ih1, ih2⟩ := commit_Check.mono_l k; unfold commit_Check.f; have m0_ := @ih0; have m1_ := @ih1; have m2_ := @ih2; have m3_ := @commit_somebody.mono; have m4_ := @slices_ContainsFunc_string_string.mono; exact mz_
set_option maxHeartbeats 8000000 in
set_option maxRecDepth 100000 in
theorem commit_Check.calls (k : Nat) (a0_0 : ByteArray) (A0_1 : Option Addr) (c0_1 : Nat) (l0_1 : List ByteArray) (a0_2 : ByteArray) (a0_3 : ByteArray) (a0_4 : Int) (a0_5 : Int) (a0_6 : ByteArray) (a0_7 : ByteArray) (a0_8 : Int) (a0_9 : Int) (a0_10 : ByteArray) (r : Int) (w : World) (hr0_1 : Kd.C Kd.string w A0_1 l0_1.length l0_1) (hc0_1 : l0_1.length ≤ c0_1) (hgv : GV w) (h : commit_Check.f k a0_0 l0_1 a0_2 a0_3 a0_4 a0_5 a0_6 a0_7 a0_8 a0_9 a0_10 = some r) :
  Calls Tryz.prog 18 #[.agg #[.string a0_0, .slice A0_1 l0_1.length c0_1, .string a0_2, .string a0_3, .int .i64 a0_4, .int .i64 a0_5, .string a0_6, .string a0_7, .int .i64 a0_8, .int .i64 a0_9, .string a0_10]] w fun e w' => e = .returned (.int .i64 r) ∧ Below w.heap.size w w' := by
 have hu26 := Tryz.underlying26; have hu24 := Tryz.underlying24; have HR0_1 := Aside0.mk hr0_1; have HC0_1 := Aside0.mk hc0_1; clear hr0_1 hc0_1; have HB := Aside0.mk (Below.refl w.heap.size w); unfold commit_Check.f at h; have H := h; clear h; have HC2 := Aside0.mk H; clear H; go_enter Tryz.func18, Tryz.ntmps18; go_upto_region 2 with (first | ((with_reducible refine gate_dst (N := 1) rfl ?_); (try (refine gate_guard (by rfl) ?_; dsimp only)); refine be_ (cs := #[.string a0_0, .slice A0_1 l0_1.length c0_1, .string a0_2, .string a0_3, .int .i64 a0_4, .int .i64 a0_5, .string a0_6, .string a0_7, .int .i64 a0_8, .int .i64 a0_9, .string a0_10]) (t := 26) ?_; intro gb101 hg w3 hbox hb; have BK101 := Aside0.mk (hbox); have GW101 := ag_ hg HB; have GE101 := ag_ hg HB; replace HB := ah_ HB hb; clear hb hbox hg)); (try simp only [Act.put, List.setIfInBounds_toArray, List.set_cons_zero, List.set_cons_succ])
 go_cut [33] (fun v33 wc => ∃ (kq : Nat) (x33_1 : Bool), v33 = .bool x33_1 ∧ Aside0 (commit_Check.j0 kq x33_1 a0_0 l0_1 a0_2 a0_3 a0_4 a0_5 a0_6 a0_7 a0_8 a0_9 a0_10 = some r) ∧ Aside0 (kq ≤ k) ∧ Aside0 (wc.heap[gb101]? = some (.cells #[.string a0_0, (.slice A0_1 l0_1.length c0_1), .string a0_2, .string a0_3, .int .i64 a0_4, .int .i64 a0_5, .string a0_6, .string a0_7, .int .i64 a0_8, .int .i64 a0_9, .string a0_10] 26 (0, 0))) ∧ Aside0 (Below w.heap.size w wc))
 case first =>
  have H := HC2.out; clear HC2; replace H := Option.bind_eq_some_iff.mp H; obtain ⟨t102, A40, H⟩ := H; have A4 := Aside0.mk A40; clear A40; by_cases c5 : t102 = true
  ·subst c5; rw [if_pos rfl] at H; have H' := Aside0.mk H; clear H; obtain ⟨Z6_0, Z6_1, Z6_2, Z6_3, Z6_4, Z6_5, Z6_6, Z6_7, Z6_8, Z6_9, Z6_10, F6_0, F6_1, F6_2, F6_3, F6_4, F6_5, F6_6, F6_7, F6_8, F6_9, F6_10⟩ := bc11 BK101.out; go_wp2_with (first | (refine goesF_ (some 10) rfl rfl (g := 64) (lb := #[]) (fun args w => enters_ Tryz.func64 rfl rfl args w) #[.string a0_0] rfl rfl z8_ #[.string a0_0] (by first | rfl | simp) ?_; (with_reducible refine (commit_Check_1.calls a0_0  true _ A4.out).mono ?_); rintro e w' ⟨rfl, ⟨nd, rfl⟩⟩; refine ⟨_, rfl, ?_⟩)); go_meet
   case rel => exact ⟨_, (true), z1_, H', ⟨z4_⟩, ⟨bk_ BK101.out⟩, ⟨hs_⟩⟩
  replace c5 := Bool.eq_false_iff.mpr c5; subst c5; rw [if_neg nft_] at H; replace H := Option.bind_eq_some_iff.mp H; obtain ⟨t103, A70, H⟩ := H; have A7 := Aside0.mk A70; clear A70; by_cases c8 : t103 = true
  ·subst c8; rw [if_pos rfl] at H; have H' := Aside0.mk H; clear H; obtain ⟨Z9_0, Z9_1, Z9_2, Z9_3, Z9_4, Z9_5, Z9_6, Z9_7, Z9_8, Z9_9, Z9_10, F9_0, F9_1, F9_2, F9_3, F9_4, F9_5, F9_6, F9_7, F9_8, F9_9, F9_10⟩ := bc11 BK101.out; go_wp2_with (first | (refine goesF_ (some 10) rfl rfl (g := 64) (lb := #[]) (fun args w => enters_ Tryz.func64 rfl rfl args w) #[.string a0_0] rfl rfl z8_ #[.string a0_0] (by first | rfl | simp) ?_; (with_reducible refine (commit_Check_1.calls a0_0  false _ A4.out).mono ?_); rintro e w' ⟨rfl, ⟨nd, rfl⟩⟩; refine ⟨_, rfl, ?_⟩) | (go_at_call 66; (with_reducible refine (slices_ContainsFunc_string_string.calls k _ _ l0_1 64 #[] (fun z0 => commit_Check_1.f z0) true _ ?side1 ?side2 ?side3 ?side4 A7.out).mono ?_); (case side1 => repeat (first | exact (Kd.C_below HR0_1.out (hs_)) | (with_reducible refine Kd.C_alloc ?_ _) | (with_reducible refine Kd.C_drewN ?_ _) | (with_reducible refine Kd.C_drew ?_))); (case side2 => exact HC0_1.out); (case side3 => exact fun args w => enters_ Tryz.func64 rfl rfl args w); (case side4 => intro z0_ z1_ W_ hB_ h_; exact (commit_Check_1.calls z0_ z1_ W_  h_).mono (fun e w' hx_ => ⟨hx_.1, hx_.2.below⟩)); rintro e w10 ⟨rfl, hb⟩; replace BK101 := ab_ BK101 hb; replace HB := Aside0.mk (below_step (hs_) hb); (try clear hb); (try clear hb2); (try clear hk); (try clear hi)))
   go_meet
   case rel => exact ⟨_, (true), z1_, H', ⟨z4_⟩, ⟨bk_ BK101.out⟩, ⟨hs_⟩⟩
  replace c8 := Bool.eq_false_iff.mpr c8; subst c8; rw [if_neg nft_] at H; replace H := Option.bind_eq_some_iff.mp H; obtain ⟨t104, A110, H⟩ := H; have A11 := Aside0.mk A110; clear A110; by_cases c12 : t104 = true; rotate_left
  ·replace c12 := Bool.eq_false_iff.mpr c12; subst c12; rw [if_neg nft_] at H; have H' := Aside0.mk H; clear H; obtain ⟨Z29_0, Z29_1, Z29_2, Z29_3, Z29_4, Z29_5, Z29_6, Z29_7, Z29_8, Z29_9, Z29_10, F29_0, F29_1, F29_2, F29_3, F29_4, F29_5, F29_6, F29_7, F29_8, F29_9, F29_10⟩ := bc11 BK101.out; go_wp2_with (first | (refine goesF_ (some 10) rfl rfl (g := 64) (lb := #[]) (fun args w => enters_ Tryz.func64 rfl rfl args w) #[.string a0_0] rfl rfl z8_ #[.string a0_0] (by first | rfl | simp) ?_; (with_reducible refine (commit_Check_1.calls a0_0  false _ A4.out).mono ?_); rintro e w' ⟨rfl, ⟨nd, rfl⟩⟩; refine ⟨_, rfl, ?_⟩) | (go_at_call 66; (with_reducible refine (slices_ContainsFunc_string_string.calls k _ _ l0_1 64 #[] (fun z0 => commit_Check_1.f z0) false _ ?side1 ?side2 ?side3 ?side4 A7.out).mono ?_); (case side1 => repeat (first | exact (Kd.C_below HR0_1.out (hs_)) | (with_reducible refine Kd.C_alloc ?_ _) | (with_reducible refine Kd.C_drewN ?_ _) | (with_reducible refine Kd.C_drew ?_))); (case side2 => exact HC0_1.out); (case side3 => exact fun args w => enters_ Tryz.func64 rfl rfl args w); (case side4 => intro z0_ z1_ W_ hB_ h_; exact (commit_Check_1.calls z0_ z1_ W_  h_).mono (fun e w' hx_ => ⟨hx_.1, hx_.2.below⟩)); rintro e w30 ⟨rfl, hb⟩; replace BK101 := ab_ BK101 hb; replace HB := Aside0.mk (below_step (hs_) hb); (try clear hb); (try clear hb2); (try clear hk); (try clear hi); obtain ⟨Z31_0, Z31_1, Z31_2, Z31_3, Z31_4, Z31_5, Z31_6, Z31_7, Z31_8, Z31_9, Z31_10, F31_0, F31_1, F31_2, F31_3, F31_4, F31_5, F31_6, F31_7, F31_8, F31_9, F31_10⟩ := bc11 BK101.out) | (go_at_call 67; (with_reducible refine (commit_somebody.calls k a0_2 a0_3 a0_4 a0_5 false _ A11.out).mono ?_); rintro e w32 ⟨rfl, hb⟩; replace BK101 := ab_ BK101 hb; replace HB := Aside0.mk (below_step (hs_) hb); (try clear hb); (try clear hb2); (try clear hk); (try clear hi)))
   go_meet
   case rel => exact ⟨_, (true), z1_, H', ⟨z4_⟩, ⟨bk_ BK101.out⟩, ⟨hs_⟩⟩
  subst c12; rw [if_pos rfl] at H; replace H := Option.bind_eq_some_iff.mp H; obtain ⟨t105, A130, H⟩ := H; have A13 := Aside0.mk A130; clear A130; by_cases c14 : t105 = true; rotate_left
  ·replace c14 := Bool.eq_false_iff.mpr c14; subst c14; rw [if_neg nft_] at H; have H' := Aside0.mk H; clear H; obtain ⟨Z23_0, Z23_1, Z23_2, Z23_3, Z23_4, Z23_5, Z23_6, Z23_7, Z23_8, Z23_9, Z23_10, F23_0, F23_1, F23_2, F23_3, F23_4, F23_5, F23_6, F23_7, F23_8, F23_9, F23_10⟩ := bc11 BK101.out; have tk3_ : True := trivial; have tk4_ : True := trivial; go_wp2_with (first | (refine goesF_ (some 10) rfl rfl (g := 64) (lb := #[]) (fun args w => enters_ Tryz.func64 rfl rfl args w) #[.string a0_0] rfl rfl z8_ #[.string a0_0] (by first | rfl | simp) ?_; (with_reducible refine (commit_Check_1.calls a0_0  false _ A4.out).mono ?_); rintro e w' ⟨rfl, ⟨nd, rfl⟩⟩; refine ⟨_, rfl, ?_⟩) | (go_at_call 66; (with_reducible refine (slices_ContainsFunc_string_string.calls k _ _ l0_1 64 #[] (fun z0 => commit_Check_1.f z0) false _ ?side1 ?side2 ?side3 ?side4 A7.out).mono ?_); (case side1 => repeat (first | exact (Kd.C_below HR0_1.out (hs_)) | (with_reducible refine Kd.C_alloc ?_ _) | (with_reducible refine Kd.C_drewN ?_ _) | (with_reducible refine Kd.C_drew ?_))); (case side2 => exact HC0_1.out); (case side3 => exact fun args w => enters_ Tryz.func64 rfl rfl args w); (case side4 => intro z0_ z1_ W_ hB_ h_; exact (commit_Check_1.calls z0_ z1_ W_  h_).mono (fun e w' hx_ => ⟨hx_.1, hx_.2.below⟩)); rintro e w24 ⟨rfl, hb⟩; replace BK101 := ab_ BK101 hb; replace HB := Aside0.mk (below_step (hs_) hb); (try clear hb); (try clear hb2); (try clear hk); (try clear hi); obtain ⟨Z25_0, Z25_1, Z25_2, Z25_3, Z25_4, Z25_5, Z25_6, Z25_7, Z25_8, Z25_9, Z25_10, F25_0, F25_1, F25_2, F25_3, F25_4, F25_5, F25_6, F25_7, F25_8, F25_9, F25_10⟩ := bc11 BK101.out) | (go_at_call 67; have _t := tk3_; (with_reducible refine (commit_somebody.calls k a0_2 a0_3 a0_4 a0_5 true _ A11.out).mono ?_); rintro e w26 ⟨rfl, hb⟩; replace BK101 := ab_ BK101 hb; replace HB := Aside0.mk (below_step (hs_) hb); (try clear hb); (try clear hb2); (try clear hk); (try clear hi); obtain ⟨Z27_0, Z27_1, Z27_2, Z27_3, Z27_4, Z27_5, Z27_6, Z27_7, Z27_8, Z27_9, Z27_10, F27_0, F27_1, F27_2, F27_3, F27_4, F27_5, F27_6, F27_7, F27_8, F27_9, F27_10⟩ := bc11 BK101.out; clear tk3_) | (go_at_call 67; have _t := tk4_; (with_reducible refine (commit_somebody.calls k a0_6 a0_7 a0_8 a0_9 false _ A13.out).mono ?_); rintro e w28 ⟨rfl, hb⟩; replace BK101 := ab_ BK101 hb; replace HB := Aside0.mk (below_step (hs_) hb); (try clear hb); (try clear hb2); (try clear hk); (try clear hi); clear tk4_)); go_meet
   case rel => exact ⟨_, (true), z1_, H', ⟨z4_⟩, ⟨bk_ BK101.out⟩, ⟨hs_⟩⟩
  subst c14; rw [if_pos rfl] at H; replace H := Option.bind_eq_some_iff.mp H; obtain ⟨t106, A150, H⟩ := H; have A15 := Aside0.mk A150; clear A150; have H' := Aside0.mk H; clear H; obtain ⟨Z16_0, Z16_1, Z16_2, Z16_3, Z16_4, Z16_5, Z16_6, Z16_7, Z16_8, Z16_9, Z16_10, F16_0, F16_1, F16_2, F16_3, F16_4, F16_5, F16_6, F16_7, F16_8, F16_9, F16_10⟩ := bc11 BK101.out; have tk1_ : True := trivial; have tk2_ : True := trivial; go_wp2_with (first | (refine goesF_ (some 10) rfl rfl (g := 64) (lb := #[]) (fun args w => enters_ Tryz.func64 rfl rfl args w) #[.string a0_0] rfl rfl z8_ #[.string a0_0] (by first | rfl | simp) ?_; (with_reducible refine (commit_Check_1.calls a0_0  false _ A4.out).mono ?_); rintro e w' ⟨rfl, ⟨nd, rfl⟩⟩; refine ⟨_, rfl, ?_⟩) | (go_at_call 66; (with_reducible refine (slices_ContainsFunc_string_string.calls k _ _ l0_1 64 #[] (fun z0 => commit_Check_1.f z0) false _ ?side1 ?side2 ?side3 ?side4 A7.out).mono ?_); (case side1 => repeat (first | exact (Kd.C_below HR0_1.out (hs_)) | (with_reducible refine Kd.C_alloc ?_ _) | (with_reducible refine Kd.C_drewN ?_ _) | (with_reducible refine Kd.C_drew ?_))); (case side2 => exact HC0_1.out); (case side3 => exact fun args w => enters_ Tryz.func64 rfl rfl args w); (case side4 => intro z0_ z1_ W_ hB_ h_; exact (commit_Check_1.calls z0_ z1_ W_  h_).mono (fun e w' hx_ => ⟨hx_.1, hx_.2.below⟩)); rintro e w17 ⟨rfl, hb⟩; replace BK101 := ab_ BK101 hb; replace HB := Aside0.mk (below_step (hs_) hb); (try clear hb); (try clear hb2); (try clear hk); (try clear hi); obtain ⟨Z18_0, Z18_1, Z18_2, Z18_3, Z18_4, Z18_5, Z18_6, Z18_7, Z18_8, Z18_9, Z18_10, F18_0, F18_1, F18_2, F18_3, F18_4, F18_5, F18_6, F18_7, F18_8, F18_9, F18_10⟩ := bc11 BK101.out) | (go_at_call 67; have _t := tk1_; (with_reducible refine (commit_somebody.calls k a0_2 a0_3 a0_4 a0_5 true _ A11.out).mono ?_); rintro e w19 ⟨rfl, hb⟩; replace BK101 := ab_ BK101 hb; replace HB := Aside0.mk (below_step (hs_) hb); (try clear hb); (try clear hb2); (try clear hk); (try clear hi); obtain ⟨Z20_0, Z20_1, Z20_2, Z20_3, Z20_4, Z20_5, Z20_6, Z20_7, Z20_8, Z20_9, Z20_10, F20_0, F20_1, F20_2, F20_3, F20_4, F20_5, F20_6, F20_7, F20_8, F20_9, F20_10⟩ := bc11 BK101.out; clear tk1_) | (go_at_call 67; have _t := tk2_; (with_reducible refine (commit_somebody.calls k a0_6 a0_7 a0_8 a0_9 true _ A13.out).mono ?_); rintro e w21 ⟨rfl, hb⟩; replace BK101 := ab_ BK101 hb; replace HB := Aside0.mk (below_step (hs_) hb); (try clear hb); (try clear hb2); (try clear hk); (try clear hi); obtain ⟨Z22_0, Z22_1, Z22_2, Z22_3, Z22_4, Z22_5, Z22_6, Z22_7, Z22_8, Z22_9, Z22_10, F22_0, F22_1, F22_2, F22_3, F22_4, F22_5, F22_6, F22_7, F22_8, F22_9, F22_10⟩ := bc11 BK101.out; clear tk2_) | (go_at_call 68; (with_reducible refine (strings_Contains2.calls a0_10 ⟨#[0]⟩ t106 _ ?side1 A15.out).mono ?_); (case side1 => exact GV.below hgv (hs_)); rintro e w' ⟨rfl, ⟨nd, rfl⟩⟩)); go_meet
  case rel => exact ⟨_, (t106), z1_, H', ⟨z4_⟩, ⟨bk_ BK101.out⟩, ⟨hs_⟩⟩
 case rest =>
  clear HC2; try clear c1
  try clear p2
  try clear c5
  try clear c6
  try clear c8
  try clear c12
  try clear c14
  try clear c18
  try clear Z16_0 Z16_1 Z16_10 Z16_2 Z16_3 Z16_4 Z16_5 Z16_6 Z16_7 Z16_8 Z16_9
  try clear Z18_0 Z18_1 Z18_10 Z18_2 Z18_3 Z18_4 Z18_5 Z18_6 Z18_7 Z18_8 Z18_9
  try clear Z20_0 Z20_1 Z20_10 Z20_2 Z20_3 Z20_4 Z20_5 Z20_6 Z20_7 Z20_8 Z20_9
  try clear Z22_0 Z22_1 Z22_10 Z22_2 Z22_3 Z22_4 Z22_5 Z22_6 Z22_7 Z22_8 Z22_9
  try clear Z23_0 Z23_1 Z23_10 Z23_2 Z23_3 Z23_4 Z23_5 Z23_6 Z23_7 Z23_8 Z23_9
  try clear Z25_0 Z25_1 Z25_10 Z25_2 Z25_3 Z25_4 Z25_5 Z25_6 Z25_7 Z25_8 Z25_9
  try clear Z27_0 Z27_1 Z27_10 Z27_2 Z27_3 Z27_4 Z27_5 Z27_6 Z27_7 Z27_8 Z27_9
  try clear Z29_0 Z29_1 Z29_10 Z29_2 Z29_3 Z29_4 Z29_5 Z29_6 Z29_7 Z29_8 Z29_9
  try clear Z31_0 Z31_1 Z31_10 Z31_2 Z31_3 Z31_4 Z31_5 Z31_6 Z31_7 Z31_8 Z31_9
  try clear Z6_0 Z6_1 Z6_10 Z6_2 Z6_3 Z6_4 Z6_5 Z6_6 Z6_7 Z6_8 Z6_9
  try clear Z9_0 Z9_1 Z9_10 Z9_2 Z9_3 Z9_4 Z9_5 Z9_6 Z9_7 Z9_8 Z9_9
  try clear F16_0 F16_1 F16_10 F16_2 F16_3 F16_4 F16_5 F16_6 F16_7 F16_8 F16_9
  try clear F18_0 F18_1 F18_10 F18_2 F18_3 F18_4 F18_5 F18_6 F18_7 F18_8 F18_9
  try clear F20_0 F20_1 F20_10 F20_2 F20_3 F20_4 F20_5 F20_6 F20_7 F20_8 F20_9
  try clear F22_0 F22_1 F22_10 F22_2 F22_3 F22_4 F22_5 F22_6 F22_7 F22_8 F22_9
  try clear F23_0 F23_1 F23_10 F23_2 F23_3 F23_4 F23_5 F23_6 F23_7 F23_8 F23_9
  try clear F25_0 F25_1 F25_10 F25_2 F25_3 F25_4 F25_5 F25_6 F25_7 F25_8 F25_9
  try clear F27_0 F27_1 F27_10 F27_2 F27_3 F27_4 F27_5 F27_6 F27_7 F27_8 F27_9
  try clear F29_0 F29_1 F29_10 F29_2 F29_3 F29_4 F29_5 F29_6 F29_7 F29_8 F29_9
  try clear F31_0 F31_1 F31_10 F31_2 F31_3 F31_4 F31_5 F31_6 F31_7 F31_8 F31_9
  try clear F6_0 F6_1 F6_10 F6_2 F6_3 F6_4 F6_5 F6_6 F6_7 F6_8 F6_9
  try clear F9_0 F9_1 F9_10 F9_2 F9_3 F9_4 F9_5 F9_6 F9_7 F9_8 F9_9
  obtain ⟨kq, x33_1, rfl, HA, HJ1, BK101, HB⟩ := hcut
  cases kq with
  | zero => exact absurd HA.out (by simp [commit_Check.j0])
  | succ kj1 =>
   have H := HA.out; clear HA; simp only [commit_Check.j0] at H; by_cases c33 : x33_1 = true
   ·subst c33; rw [if_pos rfl] at H; obtain rfl := Option.some.inj H; go_wp2
    go_ret
    exact ⟨z3_, hs_⟩
   replace c33 := Bool.eq_false_iff.mpr c33; subst c33; rw [if_neg nft_] at H; have HC34 := Aside0.mk H; clear H; go_upto_region 4 with (fail)
   go_cut [43] (fun v43 wc => ∃ (kq : Nat) (x43_33 : Bool), v43 = .bool x43_33 ∧ Aside0 (commit_Check.j1 kq x43_33 a0_0 l0_1 a0_2 a0_3 a0_4 a0_5 a0_6 a0_7 a0_8 a0_9 a0_10 = some r) ∧ Aside0 (kq ≤ kj1) ∧ Aside0 (wc.heap[gb101]? = some (.cells #[.string a0_0, (.slice A0_1 l0_1.length c0_1), .string a0_2, .string a0_3, .int .i64 a0_4, .int .i64 a0_5, .string a0_6, .string a0_7, .int .i64 a0_8, .int .i64 a0_9, .string a0_10] 26 (0, 0))) ∧ Aside0 (Below w.heap.size w wc))
   case first =>
    have H := HC34.out; clear HC34; by_cases c35 : (a0_10.size : Int) > 4096
    ·rw [if_pos c35] at H; have c35b0 := decide_eq_true c35; have c35b1 : decide (4096 < a0_10.size) = true := decide_eq_true (by omega); clear c35; (first | rw [c35b0] | (simp only [i64_w, i32_w]; rw [c35b0]) | skip); have H' := Aside0.mk H; clear H; obtain ⟨Z36_0, Z36_1, Z36_2, Z36_3, Z36_4, Z36_5, Z36_6, Z36_7, Z36_8, Z36_9, Z36_10, F36_0, F36_1, F36_2, F36_3, F36_4, F36_5, F36_6, F36_7, F36_8, F36_9, F36_10⟩ := bc11 BK101.out; go_wp2
     go_meet
     case rel => exact ⟨_, (true), z1_, H', ⟨by have := HJ1.out; first | omega | exact Nat.le_refl _⟩, ⟨bk_ BK101.out⟩, ⟨hs_⟩⟩
    rw [if_neg c35] at H; have c35b0 := decide_eq_false c35; have c35b1 : decide (4096 < a0_10.size) = false := decide_eq_false (by omega); clear c35; (first | rw [c35b0] | (simp only [i64_w, i32_w]; rw [c35b0]) | skip); have H' := Aside0.mk H; clear H; obtain ⟨Z37_0, Z37_1, Z37_2, Z37_3, Z37_4, Z37_5, Z37_6, Z37_7, Z37_8, Z37_9, Z37_10, F37_0, F37_1, F37_2, F37_3, F37_4, F37_5, F37_6, F37_7, F37_8, F37_9, F37_10⟩ := bc11 BK101.out; go_wp2
    go_meet
    case rel => exact ⟨_, (decide ((l0_1.length : Int) > 8)), z1_, H', ⟨by have := HJ1.out; first | omega | exact Nat.le_refl _⟩, ⟨bk_ BK101.out⟩, ⟨hs_⟩⟩
   case rest =>
    clear HC34; try clear c1
    try clear p2
    try clear c3
    try clear c5
    try clear c6
    try clear c8
    try clear c12
    try clear c14
    try clear c18
    try clear c33
    try clear c35
    try clear c35b0
    try clear c35b1
    try clear Z16_0 Z16_1 Z16_10 Z16_2 Z16_3 Z16_4 Z16_5 Z16_6 Z16_7 Z16_8 Z16_9
    try clear Z18_0 Z18_1 Z18_10 Z18_2 Z18_3 Z18_4 Z18_5 Z18_6 Z18_7 Z18_8 Z18_9
    try clear Z20_0 Z20_1 Z20_10 Z20_2 Z20_3 Z20_4 Z20_5 Z20_6 Z20_7 Z20_8 Z20_9
    try clear Z22_0 Z22_1 Z22_10 Z22_2 Z22_3 Z22_4 Z22_5 Z22_6 Z22_7 Z22_8 Z22_9
    try clear Z23_0 Z23_1 Z23_10 Z23_2 Z23_3 Z23_4 Z23_5 Z23_6 Z23_7 Z23_8 Z23_9
    try clear Z25_0 Z25_1 Z25_10 Z25_2 Z25_3 Z25_4 Z25_5 Z25_6 Z25_7 Z25_8 Z25_9
    try clear Z27_0 Z27_1 Z27_10 Z27_2 Z27_3 Z27_4 Z27_5 Z27_6 Z27_7 Z27_8 Z27_9
    try clear Z29_0 Z29_1 Z29_10 Z29_2 Z29_3 Z29_4 Z29_5 Z29_6 Z29_7 Z29_8 Z29_9
    try clear Z31_0 Z31_1 Z31_10 Z31_2 Z31_3 Z31_4 Z31_5 Z31_6 Z31_7 Z31_8 Z31_9
    try clear Z36_0 Z36_1 Z36_10 Z36_2 Z36_3 Z36_4 Z36_5 Z36_6 Z36_7 Z36_8 Z36_9
    try clear Z37_0 Z37_1 Z37_10 Z37_2 Z37_3 Z37_4 Z37_5 Z37_6 Z37_7 Z37_8 Z37_9
    try clear Z6_0 Z6_1 Z6_10 Z6_2 Z6_3 Z6_4 Z6_5 Z6_6 Z6_7 Z6_8 Z6_9
    try clear Z9_0 Z9_1 Z9_10 Z9_2 Z9_3 Z9_4 Z9_5 Z9_6 Z9_7 Z9_8 Z9_9
    try clear F16_0 F16_1 F16_10 F16_2 F16_3 F16_4 F16_5 F16_6 F16_7 F16_8 F16_9
    try clear F18_0 F18_1 F18_10 F18_2 F18_3 F18_4 F18_5 F18_6 F18_7 F18_8 F18_9
    try clear F20_0 F20_1 F20_10 F20_2 F20_3 F20_4 F20_5 F20_6 F20_7 F20_8 F20_9
    try clear F22_0 F22_1 F22_10 F22_2 F22_3 F22_4 F22_5 F22_6 F22_7 F22_8 F22_9
    try clear F23_0 F23_1 F23_10 F23_2 F23_3 F23_4 F23_5 F23_6 F23_7 F23_8 F23_9
    try clear F25_0 F25_1 F25_10 F25_2 F25_3 F25_4 F25_5 F25_6 F25_7 F25_8 F25_9
    try clear F27_0 F27_1 F27_10 F27_2 F27_3 F27_4 F27_5 F27_6 F27_7 F27_8 F27_9
    try clear F29_0 F29_1 F29_10 F29_2 F29_3 F29_4 F29_5 F29_6 F29_7 F29_8 F29_9
    try clear F31_0 F31_1 F31_10 F31_2 F31_3 F31_4 F31_5 F31_6 F31_7 F31_8 F31_9
    try clear F36_0 F36_1 F36_10 F36_2 F36_3 F36_4 F36_5 F36_6 F36_7 F36_8 F36_9
    try clear F37_0 F37_1 F37_10 F37_2 F37_3 F37_4 F37_5 F37_6 F37_7 F37_8 F37_9
    try clear F6_0 F6_1 F6_10 F6_2 F6_3 F6_4 F6_5 F6_6 F6_7 F6_8 F6_9
    try clear F9_0 F9_1 F9_10 F9_2 F9_3 F9_4 F9_5 F9_6 F9_7 F9_8 F9_9
    try clear p2
    obtain ⟨kq, x43_33, rfl, HA, HJ33, BK101, HB⟩ := hcut
    cases kq with
    | zero => exact absurd HA.out (by simp [commit_Check.j1])
    | succ kj33 =>
     have H := HA.out; clear HA; simp only [commit_Check.j1] at H; by_cases c38 : x43_33 = true
     ·subst c38; rw [if_pos rfl] at H; obtain rfl := Option.some.inj H; go_wp2
      go_ret
      exact ⟨z3_, hs_⟩
     replace c38 := Bool.eq_false_iff.mpr c38; subst c38; rw [if_neg nft_] at H; have H' := Aside0.mk H; clear H; go_wp2_with (first | ((with_reducible refine gate_dst (N := 44) rfl ?_); (try (refine gate_guard (by rfl) ?_; dsimp only)); refine mkmapB_event rfl (N := 44) rfl rfl ?_; intro gb107 hg w39 hbox hb; have HI107 := Aside0.mk (IsS84.made hbox (by rw [hg]; exact (below_size (hs_)) : w.heap.size ≤ gb107)); replace HB := Aside0.mk (below_step (hs_) hb); have NB101_107 := Aside0.mk (nl2_ hg BK101.out); have NB107_101 := Aside0.mk (ng2_ hg BK101.out); replace BK101 := ab_ BK101 hb; clear hb hbox hg; have hnb40 := NB101_107.out; have hnc40 := NB107_101.out; obtain ⟨Z41_0, Z41_1, Z41_2, Z41_3, Z41_4, Z41_5, Z41_6, Z41_7, Z41_8, Z41_9, Z41_10, F41_0, F41_1, F41_2, F41_3, F41_4, F41_5, F41_6, F41_7, F41_8, F41_9, F41_10⟩ := bc11 BK101.out)); go_loopg [48] kj33 (fun kq v48 w' => ∃ (x48_3 : Int) (x108000_3 : MSB), v48 = .int .i64 x48_3 ∧ Aside0 (commit_Check.l0 kq l0_1 (l0_1.length : Int) x48_3 x108000_3 = some r) ∧ Aside0 (kq ≤ kj33) ∧ Aside0 (w'.heap[gb101]? = some (.cells #[.string a0_0, (.slice A0_1 l0_1.length c0_1), .string a0_2, .string a0_3, .int .i64 a0_4, .int .i64 a0_5, .string a0_6, .string a0_7, .int .i64 a0_8, .int .i64 a0_9, .string a0_10] 26 (0, 0))) ∧ Aside0 (IsS84 w w' gb107 x108000_3) ∧ Aside0 (Below w.heap.size w w'))
     case atStart => exact ⟨(0), (MSB.nil), z1_, H', ⟨Nat.le_refl _⟩, ⟨bk_ BK101.out⟩, ⟨z29_⟩, ⟨z27_⟩⟩
     case round =>
      clear H'; try clear c1
      try clear p2
      try clear c3
      try clear c4
      try clear c5
      try clear c6
      try clear c8
      try clear c12
      try clear c14
      try clear c18
      try clear c33
      try clear c35
      try clear c35b0
      try clear c35b1
      try clear c38
      try clear c40
      try clear Z16_0 Z16_1 Z16_10 Z16_2 Z16_3 Z16_4 Z16_5 Z16_6 Z16_7 Z16_8 Z16_9
      try clear Z18_0 Z18_1 Z18_10 Z18_2 Z18_3 Z18_4 Z18_5 Z18_6 Z18_7 Z18_8 Z18_9
      try clear Z20_0 Z20_1 Z20_10 Z20_2 Z20_3 Z20_4 Z20_5 Z20_6 Z20_7 Z20_8 Z20_9
      try clear Z22_0 Z22_1 Z22_10 Z22_2 Z22_3 Z22_4 Z22_5 Z22_6 Z22_7 Z22_8 Z22_9
      try clear Z23_0 Z23_1 Z23_10 Z23_2 Z23_3 Z23_4 Z23_5 Z23_6 Z23_7 Z23_8 Z23_9
      try clear Z25_0 Z25_1 Z25_10 Z25_2 Z25_3 Z25_4 Z25_5 Z25_6 Z25_7 Z25_8 Z25_9
      try clear Z27_0 Z27_1 Z27_10 Z27_2 Z27_3 Z27_4 Z27_5 Z27_6 Z27_7 Z27_8 Z27_9
      try clear Z29_0 Z29_1 Z29_10 Z29_2 Z29_3 Z29_4 Z29_5 Z29_6 Z29_7 Z29_8 Z29_9
      try clear Z31_0 Z31_1 Z31_10 Z31_2 Z31_3 Z31_4 Z31_5 Z31_6 Z31_7 Z31_8 Z31_9
      try clear Z36_0 Z36_1 Z36_10 Z36_2 Z36_3 Z36_4 Z36_5 Z36_6 Z36_7 Z36_8 Z36_9
      try clear Z37_0 Z37_1 Z37_10 Z37_2 Z37_3 Z37_4 Z37_5 Z37_6 Z37_7 Z37_8 Z37_9
      try clear Z41_0 Z41_1 Z41_10 Z41_2 Z41_3 Z41_4 Z41_5 Z41_6 Z41_7 Z41_8 Z41_9
      try clear Z6_0 Z6_1 Z6_10 Z6_2 Z6_3 Z6_4 Z6_5 Z6_6 Z6_7 Z6_8 Z6_9
      try clear Z9_0 Z9_1 Z9_10 Z9_2 Z9_3 Z9_4 Z9_5 Z9_6 Z9_7 Z9_8 Z9_9
      try clear F16_0 F16_1 F16_10 F16_2 F16_3 F16_4 F16_5 F16_6 F16_7 F16_8 F16_9
      try clear F18_0 F18_1 F18_10 F18_2 F18_3 F18_4 F18_5 F18_6 F18_7 F18_8 F18_9
      try clear F20_0 F20_1 F20_10 F20_2 F20_3 F20_4 F20_5 F20_6 F20_7 F20_8 F20_9
      try clear F22_0 F22_1 F22_10 F22_2 F22_3 F22_4 F22_5 F22_6 F22_7 F22_8 F22_9
      try clear F23_0 F23_1 F23_10 F23_2 F23_3 F23_4 F23_5 F23_6 F23_7 F23_8 F23_9
      try clear F25_0 F25_1 F25_10 F25_2 F25_3 F25_4 F25_5 F25_6 F25_7 F25_8 F25_9
      try clear F27_0 F27_1 F27_10 F27_2 F27_3 F27_4 F27_5 F27_6 F27_7 F27_8 F27_9
      try clear F29_0 F29_1 F29_10 F29_2 F29_3 F29_4 F29_5 F29_6 F29_7 F29_8 F29_9
      try clear F31_0 F31_1 F31_10 F31_2 F31_3 F31_4 F31_5 F31_6 F31_7 F31_8 F31_9
      try clear F36_0 F36_1 F36_10 F36_2 F36_3 F36_4 F36_5 F36_6 F36_7 F36_8 F36_9
      try clear F37_0 F37_1 F37_10 F37_2 F37_3 F37_4 F37_5 F37_6 F37_7 F37_8 F37_9
      try clear F41_0 F41_1 F41_10 F41_2 F41_3 F41_4 F41_5 F41_6 F41_7 F41_8 F41_9
      try clear F6_0 F6_1 F6_10 F6_2 F6_3 F6_4 F6_5 F6_6 F6_7 F6_8 F6_9
      try clear F9_0 F9_1 F9_10 F9_2 F9_3 F9_4 F9_5 F9_6 F9_7 F9_8 F9_9
      try clear p2
      obtain ⟨x48_3, x108000_3, rfl, HA, HK3, BK101, HI107, HB⟩ := hrel
      cases gk with
      | zero => exact absurd HA.out (by simp [commit_Check.l0])
      | succ k3 =>
       have H := HA.out; clear HA; simp only [commit_Check.l0] at H; by_cases c42 : x48_3 < (l0_1.length : Int); rotate_left
       ·rw [if_neg c42] at H; have c42b0 := decide_eq_false c42; clear c42; obtain rfl := Option.some.inj H; go_wp2
        go_ret
        exact ⟨z3_, z27_⟩
       rw [if_pos c42] at H; have c42b0 := decide_eq_true c42; clear c42; by_cases c43 : 0 ≤ x48_3; rotate_left
       ·rw [if_neg c43] at H; exact absurd H (by simp)
       rw [if_pos c43] at H; have c43b0 := decide_eq_true c43; clear c43; by_cases c44 : x48_3 < (l0_1.length : Int); rotate_left
       ·rw [if_neg c44] at H; exact absurd H (by simp)
       rw [if_pos c44] at H; have c44b0 := decide_eq_true c44; clear c44; by_cases c45 : (rdOf ByteArray.empty l0_1 x48_3).size ≤ 9223372036854775807; rotate_left
       ·rw [if_neg c45] at H; exact absurd H (by simp)
       rw [if_pos c45] at H; have c45b0 := eq_true c45; have c45b1 := decide_eq_true c45; try have c45b2 := nl_ c45
       clear c45; by_cases c46 : MSB.get x108000_3 (rdOf ByteArray.empty l0_1 x48_3) = true
       ·rw [if_pos c46] at H; have c46b0 : MSB.get x108000_3 (rdOf ByteArray.empty l0_1 x48_3) = true := c46; clear c46; obtain rfl := Option.some.inj H; have p108 : 0 ≤ (x48_3 : Int) := of_decide_eq_true z0_; have q108 : x48_3 < (l0_1.length : Int) := of_decide_eq_true z0_; obtain ⟨ad108, e108, hx108_0⟩ := Kd.at_string HR0_1.out x48_3 p108 q108
        cases e108
        replace hx108_0 := (HB.out.cell (World.block_lt_of_cell? w _ hx108_0)).trans hx108_0; replace p108 := eq_true p108; replace q108 := eq_true q108; go_wp2_with (first | ((with_reducible refine gate_dst (N := 54) rfl ?_); (try (refine gate_guard (by rfl) ?_; dsimp only)); refine IsS84.look (show IsS84 w _ gb107 x108000_3 from z29_) rfl rfl rfl rfl (of_decide_eq_true z0_ : (rdOf ByteArray.empty l0_1 x48_3).size ≤ 9223372036854775807) (by first | (with_reducible assumption) | exact rfl) ?_)); go_ret
        exact ⟨z3_, z27_⟩
       rw [if_neg c46] at H; have c46b0 : MSB.get x108000_3 (rdOf ByteArray.empty l0_1 x48_3) = false := by simpa using c46
       clear c46; have c47b0 := eq_true (of_decide_eq_true z0_ : (rdOf ByteArray.empty l0_1 x48_3).size ≤ 9223372036854775807); by_cases c48 : x108000_3.n < 4611686018427387904; rotate_left
       ·rw [if_neg c48] at H; exact absurd H (by simp)
       rw [if_pos c48] at H; have c48b0 := eq_true c48; have c48b1 := decide_eq_true c48; clear c48; have H' := Aside0.mk H; clear H; have p108 : 0 ≤ (x48_3 : Int) := of_decide_eq_true z0_; have q108 : x48_3 < (l0_1.length : Int) := of_decide_eq_true z0_; obtain ⟨ad108, e108, hx108_0⟩ := Kd.at_string HR0_1.out x48_3 p108 q108
       cases e108
       replace hx108_0 := (HB.out.cell (World.block_lt_of_cell? w _ hx108_0)).trans hx108_0; replace p108 := eq_true p108; replace q108 := eq_true q108; go_wp2_with (first | ((with_reducible refine gate_dst (N := 54) rfl ?_); (try (refine gate_guard (by rfl) ?_; dsimp only)); refine IsS84.look (show IsS84 w _ gb107 x108000_3 from z29_) rfl rfl rfl rfl (of_decide_eq_true z0_ : (rdOf ByteArray.empty l0_1 x48_3).size ≤ 9223372036854775807) (by first | (with_reducible assumption) | exact rfl) ?_) | (at_mapUpdate; refine IsS84.put_ (k := (rdOf ByteArray.empty l0_1 x48_3)) (n := true) (show IsS84 w _ gb107 x108000_3 from z29_) rfl rfl rfl rfl rfl (of_decide_eq_true z0_ : (rdOf ByteArray.empty l0_1 x48_3).size ≤ 9223372036854775807) (of_decide_eq_true z0_ : x108000_3.n < 4611686018427387904) trivial ?_; intro w49 hi hg; replace BK101 := Aside0.mk (blk_grown (g := gb101) (o := .cells #[.string a0_0, .slice (some ad108) l0_1.length c0_1, .string a0_2, .string a0_3, .int .i64 a0_4, .int .i64 a0_5, .string a0_6, .string a0_7, .int .i64 a0_8, .int .i64 a0_9, .string a0_10] 26 (0, 0)) (bk_ BK101.out) hg (fun e_ => NB101_107.out (Option.some.inj e_))); replace HB := Aside0.mk (Below.grown z27_ hg ((below_size z27_)) (fun k_ e_ => (Option.some.inj e_) ▸ (IsS84.ge hi))); replace HI107 := Aside0.mk (hi); clear hi hg)); go_roundg k3
       case measure => have := HJ1.out; have := HJ33.out; have := HK3.out; omega
       case rel => exact ⟨(wrap64 (x48_3 + 1)), (MSB.put x108000_3 (rdOf ByteArray.empty l0_1 x48_3) true), z1_, H', ⟨by have := HJ1.out; have := HJ33.out; have := HK3.out; omega⟩, ⟨bk_ BK101.out⟩, ⟨z29_⟩, ⟨z27_⟩⟩


def commit_Body.l0 : Nat → ByteArray → List ByteArray → Int → Int → ByteArray → List ByteArray → ByteArray → ByteArray → Int → Int → ByteArray → ByteArray → Int → Int → ByteArray → Option (ByteArray × Int)
 | 0, _, _, _, _, _, _, _, _, _, _, _, _, _, _, _ => none
 | k + 1, x5, x18, x19, x20, x102000, x102001, x102002, x102003, x102004, x102005, x102006, x102007, x102008, x102009, x102010 => if x20 < x19 then (if 0 ≤ x20 then (if x20 < (x18.length : Int) then (if 7 + (rdOf ByteArray.empty x18 x20).size ≤ 9223372036854775807 then (if ((⟨#[112, 97, 114, 101, 110, 116, 32]⟩ : ByteArray) ++ (rdOf ByteArray.empty x18 x20)).size + 1 ≤ 9223372036854775807 then (if x5.size + (((⟨#[112, 97, 114, 101, 110, 116, 32]⟩ : ByteArray) ++ (rdOf ByteArray.empty x18 x20)) ++ (⟨#[10]⟩ : ByteArray)).size ≤ 9223372036854775807 then (commit_Body.l0 k (x5 ++ (((⟨#[112, 97, 114, 101, 110, 116, 32]⟩ : ByteArray) ++ (rdOf ByteArray.empty x18 x20)) ++ (⟨#[10]⟩ : ByteArray))) x18 x19 (wrap64 (x20 + 1)) x102000 x102001 x102002 x102003 x102004 x102005 x102006 x102007 x102008 x102009 x102010) else (none)) else (none)) else (none)) else (none)) else (none)) else (if x5.size + 7 ≤ 9223372036854775807 then ((commit_Who.f x102002 x102003 x102004 x102005).bind fun t104 => (if (x5 ++ (⟨#[97, 117, 116, 104, 111, 114, 32]⟩ : ByteArray)).size + t104.size ≤ 9223372036854775807 then (if ((x5 ++ (⟨#[97, 117, 116, 104, 111, 114, 32]⟩ : ByteArray)) ++ t104).size + 11 ≤ 9223372036854775807 then ((commit_Who.f x102006 x102007 x102008 x102009).bind fun t105 => (if (((x5 ++ (⟨#[97, 117, 116, 104, 111, 114, 32]⟩ : ByteArray)) ++ t104) ++ (⟨#[10, 99, 111, 109, 109, 105, 116, 116, 101, 114, 32]⟩ : ByteArray)).size + t105.size ≤ 9223372036854775807 then (if ((((x5 ++ (⟨#[97, 117, 116, 104, 111, 114, 32]⟩ : ByteArray)) ++ t104) ++ (⟨#[10, 99, 111, 109, 109, 105, 116, 116, 101, 114, 32]⟩ : ByteArray)) ++ t105).size + 2 ≤ 9223372036854775807 then (if (((((x5 ++ (⟨#[97, 117, 116, 104, 111, 114, 32]⟩ : ByteArray)) ++ t104) ++ (⟨#[10, 99, 111, 109, 109, 105, 116, 116, 101, 114, 32]⟩ : ByteArray)) ++ t105) ++ (⟨#[10, 10]⟩ : ByteArray)).size + x102010.size ≤ 9223372036854775807 then (some ((((((x5 ++ (⟨#[97, 117, 116, 104, 111, 114, 32]⟩ : ByteArray)) ++ t104) ++ (⟨#[10, 99, 111, 109, 109, 105, 116, 116, 101, 114, 32]⟩ : ByteArray)) ++ t105) ++ (⟨#[10, 10]⟩ : ByteArray)) ++ x102010, 0)) else (none)) else (none)) else (none))) else (none)) else (none))) else (none))
def commit_Body.f (k : Nat) (a0_0 : ByteArray) (l0_1 : List ByteArray) (a0_2 : ByteArray) (a0_3 : ByteArray) (a0_4 : Int) (a0_5 : Int) (a0_6 : ByteArray) (a0_7 : ByteArray) (a0_8 : Int) (a0_9 : Int) (a0_10 : ByteArray) : Option (ByteArray × Int) := (commit_Check.f k a0_0 l0_1 a0_2 a0_3 a0_4 a0_5 a0_6 a0_7 a0_8 a0_9 a0_10).bind fun t102 => (if t102 = 0 then (if 5 + a0_0.size ≤ 9223372036854775807 then (if ((⟨#[116, 114, 101, 101, 32]⟩ : ByteArray) ++ a0_0).size + 1 ≤ 9223372036854775807 then (commit_Body.l0 k (((⟨#[116, 114, 101, 101, 32]⟩ : ByteArray) ++ a0_0) ++ (⟨#[10]⟩ : ByteArray)) l0_1 (l0_1.length : Int) 0 a0_0 l0_1 a0_2 a0_3 a0_4 a0_5 a0_6 a0_7 a0_8 a0_9 a0_10) else (none)) else (none)) else (some ((⟨#[]⟩ : ByteArray), t102)))
theorem commit_Body.mono_l : ∀ k, (∀ y0 y1 y2 y3 y4 y5 y6 y7 y8 y9 y10 y11 y12 y13 y14, LeO (commit_Body.l0 k y0 y1 y2 y3 y4 y5 y6 y7 y8 y9 y10 y11 y12 y13 y14) (commit_Body.l0 (k + 1) y0 y1 y2 y3 y4 y5 y6 y7 y8 y9 y10 y11 y12 y13 y14))
 | 0 => fun _ _ _ _ _ _ _ _ _ _ _ _ _ _ _ r h => by simp [commit_Body.l0] at h
 | k + 1 => by
  have ih0 := commit_Body.mono_l k
  ·intro y0 y1 y2 y3 y4 y5 y6 y7 y8 y9 y10 y11 y12 y13 y14
   unfold commit_Body.l0
   have m0_ := @ih0
   have m1_ := @commit_Check.mono
   exact mz_
theorem commit_Body.mono : ∀ a0 a1 a2 a3 a4 a5 a6 a7 a8 a9 a10 k, LeO (commit_Body.f k a0 a1 a2 a3 a4 a5 a6 a7 a8 a9 a10) (commit_Body.f (k + 1) a0 a1 a2 a3 a4 a5 a6 a7 a8 a9 a10) := by
 intro a0 a1 a2 a3 a4 a5 a6 a7 a8 a9 a10 k; have ih0 := commit_Body.mono_l k; unfold commit_Body.f; have m0_ := @ih0; have m1_ := @commit_Check.mono; exact mz_
def commit_Body.T10 : Bool × List (List Nat × List Nat) := (true, [([], []), ([0], [0]), ([], []), ([2], [2]), ([3], [3]), ([1, 4], [1, 4]), ([5], [5]), ([], []), ([7], [7]), ([8, 4], [8]), ([6, 9], [6, 9]), ([10], [10]), ([], []), ([12], [12]), ([11, 13], [11, 13]), ([14, 9, 0, 1, 2, 3, 4, 5, 6, 7, 8, 9, 10, 11, 12, 13, 14], [14]), ([15, 0, 1, 2, 3, 4, 5, 6, 7, 8, 9, 10, 11, 12, 13, 14, 15], [])])
def commit_Body.B10 : List Nat := [0, 1, 0, 4, 12, 31, 63, 0, 128, 412, 1023, 2047, 0, 4096, 16383, 32767, 65535]
theorem commit_Body.tab10 : rtab .any (opsOf Tryz.f16 10) = commit_Body.T10 := by kernel_rfl
theorem commit_Body.bits10 : waitsOk commit_Body.T10.2 commit_Body.B10 = true := by kernel_rfl
set_option maxHeartbeats 8000000 in
set_option maxRecDepth 100000 in
theorem commit_Body.calls (k : Nat) (a0_0 : ByteArray) (A0_1 : Option Addr) (c0_1 : Nat) (l0_1 : List ByteArray) (a0_2 : ByteArray) (a0_3 : ByteArray) (a0_4 : Int) (a0_5 : Int) (a0_6 : ByteArray) (a0_7 : ByteArray) (a0_8 : Int) (a0_9 : Int) (a0_10 : ByteArray) (r1 : ByteArray) (r2 : Int) (w : World) (hr0_1 : Kd.C Kd.string w A0_1 l0_1.length l0_1) (hc0_1 : l0_1.length ≤ c0_1) (hgv : GV w) (h : commit_Body.f k a0_0 l0_1 a0_2 a0_3 a0_4 a0_5 a0_6 a0_7 a0_8 a0_9 a0_10 = some (r1, r2)) :
  Calls Tryz.prog 16 #[.agg #[.string a0_0, .slice A0_1 l0_1.length c0_1, .string a0_2, .string a0_3, .int .i64 a0_4, .int .i64 a0_5, .string a0_6, .string a0_7, .int .i64 a0_8, .int .i64 a0_9, .string a0_10]] w fun e w' => e = .returned (.tuple #[.string r1, .int .i64 r2]) ∧ Below w.heap.size w w' := by
 have hu26 := Tryz.underlying26; have hu24 := Tryz.underlying24; have HR0_1 := Aside0.mk hr0_1; have HC0_1 := Aside0.mk hc0_1; clear hr0_1 hc0_1; have HB := Aside0.mk (Below.refl w.heap.size w); unfold commit_Body.f at h; have H := h; clear h; replace H := Option.bind_eq_some_iff.mp H; obtain ⟨t102, A20, H⟩ := H; have A2 := Aside0.mk A20; clear A20; by_cases c3 : t102 = 0; rotate_left
 ·rw [if_neg c3] at H; have c3b0 := beq_eq_false_iff_ne.mpr c3; have c3b1 := bne_iff_ne.mpr c3; simp only [Option.some.injEq, Prod.mk.injEq] at H; obtain ⟨rfl, rfl⟩ := H; go_enter Tryz.func16, Tryz.ntmps16; go_wp2_with (first | ((with_reducible refine gate_dst (N := 1) rfl ?_); refine be_ (cs := #[.string a0_0, .slice A0_1 l0_1.length c0_1, .string a0_2, .string a0_3, .int .i64 a0_4, .int .i64 a0_5, .string a0_6, .string a0_7, .int .i64 a0_8, .int .i64 a0_9, .string a0_10]) (t := 26) ?_; intro gb101 hg w27 hbox hb; have BK101 := Aside0.mk (hbox); have GW101 := ag_ hg HB; have GE101 := ag_ hg HB; replace HB := ah_ HB hb; clear hb hbox hg; obtain ⟨Z28_0, Z28_1, Z28_2, Z28_3, Z28_4, Z28_5, Z28_6, Z28_7, Z28_8, Z28_9, Z28_10, F28_0, F28_1, F28_2, F28_3, F28_4, F28_5, F28_6, F28_7, F28_8, F28_9, F28_10⟩ := bc11 BK101.out) | ((with_reducible refine gate_callee (f := 18) rfl ?_); refine gl_ (some 9) Tryz.func18 #[.agg #[.string a0_0, .slice A0_1 l0_1.length c0_1, .string a0_2, .string a0_3, .int .i64 a0_4, .int .i64 a0_5, .string a0_6, .string a0_7, .int .i64 a0_8, .int .i64 a0_9, .string a0_10]] ?_; (with_reducible refine (commit_Check.calls k a0_0 _ _ l0_1 a0_2 a0_3 a0_4 a0_5 a0_6 a0_7 a0_8 a0_9 a0_10 t102 _ ?side1 ?side2 ?side3 A2.out).mono ?_); (case side1 => repeat (first | exact (Kd.C_below HR0_1.out HB.out) | (with_reducible refine Kd.C_alloc ?_ _) | (with_reducible refine Kd.C_drewN ?_ _) | (with_reducible refine Kd.C_drew ?_))); (case side2 => exact HC0_1.out); (case side3 => exact GV.below hgv (hs_)); rintro e w29 ⟨rfl, hb⟩; refine ⟨_, rfl, ?_⟩; replace BK101 := ab_ BK101 hb; replace HB := Aside0.mk (below_step (hs_) hb); (try clear hb); (try clear hb2); (try clear hk); (try clear hi)))
  go_ret2
  exact ⟨z3_, hs_⟩
 rw [if_pos c3] at H; have c3b0 := beq_iff_eq.mpr c3; have c3b1 := bne_eq_false_iff_eq.mpr c3; clear c3; by_cases c4 : 5 + a0_0.size ≤ 9223372036854775807; rotate_left
 ·rw [if_neg c4] at H; exact absurd H (by simp)
 rw [if_pos c4] at H; have c4b0 := eq_true c4; have c4b1 := decide_eq_true c4; try have c4b2 := nl_ c4
 by_cases c5 : ((⟨#[116, 114, 101, 101, 32]⟩ : ByteArray) ++ a0_0).size + 1 ≤ 9223372036854775807; rotate_left
 ·rw [if_neg c5] at H; exact absurd H (by simp)
 rw [if_pos c5] at H; have c5b0 := eq_true c5; have c5b1 := decide_eq_true c5; try have c5b3 : (9223372036854775807 < 5 + a0_0.size + 1) = False := have h_ := c5; ns_
 try have c5b2 := nl_ c5
 have H' := Aside0.mk H; clear H; go_enter Tryz.func16, Tryz.ntmps16; go_wp2_with (first | ((with_reducible refine gate_dst (N := 1) rfl ?_); refine be_ (cs := #[.string a0_0, .slice A0_1 l0_1.length c0_1, .string a0_2, .string a0_3, .int .i64 a0_4, .int .i64 a0_5, .string a0_6, .string a0_7, .int .i64 a0_8, .int .i64 a0_9, .string a0_10]) (t := 26) ?_; intro gb101 hg w6 hbox hb; have BK101 := Aside0.mk (hbox); have GW101 := ag_ hg HB; have GE101 := ag_ hg HB; replace HB := ah_ HB hb; clear hb hbox hg; obtain ⟨Z7_0, Z7_1, Z7_2, Z7_3, Z7_4, Z7_5, Z7_6, Z7_7, Z7_8, Z7_9, Z7_10, F7_0, F7_1, F7_2, F7_3, F7_4, F7_5, F7_6, F7_7, F7_8, F7_9, F7_10⟩ := bc11 BK101.out) | ((with_reducible refine gate_callee (f := 18) rfl ?_); refine gl_ (some 9) Tryz.func18 #[.agg #[.string a0_0, .slice A0_1 l0_1.length c0_1, .string a0_2, .string a0_3, .int .i64 a0_4, .int .i64 a0_5, .string a0_6, .string a0_7, .int .i64 a0_8, .int .i64 a0_9, .string a0_10]] ?_; (with_reducible refine (commit_Check.calls k a0_0 _ _ l0_1 a0_2 a0_3 a0_4 a0_5 a0_6 a0_7 a0_8 a0_9 a0_10 t102 _ ?side1 ?side2 ?side3 A2.out).mono ?_); (case side1 => repeat (first | exact (Kd.C_below HR0_1.out HB.out) | (with_reducible refine Kd.C_alloc ?_ _) | (with_reducible refine Kd.C_drewN ?_ _) | (with_reducible refine Kd.C_drew ?_))); (case side2 => exact HC0_1.out); (case side3 => exact GV.below hgv (hs_)); rintro e w8 ⟨rfl, hb⟩; refine ⟨_, rfl, ?_⟩; replace BK101 := ab_ BK101 hb; replace HB := Aside0.mk (below_step (hs_) hb); (try clear hb); (try clear hb2); (try clear hk); (try clear hi); obtain ⟨Z9_0, Z9_1, Z9_2, Z9_3, Z9_4, Z9_5, Z9_6, Z9_7, Z9_8, Z9_9, Z9_10, F9_0, F9_1, F9_2, F9_3, F9_4, F9_5, F9_6, F9_7, F9_8, F9_9, F9_10⟩ := bc11 BK101.out)); go_loopg [5, 20] k (fun kq v5 v20 w' => ∃ (x5_1 : ByteArray) (x20_1 : Int), v5 = .string x5_1 ∧ v20 = .int .i64 x20_1 ∧ Aside0 (commit_Body.l0 kq x5_1 l0_1 (l0_1.length : Int) x20_1 a0_0 l0_1 a0_2 a0_3 a0_4 a0_5 a0_6 a0_7 a0_8 a0_9 a0_10 = some (r1, r2)) ∧ Aside0 (kq ≤ k) ∧ Aside0 (w'.heap[gb101]? = some (.cells #[.string a0_0, (.slice A0_1 l0_1.length c0_1), .string a0_2, .string a0_3, .int .i64 a0_4, .int .i64 a0_5, .string a0_6, .string a0_7, .int .i64 a0_8, .int .i64 a0_9, .string a0_10] 26 (0, 0))) ∧ Aside0 (Below w.heap.size w w'))
 case atStart => exact ⟨(((⟨#[116, 114, 101, 101, 32]⟩ : ByteArray) ++ a0_0) ++ (⟨#[10]⟩ : ByteArray)), (0), z1_, z1_, H', ⟨Nat.le_refl _⟩, ⟨bk_ BK101.out⟩, ⟨hs_⟩⟩
 case round =>
  clear H'; try clear c1
  try clear p2
  try clear c3
  try clear c3b0
  try clear c3b1
  try clear c4
  try clear c4b0
  try clear c4b1
  try clear c4b2
  try clear c5
  try clear c5b0
  try clear c5b1
  try clear c5b2
  try clear Z7_0 Z7_1 Z7_10 Z7_2 Z7_3 Z7_4 Z7_5 Z7_6 Z7_7 Z7_8 Z7_9
  try clear Z9_0 Z9_1 Z9_10 Z9_2 Z9_3 Z9_4 Z9_5 Z9_6 Z9_7 Z9_8 Z9_9
  try clear F7_0 F7_1 F7_10 F7_2 F7_3 F7_4 F7_5 F7_6 F7_7 F7_8 F7_9
  try clear F9_0 F9_1 F9_10 F9_2 F9_3 F9_4 F9_5 F9_6 F9_7 F9_8 F9_9
  obtain ⟨x5_1, x20_1, rfl, rfl, HA, HK1, BK101, HB⟩ := hrel
  cases gk with
  | zero => exact absurd HA.out (by simp [commit_Body.l0])
  | succ k1 =>
   have H := HA.out; clear HA; simp only [commit_Body.l0] at H; by_cases c10 : x20_1 < (l0_1.length : Int)
   ·rw [if_pos c10] at H; have c10b0 := decide_eq_true c10; clear c10; by_cases c11 : 0 ≤ x20_1; rotate_left
    ·rw [if_neg c11] at H; exact absurd H (by simp)
    rw [if_pos c11] at H; have c11b0 := decide_eq_true c11; clear c11; by_cases c12 : x20_1 < (l0_1.length : Int); rotate_left
    ·rw [if_neg c12] at H; exact absurd H (by simp)
    rw [if_pos c12] at H; have c12b0 := decide_eq_true c12; clear c12; by_cases c13 : 7 + (rdOf ByteArray.empty l0_1 x20_1).size ≤ 9223372036854775807; rotate_left
    ·rw [if_neg c13] at H; exact absurd H (by simp)
    rw [if_pos c13] at H; have c13b0 := eq_true c13; have c13b1 := decide_eq_true c13; try have c13b2 := nl_ c13
    by_cases c14 : ((⟨#[112, 97, 114, 101, 110, 116, 32]⟩ : ByteArray) ++ (rdOf ByteArray.empty l0_1 x20_1)).size + 1 ≤ 9223372036854775807; rotate_left
    ·rw [if_neg c14] at H; exact absurd H (by simp)
    rw [if_pos c14] at H; have c14b0 := eq_true c14; have c14b1 := decide_eq_true c14; try have c14b3 : (9223372036854775807 < 7 + (rdOf ByteArray.empty l0_1 x20_1).size + 1) = False := have h_ := c14; ns_
    try have c14b2 := nl_ c14
    by_cases c15 : x5_1.size + (((⟨#[112, 97, 114, 101, 110, 116, 32]⟩ : ByteArray) ++ (rdOf ByteArray.empty l0_1 x20_1)) ++ (⟨#[10]⟩ : ByteArray)).size ≤ 9223372036854775807; rotate_left
    ·rw [if_neg c15] at H; exact absurd H (by simp)
    rw [if_pos c15] at H; have c15b0 := eq_true c15; have c15b1 := decide_eq_true c15; try have c15b3 : (9223372036854775807 < x5_1.size + (7 + (rdOf ByteArray.empty l0_1 x20_1).size + 1)) = False := have h_ := c15; ns_
    try have c15b2 := nl_ c15
    have H' := Aside0.mk H; clear H; have p103 : 0 ≤ (x20_1 : Int) := of_decide_eq_true z0_; have q103 : x20_1 < (l0_1.length : Int) := of_decide_eq_true z0_; obtain ⟨ad103, e103, hx103_0⟩ := Kd.at_string HR0_1.out x20_1 p103 q103
    cases e103
    replace hx103_0 := (HB.out.cell (World.block_lt_of_cell? w _ hx103_0)).trans hx103_0; replace p103 := eq_true p103; replace q103 := eq_true q103; go_wp2
    go_roundg k1
    case measure => have := HK1.out; omega
    case rel => exact ⟨(x5_1 ++ (((⟨#[112, 97, 114, 101, 110, 116, 32]⟩ : ByteArray) ++ (rdOf ByteArray.empty l0_1 x20_1)) ++ (⟨#[10]⟩ : ByteArray))), (wrap64 (x20_1 + 1)), z1_, z1_, H', ⟨by have := HK1.out; omega⟩, ⟨bk_ BK101.out⟩, ⟨hs_⟩⟩
   rw [if_neg c10] at H; have c10b0 := decide_eq_false c10; clear c10; by_cases c16 : x5_1.size + 7 ≤ 9223372036854775807; rotate_left
   ·rw [if_neg c16] at H; exact absurd H (by simp)
   rw [if_pos c16] at H; have c16b0 := eq_true c16; have c16b1 := decide_eq_true c16; try have c16b2 := nl_ c16
   replace H := Option.bind_eq_some_iff.mp H; obtain ⟨t104, A170, H⟩ := H; have A17 := Aside0.mk A170; clear A170; by_cases c18 : (x5_1 ++ (⟨#[97, 117, 116, 104, 111, 114, 32]⟩ : ByteArray)).size + t104.size ≤ 9223372036854775807; rotate_left
   ·rw [if_neg c18] at H; exact absurd H (by simp)
   rw [if_pos c18] at H; have c18b0 := eq_true c18; have c18b1 := decide_eq_true c18; try have c18b3 : (9223372036854775807 < x5_1.size + 7 + t104.size) = False := have h_ := c18; ns_
   try have c18b2 := nl_ c18
   by_cases c19 : ((x5_1 ++ (⟨#[97, 117, 116, 104, 111, 114, 32]⟩ : ByteArray)) ++ t104).size + 11 ≤ 9223372036854775807; rotate_left
   ·rw [if_neg c19] at H; exact absurd H (by simp)
   rw [if_pos c19] at H; have c19b0 := eq_true c19; have c19b1 := decide_eq_true c19; try have c19b3 : (9223372036854775807 < x5_1.size + 7 + t104.size + 11) = False := have h_ := c19; ns_
   try have c19b2 := nl_ c19
   replace H := Option.bind_eq_some_iff.mp H; obtain ⟨t105, A200, H⟩ := H; have A20 := Aside0.mk A200; clear A200; by_cases c21 : (((x5_1 ++ (⟨#[97, 117, 116, 104, 111, 114, 32]⟩ : ByteArray)) ++ t104) ++ (⟨#[10, 99, 111, 109, 109, 105, 116, 116, 101, 114, 32]⟩ : ByteArray)).size + t105.size ≤ 9223372036854775807; rotate_left
   ·rw [if_neg c21] at H; exact absurd H (by simp)
   rw [if_pos c21] at H; have c21b0 := eq_true c21; have c21b1 := decide_eq_true c21; try have c21b3 : (9223372036854775807 < x5_1.size + 7 + t104.size + 11 + t105.size) = False := have h_ := c21; ns_
   try have c21b2 := nl_ c21
   by_cases c22 : ((((x5_1 ++ (⟨#[97, 117, 116, 104, 111, 114, 32]⟩ : ByteArray)) ++ t104) ++ (⟨#[10, 99, 111, 109, 109, 105, 116, 116, 101, 114, 32]⟩ : ByteArray)) ++ t105).size + 2 ≤ 9223372036854775807; rotate_left
   ·rw [if_neg c22] at H; exact absurd H (by simp)
   rw [if_pos c22] at H; have c22b0 := eq_true c22; have c22b1 := decide_eq_true c22; try have c22b3 : (9223372036854775807 < x5_1.size + 7 + t104.size + 11 + t105.size + 2) = False := have h_ := c22; ns_
   try have c22b2 := nl_ c22
   by_cases c23 : (((((x5_1 ++ (⟨#[97, 117, 116, 104, 111, 114, 32]⟩ : ByteArray)) ++ t104) ++ (⟨#[10, 99, 111, 109, 109, 105, 116, 116, 101, 114, 32]⟩ : ByteArray)) ++ t105) ++ (⟨#[10, 10]⟩ : ByteArray)).size + a0_10.size ≤ 9223372036854775807; rotate_left
   ·rw [if_neg c23] at H; exact absurd H (by simp)
   rw [if_pos c23] at H; have c23b0 := eq_true c23; have c23b1 := decide_eq_true c23; try have c23b3 : (9223372036854775807 < x5_1.size + 7 + t104.size + 11 + t105.size + 2 + a0_10.size) = False := have h_ := c23; ns_
   try have c23b2 := nl_ c23
   simp only [Option.some.injEq, Prod.mk.injEq] at H; obtain ⟨rfl, rfl⟩ := H; try go_wp2
   replace BK101 := Aside0.mk (blk_drew BK101.out); replace HB := Aside0.mk (below_drew1 HB.out); refine start_ (n := 17) (S := fun w' => w'.cell? ⟨gb101, 0, none⟩ = some (.string a0_0) ∧ w'.cell? ⟨gb101, 1, none⟩ = some (.slice A0_1 l0_1.length c0_1) ∧ w'.cell? ⟨gb101, 2, none⟩ = some (.string a0_2) ∧ w'.cell? ⟨gb101, 3, none⟩ = some (.string a0_3) ∧ w'.cell? ⟨gb101, 4, none⟩ = some (.int .i64 a0_4) ∧ w'.cell? ⟨gb101, 5, none⟩ = some (.int .i64 a0_5) ∧ w'.cell? ⟨gb101, 6, none⟩ = some (.string a0_6) ∧ w'.cell? ⟨gb101, 7, none⟩ = some (.string a0_7) ∧ w'.cell? ⟨gb101, 8, none⟩ = some (.int .i64 a0_8) ∧ w'.cell? ⟨gb101, 9, none⟩ = some (.int .i64 a0_9) ∧ w'.cell? ⟨gb101, 10, none⟩ = some (.string a0_10)) (ds := []) (bs 17 0) (by kernel_rfl) rfl rfl ⟨(blk_cell BK101.out 0).trans rfl, (blk_cell BK101.out 1).trans rfl, (blk_cell BK101.out 2).trans rfl, (blk_cell BK101.out 3).trans rfl, (blk_cell BK101.out 4).trans rfl, (blk_cell BK101.out 5).trans rfl, (blk_cell BK101.out 6).trans rfl, (blk_cell BK101.out 7).trans rfl, (blk_cell BK101.out 8).trans rfl, (blk_cell BK101.out 9).trans rfl, (blk_cell BK101.out 10).trans rfl⟩ (fun hHeld => ?_); refine with_tabW commit_Body.tab10 commit_Body.bits10 (fun HT_ HW_ => ?_); generalize wr.drew = w24 at BK101 HB hHeld ⊢; refine pu_ (i := 0) (N := some 30) (bs 17 1) rfl rfl ?_; refine pu_ (i := 1) (N := some 31) (bs 17 3) rfl rfl ?_; refine pu_ (i := 2) (N := some 32) (bs 17 7) rfl rfl ?_; refine pu_ (i := 7) (N := some 37) (bs 17 135) rfl rfl ?_; refine pu_ (i := 12) (N := some 42) (bs 17 4231) rfl rfl ?_; refine tkW11_ (i := 3) (N := some 33) (bs 17 4239) rfl rfl hHeld ?_; refine tkW11_ (i := 8) (N := some 38) (bs 17 4495) rfl rfl hHeld ?_; refine tkW11_ (i := 13) (N := some 43) (bs 17 12687) rfl rfl hHeld ?_; refine one_ (i := 4) (N := some 34) (bs 17 12703) rfl rfl (one_of HT_.out (by kernel_rfl)) (by decide) (fun K hK => ?_); refine goes_ Tryz.func31 (by kernel_rfl) rfl #[.agg #[.string a0_2, .string a0_3, .int .i64 a0_4, .int .i64 a0_5]] (by rfl) rfl rfl z5_ ?_
   with_reducible refine (commit_Who.calls a0_2 a0_3 a0_4 a0_5 t104 _ ?side1 A17.out).mono ?_
   (case side1 => exact GV.below hgv (hs_))
   rintro e w25 ⟨rfl, hb⟩; refine ⟨_, rfl, ?_⟩; replace BK101 := ab_ BK101 hb; replace HB := Aside0.mk (below_step (hs_) hb); (try clear hb)
   (try clear hb2)
   (try clear hk)
   (try clear hi)
   refine hK.out _ _ ⟨(blk_cell BK101.out 0).trans rfl, (blk_cell BK101.out 1).trans rfl, (blk_cell BK101.out 2).trans rfl, (blk_cell BK101.out 3).trans rfl, (blk_cell BK101.out 4).trans rfl, (blk_cell BK101.out 5).trans rfl, (blk_cell BK101.out 6).trans rfl, (blk_cell BK101.out 7).trans rfl, (blk_cell BK101.out 8).trans rfl, (blk_cell BK101.out 9).trans rfl, (blk_cell BK101.out 10).trans rfl⟩ (fun hHeld => ?_); clear hK K; refine norm_ (a' := ?_) ?_ ?_; rotate_left
   ·show Act.put _ (some 34) _ = _
    simp only [Act.put, List.setIfInBounds_toArray, List.set_cons_zero, List.set_cons_succ, i64_w, i32_w]; rfl
   refine pu_ (i := 5) (N := some 35) (bs 17 12735) rfl rfl ?_; refine pu_ (i := 6) (N := some 36) (bs 17 12799) rfl rfl ?_; refine one_ (i := 9) (N := some 39) (bs 17 13311) rfl rfl (one_of HT_.out (by kernel_rfl)) (by decide) (fun K hK => ?_); refine goes_ Tryz.func31 (by kernel_rfl) rfl #[.agg #[.string a0_6, .string a0_7, .int .i64 a0_8, .int .i64 a0_9]] (by rfl) rfl rfl z5_ ?_
   with_reducible refine (commit_Who.calls a0_6 a0_7 a0_8 a0_9 t105 _ ?side1 A20.out).mono ?_
   (case side1 => exact GV.below hgv (hs_))
   rintro e w26 ⟨rfl, hb⟩; refine ⟨_, rfl, ?_⟩; replace BK101 := ab_ BK101 hb; replace HB := Aside0.mk (below_step (hs_) hb); (try clear hb)
   (try clear hb2)
   (try clear hk)
   (try clear hi)
   refine hK.out _ _ ⟨(blk_cell BK101.out 0).trans rfl, (blk_cell BK101.out 1).trans rfl, (blk_cell BK101.out 2).trans rfl, (blk_cell BK101.out 3).trans rfl, (blk_cell BK101.out 4).trans rfl, (blk_cell BK101.out 5).trans rfl, (blk_cell BK101.out 6).trans rfl, (blk_cell BK101.out 7).trans rfl, (blk_cell BK101.out 8).trans rfl, (blk_cell BK101.out 9).trans rfl, (blk_cell BK101.out 10).trans rfl⟩ (fun hHeld => ?_); clear hK K; refine norm_ (a' := ?_) ?_ ?_; rotate_left
   ·show Act.put _ (some 39) _ = _
    simp only [Act.put, List.setIfInBounds_toArray, List.set_cons_zero, List.set_cons_succ, i64_w, i32_w]; rfl
   refine pu_ (i := 10) (N := some 40) (bs 17 14335) rfl rfl ?_; refine pu_ (i := 11) (N := some 41) (bs 17 16383) rfl rfl ?_; refine pu_ (i := 14) (N := some 44) (bs 17 32767) rfl rfl ?_; refine pu_ (i := 15) (N := some 2) (bs 17 65535) rfl rfl ?_; refine pu_ (i := 16) (N := some 3) (bs 17 131071) rfl rfl ?_; refine done_ (done_of HT_.out (by kernel_rfl)) ?_; try go_wp2
   go_ret2
   exact ⟨z3_, hs_⟩


/-- A state of type 87 at block g of W; what its slices lead to came in by w0. -/
def IsS87 (w0 W : World) (g : Nat) (f0 : ByteArray) (f1 : Int) : Prop := W.heap[g]? = some (.cells #[.string f0, .int .i64 f1] 87 (0, 0)) ∧ w0.heap.size ≤ g
theorem IsS87.grown {w0 W : World} {g : Nat} {f0 : ByteArray} {f1 : Int} {W1 : World} {row : Option Nat} (h : IsS87 w0 W g f0 f1) (hw : W.grownBy W1 row) (hne : some g ≠ row) : IsS87 w0 W1 g f0 f1 := by
 obtain ⟨hb, hg⟩ := h; exact ⟨blk_grown hb hw hne, hg⟩
theorem IsS87.fresh {w0 W : World} {g : Nat} {f0 : ByteArray} {f1 : Int} (h : IsS87 w0 W g f0 f1) : ∀ k, W.heap.size ≤ k → k ≠ g := by
 obtain ⟨hb, hg⟩ := h; exact Kd.freshB hb
theorem IsS87.kept {w0 W : World} {g : Nat} {f0 : ByteArray} {f1 : Int} {W1 : World} {S : Nat → Prop} (h : IsS87 w0 W g f0 f1) (hk : Kept W W1 S) (hne : ¬ S g) : IsS87 w0 W1 g f0 f1 := by
 obtain ⟨hb, hg⟩ := h; exact ⟨blk_kept hb hk hne, hg⟩
theorem IsS87.below {w0 W : World} {g : Nat} {f0 : ByteArray} {f1 : Int} {W1 : World} (h : IsS87 w0 W g f0 f1) (hw : Below W.heap.size W W1) : IsS87 w0 W1 g f0 f1 := h.grown (grown_of_below hw none) (by simp)
theorem IsS87.alloc {w0 W : World} {g : Nat} {f0 : ByteArray} {f1 : Int} (h : IsS87 w0 W g f0 f1) (o : Obj) : IsS87 w0 (W.alloc o) g f0 f1 := h.below (below_alloc (Below.refl _ _) o)
theorem IsS87.drewN {w0 W : World} {g : Nat} {f0 : ByteArray} {f1 : Int} (h : IsS87 w0 W g f0 f1) (m : Nat) : IsS87 w0 (W.drewN m) g f0 f1 := h
theorem IsS87.drew {w0 W : World} {g : Nat} {f0 : ByteArray} {f1 : Int} (h : IsS87 w0 W g f0 f1) : IsS87 w0 W.drew g f0 f1 := h
theorem IsS87.at_ {w0 W : World} {g : Nat} {f0 : ByteArray} {f1 : Int} {w' : World} {m : Nat} (hq : W.drewN m = w') (h : IsS87 w0 W g f0 f1) : IsS87 w0 w' g f0 f1 := by subst hq; exact IsS87.drewN h m
theorem IsS87.apart {w0 W : World} {g : Nat} {f0 : ByteArray} {f1 : Int} {α : Type} {d : Kd α} {e : Nat} {base : Nat} {ok : Nat → Prop} {v : Value} {xs : List α} (h : IsS87 w0 W g f0 f1) (ho : d.R e W base ok v xs) (ht : ∀ q, q ∈ e :: d.E → q ≠ 87) : d.R e W base (fun k => ok k ∧ k ≠ g) v xs := by
 obtain ⟨hb, hg⟩ := h; exact Kd.R_types ho hb ht
theorem IsS87.own_ne {w0 W : World} {g : Nat} {f0 : ByteArray} {f1 : Int} {α : Type} {d : Kd α} {e : Nat} {base : Nat} {ok : Nat → Prop} {v : Value} {xs : List α} (h : IsS87 w0 W g f0 f1) (ho : d.R e W base ok v xs) (ht : e ≠ 87) : some g ≠ v.ownBlock := by
 obtain ⟨hb, hg⟩ := h; exact Kd.R_ne ho hb ht
theorem IsS87.lt {w0 W : World} {g : Nat} {f0 : ByteArray} {f1 : Int} (h : IsS87 w0 W g f0 f1) : g < W.heap.size := by
 obtain ⟨hb, hg⟩ := h; exact blk_lt hb
theorem IsS87.ge {w0 W : World} {g : Nat} {f0 : ByteArray} {f1 : Int} (h : IsS87 w0 W g f0 f1) : w0.heap.size ≤ g := by
 obtain ⟨hb, hg⟩ := h; exact hg
theorem IsS87.far {w0 W : World} {g : Nat} {f0 : ByteArray} {f1 : Int} {p : Addr} (h : IsS87 w0 W g f0 f1) (hne : g ≠ p.block) (u : Value) : IsS87 w0 (W.setCell p u) g f0 f1 := by
 obtain ⟨hb, hg⟩ := h; exact ⟨blk_far hb hne u, hg⟩
theorem cellS87_0 {W : World} {g : Nat} {f0 : ByteArray} {f1 : Int} (h : W.heap[g]? = some (.cells #[.string f0, .int .i64 f1] 87 (0, 0))) : W.cell? ⟨g, 0, none⟩ = some (.string f0) := (blk_cell h 0).trans rfl
theorem IsS87.set_0 {w0 W : World} {g : Nat} {f0 : ByteArray} {f1 : Int} (h : IsS87 w0 W g f0 f1) (x : ByteArray) : IsS87 w0 (W.setCell ⟨g, 0, none⟩ (.string x)) g x f1 := by
 obtain ⟨hb, hg⟩ := h; exact ⟨by simpa using blk_set hb 0 (.string x), hg⟩
theorem cellS87_1 {W : World} {g : Nat} {f0 : ByteArray} {f1 : Int} (h : W.heap[g]? = some (.cells #[.string f0, .int .i64 f1] 87 (0, 0))) : W.cell? ⟨g, 1, none⟩ = some (.int .i64 f1) := (blk_cell h 1).trans rfl
theorem IsS87.set_1 {w0 W : World} {g : Nat} {f0 : ByteArray} {f1 : Int} (h : IsS87 w0 W g f0 f1) (x : Int) : IsS87 w0 (W.setCell ⟨g, 1, none⟩ (.int .i64 x)) g f0 x := by
 obtain ⟨hb, hg⟩ := h; exact ⟨by simpa using blk_set hb 1 (.int .i64 x), hg⟩
theorem IsS87.new (w0 W : World) (f0 : ByteArray) (f1 : Int) (hB : Below w0.heap.size w0 W) : IsS87 w0 (W.alloc (.cells #[.string f0, .int .i64 f1] 87)) W.heap.size f0 f1 := ⟨by simpa using heap_alloc_new W _, hB.size⟩

def commit_reader_fail.f (s0_0 : ByteArray) (s0_1 : Int) (a1 : Int) : Option (ByteArray × Int) := if s0_1 = 0 then (some (s0_0, a1)) else (if a1 = 2 then (some (s0_0, a1)) else (some (s0_0, s0_1)))
set_option maxHeartbeats 8000000 in
set_option maxRecDepth 100000 in
theorem commit_reader_fail.calls (g : Nat) (s0_0 : ByteArray) (s0_1 : Int) (a1 : Int) (r1 : ByteArray) (r2 : Int) (w0 w : World) (hI : IsS87 w0 w g s0_0 s0_1) (hB : Below w0.heap.size w0 w) (h : commit_reader_fail.f s0_0 s0_1 a1 = some (r1, r2)) :
  Calls Tryz.prog 74 #[.pointer (some ⟨g, 0, none⟩), .int .i64 a1] w fun e w' => e = .returned (.tuple #[]) ∧ IsS87 w0 w' g r1 r2 ∧ Below w0.heap.size w0 w' ∧ KeepBut w w' g none := by
 have HI0 := Aside0.mk hI; have HK := Aside0.mk (KeepBut.refl w g none); have HL := Aside0.mk hB.size; clear hI; have HW0 := Aside0.mk hB.size; have HB := Aside0.mk hB; clear hB; unfold commit_reader_fail.f at h; have H := h; clear h; by_cases c3 : s0_1 = 0
 ·rw [if_pos c3] at H; have c3b0 := beq_iff_eq.mpr c3; have c3b1 := bne_eq_false_iff_eq.mpr c3; clear c3; simp only [Option.some.injEq, Prod.mk.injEq] at H; obtain ⟨rfl, rfl⟩ := H; obtain ⟨HGz4, hgz4⟩ := HI0.out; have Z4_0 := cellS87_0 HGz4; have Z4_1 := cellS87_1 HGz4; have F4_0 := blk_frozen HGz4 0; have F4_1 := blk_frozen HGz4 1; clear HGz4 hgz4; go_enter Tryz.func74, Tryz.ntmps74; go_wp2
  first | go_end0 | ((try simp only [Exit.inBlock, Exit.then]); refine bodyPost_ret (results_none rfl _ _ _) rfl ?_)
  exact ⟨z3_, z11_, z12_, z7_⟩
 rw [if_neg c3] at H; have c3b0 := beq_eq_false_iff_ne.mpr c3; have c3b1 := bne_iff_ne.mpr c3; by_cases c5 : a1 = 2; rotate_left
 ·rw [if_neg c5] at H; have c5b0 := beq_eq_false_iff_ne.mpr c5; have c5b1 := bne_iff_ne.mpr c5; simp only [Option.some.injEq, Prod.mk.injEq] at H; obtain ⟨rfl, rfl⟩ := H; obtain ⟨HGz7, hgz7⟩ := HI0.out; have Z7_0 := cellS87_0 HGz7; have Z7_1 := cellS87_1 HGz7; have F7_0 := blk_frozen HGz7 0; have F7_1 := blk_frozen HGz7 1; clear HGz7 hgz7; go_enter Tryz.func74, Tryz.ntmps74; go_wp2
  first | go_end0 | ((try simp only [Exit.inBlock, Exit.then]); refine bodyPost_ret (results_none rfl _ _ _) rfl ?_)
  exact ⟨z3_, z11_, z12_, z7_⟩
 rw [if_pos c5] at H; have c5b0 := beq_iff_eq.mpr c5; have c5b1 := bne_eq_false_iff_eq.mpr c5; clear c5; simp only [Option.some.injEq, Prod.mk.injEq] at H; obtain ⟨rfl, rfl⟩ := H; obtain ⟨HGz6, hgz6⟩ := HI0.out; have Z6_0 := cellS87_0 HGz6; have Z6_1 := cellS87_1 HGz6; have F6_0 := blk_frozen HGz6 0; have F6_1 := blk_frozen HGz6 1; clear HGz6 hgz6; go_enter Tryz.func74, Tryz.ntmps74; go_wp2
 first | go_end0 | ((try simp only [Exit.inBlock, Exit.then]); refine bodyPost_ret (results_none rfl _ _ _) rfl ?_)
 exact ⟨z3_, z11_, z12_, z7_⟩


def stringslite_HasPrefix.f (a0 : ByteArray) (a1 : ByteArray) : Option (Bool) := if (a0.size : Int) ≥ (a1.size : Int) then (if 0 ≤ (a1.size : Int) then (if (a1.size : Int) ≤ (a0.size : Int) then (some ((a0.extract 0 a1.size).toList == a1.toList)) else (none)) else (none)) else (some false)
set_option maxHeartbeats 8000000 in
set_option maxRecDepth 100000 in
theorem stringslite_HasPrefix.calls (a0 : ByteArray) (a1 : ByteArray) (r : Bool) (w : World) (h : stringslite_HasPrefix.f a0 a1 = some r) :
  Calls Tryz.prog 141 #[.string a0, .string a1] w fun e w' => e = .returned (.bool r) ∧ Drawn0 w w' := by
 unfold stringslite_HasPrefix.f at h; have H := h; clear h; by_cases c3 : (a0.size : Int) ≥ (a1.size : Int); rotate_left
 ·rw [if_neg c3] at H; have c3b0 := decide_eq_false c3; have c3b1 : decide (a1.size ≤ a0.size) = false := decide_eq_false (fun h => c3 (Int.ofNat_le.mpr h)); clear c3; obtain rfl := Option.some.inj H; go_enter Tryz.func141, Tryz.ntmps141; go_wp2
  go_ret
  exact ⟨z1_, z2_⟩
 rw [if_pos c3] at H; have c3b0 := decide_eq_true c3; have c3b1 : decide (a1.size ≤ a0.size) = true := decide_eq_true (Int.ofNat_le.mp c3); clear c3; by_cases c4 : 0 ≤ (a1.size : Int); rotate_left
 ·rw [if_neg c4] at H; exact absurd H (by simp)
 rw [if_pos c4] at H; have c4b0 := eq_true c4; have c4b1 := decide_eq_true c4; clear c4; by_cases c5 : (a1.size : Int) ≤ (a0.size : Int); rotate_left
 ·rw [if_neg c5] at H; exact absurd H (by simp)
 rw [if_pos c5] at H; have c5b0 := eq_true c5; have c5b1 := decide_eq_true c5; clear c5; obtain rfl := Option.some.inj H; go_enter Tryz.func141, Tryz.ntmps141; go_wp2
 go_ret
 exact ⟨z1_, z2_⟩


def strings_HasPrefix.f (a0 : ByteArray) (a1 : ByteArray) : Option (Bool) := (stringslite_HasPrefix.f a0 a1).bind fun t192 => (some t192)
set_option maxHeartbeats 8000000 in
set_option maxRecDepth 100000 in
theorem strings_HasPrefix.calls (a0 : ByteArray) (a1 : ByteArray) (r : Bool) (w : World) (h : strings_HasPrefix.f a0 a1 = some r) :
  Calls Tryz.prog 71 #[.string a0, .string a1] w fun e w' => e = .returned (.bool r) ∧ Drawn0 w w' := by
 unfold strings_HasPrefix.f at h; have H := h; clear h; replace H := Option.bind_eq_some_iff.mp H; obtain ⟨t192, A30, H⟩ := H; have A3 := Aside0.mk A30; clear A30; obtain rfl := Option.some.inj H; go_enter Tryz.func71, Tryz.ntmps71; go_wp2_with (first | ((with_reducible refine gate_callee (f := 141) rfl ?_); refine gl_ (some 7) Tryz.func141 #[.string a0, .string a1] ?_; (with_reducible refine (stringslite_HasPrefix.calls a0 a1 t192 _ A3.out).mono ?_); rintro e w' ⟨rfl, ⟨nd, rfl⟩⟩; refine ⟨_, rfl, ?_⟩)); go_ret
 exact ⟨z1_, z2_⟩


def stringslite_CutPrefix.f (a0 : ByteArray) (a1 : ByteArray) : Option (ByteArray × Bool) := (stringslite_HasPrefix.f a0 a1).bind fun t193 => (if t193 = true then (if 0 ≤ (a1.size : Int) then (if (a1.size : Int) ≤ (a0.size : Int) then (some (a0.extract a1.size a0.size, true)) else (none)) else (none)) else (some (a0, false)))
set_option maxHeartbeats 8000000 in
set_option maxRecDepth 100000 in
theorem stringslite_CutPrefix.calls (a0 : ByteArray) (a1 : ByteArray) (r1 : ByteArray) (r2 : Bool) (w : World) (h : stringslite_CutPrefix.f a0 a1 = some (r1, r2)) :
  Calls Tryz.prog 183 #[.string a0, .string a1] w fun e w' => e = .returned (.tuple #[.string r1, .bool r2]) ∧ Drawn0 w w' := by
 unfold stringslite_CutPrefix.f at h; have H := h; clear h; replace H := Option.bind_eq_some_iff.mp H; obtain ⟨t193, A30, H⟩ := H; have A3 := Aside0.mk A30; clear A30; by_cases c4 : t193 = true; rotate_left
 ·replace c4 := Bool.eq_false_iff.mpr c4; subst c4; rw [if_neg nft_] at H; simp only [Option.some.injEq, Prod.mk.injEq] at H; obtain ⟨rfl, rfl⟩ := H; go_enter Tryz.func183, Tryz.ntmps183; go_wp2_with (first | ((with_reducible refine gate_callee (f := 141) rfl ?_); refine gl_ (some 8) Tryz.func141 #[.string a0, .string a1] ?_; (with_reducible refine (stringslite_HasPrefix.calls a0 a1 false _ A3.out).mono ?_); rintro e w' ⟨rfl, ⟨nd, rfl⟩⟩; refine ⟨_, rfl, ?_⟩)); go_ret2
  exact ⟨z1_, z2_⟩
 subst c4; rw [if_pos rfl] at H; by_cases c5 : 0 ≤ (a1.size : Int); rotate_left
 ·rw [if_neg c5] at H; exact absurd H (by simp)
 rw [if_pos c5] at H; have c5b0 := eq_true c5; have c5b1 := decide_eq_true c5; clear c5; by_cases c6 : (a1.size : Int) ≤ (a0.size : Int); rotate_left
 ·rw [if_neg c6] at H; exact absurd H (by simp)
 rw [if_pos c6] at H; have c6b0 := eq_true c6; have c6b1 := decide_eq_true c6; clear c6; simp only [Option.some.injEq, Prod.mk.injEq] at H; obtain ⟨rfl, rfl⟩ := H; go_enter Tryz.func183, Tryz.ntmps183; go_wp2_with (first | ((with_reducible refine gate_callee (f := 141) rfl ?_); refine gl_ (some 8) Tryz.func141 #[.string a0, .string a1] ?_; (with_reducible refine (stringslite_HasPrefix.calls a0 a1 true _ A3.out).mono ?_); rintro e w' ⟨rfl, ⟨nd, rfl⟩⟩; refine ⟨_, rfl, ?_⟩)); go_ret2
 exact ⟨z1_, z2_⟩


def strings_CutPrefix.f (a0 : ByteArray) (a1 : ByteArray) : Option (ByteArray × Bool) := (stringslite_CutPrefix.f a0 a1).bind fun bt194 => (some (bt194.1, bt194.2))
set_option maxHeartbeats 8000000 in
set_option maxRecDepth 100000 in
theorem strings_CutPrefix.calls (a0 : ByteArray) (a1 : ByteArray) (r1 : ByteArray) (r2 : Bool) (w : World) (h : strings_CutPrefix.f a0 a1 = some (r1, r2)) :
  Calls Tryz.prog 142 #[.string a0, .string a1] w fun e w' => e = .returned (.tuple #[.string r1, .bool r2]) ∧ Drawn0 w w' := by
 unfold strings_CutPrefix.f at h; have H := h; clear h; replace H := Option.bind_eq_some_iff.mp H; obtain ⟨⟨t194, t195⟩, A30, H⟩ := H; dsimp only at H; have A3 := Aside0.mk A30; clear A30; simp only [Option.some.injEq, Prod.mk.injEq] at H; obtain ⟨rfl, rfl⟩ := H; go_enter Tryz.func142, Tryz.ntmps142; go_wp2_with (first | ((with_reducible refine gate_callee (f := 183) rfl ?_); refine gl_ (some 8) Tryz.func183 #[.string a0, .string a1] ?_; (with_reducible refine (stringslite_CutPrefix.calls a0 a1 t194 t195 _ A3.out).mono ?_); rintro e w' ⟨rfl, ⟨nd, rfl⟩⟩; refine ⟨_, rfl, ?_⟩)); go_ret2
 exact ⟨z1_, z2_⟩


def commit_reader_line.f (s0_0 : ByteArray) (s0_1 : Int) (a1 : ByteArray) : Option (ByteArray × ByteArray × Int) := (strings_Cut.f s0_0 ⟨#[10]⟩).bind fun bt106 => ((strings_CutPrefix.f bt106.1 a1).bind fun bt109 => (if bt106.2.2 = true then (if bt109.2 = true then (some (bt109.1, bt106.2.1, s0_1)) else ((commit_reader_fail.f s0_0 s0_1 2).bind fun bt111 => (some ((⟨#[]⟩ : ByteArray), bt111.1, bt111.2)))) else ((commit_reader_fail.f s0_0 s0_1 2).bind fun bt113 => (some ((⟨#[]⟩ : ByteArray), bt113.1, bt113.2)))))
set_option maxHeartbeats 8000000 in
set_option maxRecDepth 100000 in
theorem commit_reader_line.calls (g : Nat) (s0_0 : ByteArray) (s0_1 : Int) (a1 : ByteArray) (r1 : ByteArray) (r2 : ByteArray) (r3 : Int) (w0 w : World) (hI : IsS87 w0 w g s0_0 s0_1) (hB : Below w0.heap.size w0 w) (hgv : GV w0) (h : commit_reader_line.f s0_0 s0_1 a1 = some (r1, r2, r3)) :
  Calls Tryz.prog 73 #[.pointer (some ⟨g, 0, none⟩), .string a1] w fun e w' => e = .returned (.string r1) ∧ IsS87 w0 w' g r2 r3 ∧ Below w0.heap.size w0 w' ∧ KeepBut w w' g none := by
 have HI0 := Aside0.mk hI; have HK := Aside0.mk (KeepBut.refl w g none); have HL := Aside0.mk hB.size; clear hI; have HW0 := Aside0.mk hB.size; have HB := Aside0.mk hB; clear hB; unfold commit_reader_line.f at h; have H := h; clear h; replace H := Option.bind_eq_some_iff.mp H; obtain ⟨⟨t106, t107, t108⟩, A30, H⟩ := H; dsimp only at H; have A3 := Aside0.mk A30; clear A30; replace H := Option.bind_eq_some_iff.mp H; obtain ⟨⟨t109, t110⟩, A40, H⟩ := H; dsimp only at H; have A4 := Aside0.mk A40; clear A40; by_cases c5 : t108 = true; rotate_left
 ·replace c5 := Bool.eq_false_iff.mpr c5; subst c5; rw [if_neg nft_] at H; replace H := Option.bind_eq_some_iff.mp H; obtain ⟨⟨t113, t114⟩, A110, H⟩ := H; dsimp only at H; have A11 := Aside0.mk A110; clear A110; simp only [Option.some.injEq, Prod.mk.injEq] at H; obtain ⟨rfl, rfl, rfl⟩ := H; obtain ⟨HGz12, hgz12⟩ := HI0.out; have Z12_0 := cellS87_0 HGz12; have Z12_1 := cellS87_1 HGz12; have F12_0 := blk_frozen HGz12 0; have F12_1 := blk_frozen HGz12 1; clear HGz12 hgz12; go_enter Tryz.func73, Tryz.ntmps73; go_wp2_with (first | ((with_reducible refine gate_callee (f := 82) rfl ?_); refine gl_ (some 15) Tryz.func82 #[.string s0_0, .string ⟨#[10]⟩] ?_; (with_reducible refine (strings_Cut.calls s0_0 ⟨#[10]⟩ t106 t107 false _ ?side1 A3.out).mono ?_); (case side1 => exact GV.below hgv z12_); rintro e w' ⟨rfl, ⟨nd, rfl⟩⟩; refine ⟨_, rfl, ?_⟩) | ((with_reducible refine gate_callee (f := 142) rfl ?_); refine gl_ (some 22) Tryz.func142 #[.string t106, .string a1] ?_; (with_reducible refine (strings_CutPrefix.calls t106 a1 t109 t110 _ A4.out).mono ?_); rintro e w' ⟨rfl, ⟨nd, rfl⟩⟩; refine ⟨_, rfl, ?_⟩) | ((with_reducible refine gate_callee (f := 74) rfl ?_); refine gl_ (some 32) Tryz.func74 #[.pointer (some ⟨g, 0, none⟩), .int .i64 2] ?_; (with_reducible refine (commit_reader_fail.calls g s0_0 s0_1 2 t113 t114 w0 _ ?side1 ?side2 A11.out).mono ?_); (case side1 => repeat (first | (with_reducible first | exact HI0.out | apply IsS87.alloc | apply IsS87.drewN | apply IsS87.drew | apply IsS87.set_0 | apply IsS87.set_1) | exact HI0.out)); (case side2 => repeat (first | (with_reducible first | exact HB.out | apply below_alloc | apply pw_below_drewN | apply below_drew1 | refine below_set ?_ (IsS87.ge HI0.out)) | exact HB.out)); rintro e w13 ⟨rfl, hi, hb, hk⟩; refine ⟨_, rfl, ?_⟩; replace HK := Aside0.mk (KeepBut.trans z7_ hk (.inl rfl)); replace HB := Aside0.mk (hb); replace HI0 := Aside0.mk (hi); (try clear hb); (try clear hb2); (try clear hk); (try clear hi)))
  go_ret
  exact ⟨z3_, z11_, z12_, z7_⟩
 subst c5; rw [if_pos rfl] at H; by_cases c6 : t110 = true
 ·subst c6; rw [if_pos rfl] at H; simp only [Option.some.injEq, Prod.mk.injEq] at H; obtain ⟨rfl, rfl, rfl⟩ := H; obtain ⟨HGz7, hgz7⟩ := HI0.out; have Z7_0 := cellS87_0 HGz7; have Z7_1 := cellS87_1 HGz7; have F7_0 := blk_frozen HGz7 0; have F7_1 := blk_frozen HGz7 1; clear HGz7 hgz7; go_enter Tryz.func73, Tryz.ntmps73; go_wp2_with (first | ((with_reducible refine gate_callee (f := 82) rfl ?_); refine gl_ (some 15) Tryz.func82 #[.string s0_0, .string ⟨#[10]⟩] ?_; (with_reducible refine (strings_Cut.calls s0_0 ⟨#[10]⟩ t106 t107 true _ ?side1 A3.out).mono ?_); (case side1 => exact GV.below hgv z12_); rintro e w' ⟨rfl, ⟨nd, rfl⟩⟩; refine ⟨_, rfl, ?_⟩) | ((with_reducible refine gate_callee (f := 142) rfl ?_); refine gl_ (some 22) Tryz.func142 #[.string t106, .string a1] ?_; (with_reducible refine (strings_CutPrefix.calls t106 a1 t109 true _ A4.out).mono ?_); rintro e w' ⟨rfl, ⟨nd, rfl⟩⟩; refine ⟨_, rfl, ?_⟩)); go_ret
  exact ⟨z3_, z11_, z12_, z7_⟩
 replace c6 := Bool.eq_false_iff.mpr c6; subst c6; rw [if_neg nft_] at H; replace H := Option.bind_eq_some_iff.mp H; obtain ⟨⟨t111, t112⟩, A80, H⟩ := H; dsimp only at H; have A8 := Aside0.mk A80; clear A80; simp only [Option.some.injEq, Prod.mk.injEq] at H; obtain ⟨rfl, rfl, rfl⟩ := H; obtain ⟨HGz9, hgz9⟩ := HI0.out; have Z9_0 := cellS87_0 HGz9; have Z9_1 := cellS87_1 HGz9; have F9_0 := blk_frozen HGz9 0; have F9_1 := blk_frozen HGz9 1; clear HGz9 hgz9; go_enter Tryz.func73, Tryz.ntmps73; go_wp2_with (first | ((with_reducible refine gate_callee (f := 82) rfl ?_); refine gl_ (some 15) Tryz.func82 #[.string s0_0, .string ⟨#[10]⟩] ?_; (with_reducible refine (strings_Cut.calls s0_0 ⟨#[10]⟩ t106 t107 true _ ?side1 A3.out).mono ?_); (case side1 => exact GV.below hgv z12_); rintro e w' ⟨rfl, ⟨nd, rfl⟩⟩; refine ⟨_, rfl, ?_⟩) | ((with_reducible refine gate_callee (f := 142) rfl ?_); refine gl_ (some 22) Tryz.func142 #[.string t106, .string a1] ?_; (with_reducible refine (strings_CutPrefix.calls t106 a1 t109 false _ A4.out).mono ?_); rintro e w' ⟨rfl, ⟨nd, rfl⟩⟩; refine ⟨_, rfl, ?_⟩) | ((with_reducible refine gate_callee (f := 74) rfl ?_); refine gl_ (some 32) Tryz.func74 #[.pointer (some ⟨g, 0, none⟩), .int .i64 2] ?_; (with_reducible refine (commit_reader_fail.calls g s0_0 s0_1 2 t111 t112 w0 _ ?side1 ?side2 A8.out).mono ?_); (case side1 => repeat (first | (with_reducible first | exact HI0.out | apply IsS87.alloc | apply IsS87.drewN | apply IsS87.drew | apply IsS87.set_0 | apply IsS87.set_1) | exact HI0.out)); (case side2 => repeat (first | (with_reducible first | exact HB.out | apply below_alloc | apply pw_below_drewN | apply below_drew1 | refine below_set ?_ (IsS87.ge HI0.out)) | exact HB.out)); rintro e w10 ⟨rfl, hi, hb, hk⟩; refine ⟨_, rfl, ?_⟩; replace HK := Aside0.mk (KeepBut.trans z7_ hk (.inl rfl)); replace HB := Aside0.mk (hb); replace HI0 := Aside0.mk (hi); (try clear hb); (try clear hb2); (try clear hk); (try clear hi)))
 go_ret
 exact ⟨z3_, z11_, z12_, z7_⟩


def commit_reader_id.f (k : Nat) (s0_0 : ByteArray) (s0_1 : Int) (a1 : ByteArray) : Option (ByteArray × ByteArray × Int) := (commit_reader_line.f s0_0 s0_1 a1).bind fun bt101 => ((ident_Is.f k bt101.1).bind fun t104 => (if t104 = true then (some (bt101.1, bt101.2.1, bt101.2.2)) else ((commit_reader_fail.f bt101.2.1 bt101.2.2 2).bind fun bt105 => (some (bt101.1, bt105.1, bt105.2)))))
theorem commit_reader_id.mono : ∀ a0 a1 a2 k, LeO (commit_reader_id.f k a0 a1 a2) (commit_reader_id.f (k + 1) a0 a1 a2) := by
 intro a0 a1 a2 k; unfold commit_reader_id.f; have m0_ := @ident_Is.mono; exact mz_
set_option maxHeartbeats 8000000 in
set_option maxRecDepth 100000 in
theorem commit_reader_id.calls (k : Nat) (g : Nat) (s0_0 : ByteArray) (s0_1 : Int) (a1 : ByteArray) (r1 : ByteArray) (r2 : ByteArray) (r3 : Int) (w0 w : World) (hI : IsS87 w0 w g s0_0 s0_1) (hB : Below w0.heap.size w0 w) (hgv : GV w0) (h : commit_reader_id.f k s0_0 s0_1 a1 = some (r1, r2, r3)) :
  Calls Tryz.prog 70 #[.pointer (some ⟨g, 0, none⟩), .string a1] w fun e w' => e = .returned (.string r1) ∧ IsS87 w0 w' g r2 r3 ∧ Below w0.heap.size w0 w' ∧ KeepBut w w' g none := by
 have HI0 := Aside0.mk hI; have HK := Aside0.mk (KeepBut.refl w g none); have HL := Aside0.mk hB.size; clear hI; have HW0 := Aside0.mk hB.size; have HB := Aside0.mk hB; clear hB; unfold commit_reader_id.f at h; have H := h; clear h; replace H := Option.bind_eq_some_iff.mp H; obtain ⟨⟨t101, t102, t103⟩, A30, H⟩ := H; dsimp only at H; have A3 := Aside0.mk A30; clear A30; replace H := Option.bind_eq_some_iff.mp H; obtain ⟨t104, A40, H⟩ := H; have A4 := Aside0.mk A40; clear A40; by_cases c5 : t104 = true
 ·subst c5; rw [if_pos rfl] at H; simp only [Option.some.injEq, Prod.mk.injEq] at H; obtain ⟨rfl, rfl, rfl⟩ := H; go_enter Tryz.func70, Tryz.ntmps70; go_wp2_with (first | ((with_reducible refine gate_callee (f := 73) rfl ?_); refine gl_ (some 8) Tryz.func73 #[.pointer (some ⟨g, 0, none⟩), .string a1] ?_; (with_reducible refine (commit_reader_line.calls g s0_0 s0_1 a1 t101 t102 t103 w0 _ ?side1 ?side2 ?side3 A3.out).mono ?_); (case side1 => repeat (first | (with_reducible first | exact HI0.out | apply IsS87.alloc | apply IsS87.drewN | apply IsS87.drew | apply IsS87.set_0 | apply IsS87.set_1) | exact HI0.out)); (case side2 => repeat (first | (with_reducible first | exact HB.out | apply below_alloc | apply pw_below_drewN | apply below_drew1 | refine below_set ?_ (IsS87.ge HI0.out)) | exact HB.out)); (case side3 => exact hgv); rintro e w6 ⟨rfl, hi, hb, hk⟩; refine ⟨_, rfl, ?_⟩; replace HK := Aside0.mk (KeepBut.trans z7_ hk (.inl rfl)); replace HB := Aside0.mk (hb); replace HI0 := Aside0.mk (hi); (try clear hb); (try clear hb2); (try clear hk); (try clear hi)) | ((with_reducible refine gate_callee (f := 65) rfl ?_); refine gl_ (some 10) Tryz.func65 #[.string t101] ?_; (with_reducible refine (ident_Is.calls k t101 true _ A4.out).mono ?_); rintro e w' ⟨rfl, ⟨nd, rfl⟩⟩; refine ⟨_, rfl, ?_⟩)); go_ret
  exact ⟨z3_, z11_, z12_, z7_⟩
 replace c5 := Bool.eq_false_iff.mpr c5; subst c5; rw [if_neg nft_] at H; replace H := Option.bind_eq_some_iff.mp H; obtain ⟨⟨t105, t106⟩, A70, H⟩ := H; dsimp only at H; have A7 := Aside0.mk A70; clear A70; simp only [Option.some.injEq, Prod.mk.injEq] at H; obtain ⟨rfl, rfl, rfl⟩ := H; go_enter Tryz.func70, Tryz.ntmps70; go_wp2_with (first | ((with_reducible refine gate_callee (f := 73) rfl ?_); refine gl_ (some 8) Tryz.func73 #[.pointer (some ⟨g, 0, none⟩), .string a1] ?_; (with_reducible refine (commit_reader_line.calls g s0_0 s0_1 a1 t101 t102 t103 w0 _ ?side1 ?side2 ?side3 A3.out).mono ?_); (case side1 => repeat (first | (with_reducible first | exact HI0.out | apply IsS87.alloc | apply IsS87.drewN | apply IsS87.drew | apply IsS87.set_0 | apply IsS87.set_1) | exact HI0.out)); (case side2 => repeat (first | (with_reducible first | exact HB.out | apply below_alloc | apply pw_below_drewN | apply below_drew1 | refine below_set ?_ (IsS87.ge HI0.out)) | exact HB.out)); (case side3 => exact hgv); rintro e w8 ⟨rfl, hi, hb, hk⟩; refine ⟨_, rfl, ?_⟩; replace HK := Aside0.mk (KeepBut.trans z7_ hk (.inl rfl)); replace HB := Aside0.mk (hb); replace HI0 := Aside0.mk (hi); (try clear hb); (try clear hb2); (try clear hk); (try clear hi)) | ((with_reducible refine gate_callee (f := 65) rfl ?_); refine gl_ (some 10) Tryz.func65 #[.string t101] ?_; (with_reducible refine (ident_Is.calls k t101 false _ A4.out).mono ?_); rintro e w' ⟨rfl, ⟨nd, rfl⟩⟩; refine ⟨_, rfl, ?_⟩) | ((with_reducible refine gate_callee (f := 74) rfl ?_); refine gl_ (some 13) Tryz.func74 #[.pointer (some ⟨g, 0, none⟩), .int .i64 2] ?_; (with_reducible refine (commit_reader_fail.calls g t102 t103 2 t105 t106 w0 _ ?side1 ?side2 A7.out).mono ?_); (case side1 => repeat (first | (with_reducible first | exact HI0.out | apply IsS87.alloc | apply IsS87.drewN | apply IsS87.drew | apply IsS87.set_0 | apply IsS87.set_1) | exact HI0.out)); (case side2 => repeat (first | (with_reducible first | exact HB.out | apply below_alloc | apply pw_below_drewN | apply below_drew1 | refine below_set ?_ (IsS87.ge HI0.out)) | exact HB.out)); rintro e w9 ⟨rfl, hi, hb, hk⟩; refine ⟨_, rfl, ?_⟩; replace HK := Aside0.mk (KeepBut.trans z7_ hk (.inl rfl)); replace HB := Aside0.mk (hb); replace HI0 := Aside0.mk (hi); (try clear hb); (try clear hb2); (try clear hk); (try clear hi)))
 go_ret
 exact ⟨z3_, z11_, z12_, z7_⟩


mutual
def commit_digits.j0 : Nat → ByteArray → Bool → Option (Int × Bool)
 | 0, _, _ => none
 | k + 1, x0, x27 => if x27 = true then (some (0, false)) else (commit_digits.l0 k x0 (x0.size : Int) 0)
def commit_digits.l0 : Nat → ByteArray → Int → Int → Option (Int × Bool)
 | 0, _, _, _ => none
 | k + 1, x0, x29, x30 => if x30 < x29 then (if 0 ≤ x30 then (if x30 < (x0.size : Int) then (if (bt x0 x30) < 48 then (some (0, false)) else (if (bt x0 x30) > 57 then (some (0, false)) else (commit_digits.l0 k x0 x29 (wrap64 (x30 + 1))))) else (none)) else (none)) else ((strconv_Atoi.f x0).bind fun bt101 => (if bt101.2.isNone = true then (some (bt101.1, true)) else (some (bt101.1, false))))
end
def commit_digits.f (k : Nat) (a0 : ByteArray) (a1 : Int) : Option (Int × Bool) := if (a0.size : Int) < 1 then (commit_digits.j0 k a0 true) else (if (a0.size : Int) > a1 then (commit_digits.j0 k a0 true) else (if (a0.size : Int) > 1 then (if 0 < (a0.size : Int) then (commit_digits.j0 k a0 ((bt a0 0) == 48)) else (none)) else (commit_digits.j0 k a0 false)))
theorem commit_digits.mono_l : ∀ k, (∀ y0 y1, LeO (commit_digits.j0 k y0 y1) (commit_digits.j0 (k + 1) y0 y1)) ∧ (∀ y0 y1 y2, LeO (commit_digits.l0 k y0 y1 y2) (commit_digits.l0 (k + 1) y0 y1 y2))
 | 0 => ⟨fun _ _ r h => by simp [commit_digits.j0] at h, fun _ _ _ r h => by simp [commit_digits.l0] at h⟩
 | k + 1 => by
  obtain ⟨ih0, ih1⟩ := commit_digits.mono_l k
  refine ⟨?_, ?_⟩
  ·intro y0 y1
   unfold commit_digits.j0
   have m0_ := @ih0
   have m1_ := @ih1
   exact mz_
  ·intro y0 y1 y2
   unfold commit_digits.l0
   have m0_ := @ih0
   have m1_ := @ih1
   exact mz_
theorem commit_digits.mono : ∀ a0 a1 k, LeO (commit_digits.f k a0 a1) (commit_digits.f (k + 1) a0 a1) := by
 intro a0 a1 k; obtain ⟨ih0, ih1⟩ := commit_digits.mono_l k; unfold commit_digits.f; have m0_ := @ih0; have m1_ := @ih1; exact mz_
set_option maxHeartbeats 8000000 in
set_option maxRecDepth 100000 in
theorem commit_digits.calls (k : Nat) (a0 : ByteArray) (a1 : Int) (r1 : Int) (r2 : Bool) (w : World) (h : commit_digits.f k a0 a1 = some (r1, r2)) :
  Calls Tryz.prog 83 #[.string a0, .int .i64 a1] w fun e w' => e = .returned (.tuple #[.int .i64 r1, .bool r2]) ∧ Below w.heap.size w w' := by
 have hu117 := Tryz.underlying117; have HB := Aside0.mk (Below.refl w.heap.size w); unfold commit_digits.f at h; have H := h; clear h; have HC3 := Aside0.mk H; clear H; go_enter Tryz.func83, Tryz.ntmps83; go_upto_region 1 with (fail)
 repeat (go_quiet (fail); go_upto_region 1 with (fail))
 go_cut [27] (fun v27 wc => ∃ (kq : Nat) (x27_2 : Bool), v27 = .bool x27_2 ∧ Aside0 (commit_digits.j0 kq a0 x27_2 = some (r1, r2)) ∧ Aside0 (kq ≤ k) ∧ Aside0 (Below w.heap.size w wc))
 case first =>
  have H := HC3.out; clear HC3; by_cases c4 : (a0.size : Int) < 1
  ·rw [if_pos c4] at H; have c4b0 := decide_eq_true c4; have c4b1 : decide (a0.size < 1) = true := decide_eq_true (by omega); clear c4; (first | rw [c4b0] | (simp only [i64_w, i32_w]; rw [c4b0]) | skip); have H' := Aside0.mk H; clear H; go_wp2
   repeat (go_quiet (fail); try go_wp2)
   go_meet
   case rel => exact ⟨_, (true), z1_, H', ⟨z4_⟩, ⟨hb_ HB.out⟩⟩
  rw [if_neg c4] at H; have c4b0 := decide_eq_false c4; have c4b1 : decide (a0.size < 1) = false := decide_eq_false (by omega); clear c4; (first | rw [c4b0] | (simp only [i64_w, i32_w]; rw [c4b0]) | skip); by_cases c5 : (a0.size : Int) > a1
  ·rw [if_pos c5] at H; have c5b0 := decide_eq_true c5; clear c5; have H' := Aside0.mk H; clear H; go_wp2
   repeat (go_quiet (fail); try go_wp2)
   go_meet
   case rel => exact ⟨_, (true), z1_, H', ⟨z4_⟩, ⟨hb_ HB.out⟩⟩
  rw [if_neg c5] at H; have c5b0 := decide_eq_false c5; clear c5; by_cases c6 : (a0.size : Int) > 1; rotate_left
  ·rw [if_neg c6] at H; have c6b0 := decide_eq_false c6; have c6b1 : decide (1 < a0.size) = false := decide_eq_false (by omega); clear c6; have H' := Aside0.mk H; clear H; go_wp2
   repeat (go_quiet (fail); try go_wp2)
   go_meet
   case rel => exact ⟨_, (false), z1_, H', ⟨z4_⟩, ⟨hb_ HB.out⟩⟩
  rw [if_pos c6] at H; have c6b0 := decide_eq_true c6; have c6b1 : decide (1 < a0.size) = true := decide_eq_true (by omega); clear c6; by_cases c7 : 0 < (a0.size : Int); rotate_left
  ·rw [if_neg c7] at H; exact absurd H (by simp)
  rw [if_pos c7] at H; have c7b0 := decide_eq_true c7; have c7b1 : decide (0 < a0.size) = true := decide_eq_true (by omega); clear c7; have H' := Aside0.mk H; clear H; have p8 : 0 ≤ (0 : Int) := (by omega); have q8 : 0 < a0.size := (by have : (0 : Int) < (a0.size : Int) := of_decide_eq_true z0_; omega)
  have hx8 : ∀ h : 0 < a0.size, ((a0[0]'h).toNat : Int) = bt a0 0 := bt_at a0 0; clear p8; have qi8 : (0 < (a0.size : Int)) = True := eq_true (of_decide_eq_true z0_); replace q8 := eq_true q8; go_wp2
  repeat (go_quiet (fail); try go_wp2)
  go_meet
  case rel => exact ⟨_, (((bt a0 0) == 48)), z1_, H', ⟨z4_⟩, ⟨hb_ HB.out⟩⟩
 case rest =>
  clear HC3; try clear p2
  try clear c4
  try clear c4b0
  try clear c4b1
  try clear c5
  try clear c5b0
  try clear c6
  try clear c6b0
  try clear c6b1
  try clear c7
  try clear c7b0
  try clear c7b1
  try clear c8
  try clear p8
  try clear q8
  try clear hx8
  try clear qi8
  try clear p8
  try clear q8
  obtain ⟨kq, x27_2, rfl, HA, HJ2, HB⟩ := hcut
  cases kq with
  | zero => exact absurd HA.out (by simp [commit_digits.j0])
  | succ kj2 =>
   have H := HA.out; clear HA; simp only [commit_digits.j0] at H; by_cases c9 : x27_2 = true
   ·subst c9; rw [if_pos rfl] at H; simp only [Option.some.injEq, Prod.mk.injEq] at H; obtain ⟨rfl, rfl⟩ := H; go_wp2
    repeat (go_quiet (fail); try go_wp2)
    go_ret2
    exact ⟨z3_, hb_ HB.out⟩
   replace c9 := Bool.eq_false_iff.mpr c9; subst c9; rw [if_neg nft_] at H; have H' := Aside0.mk H; clear H; go_wp2
   repeat (go_quiet (fail); try go_wp2)
   go_loopg [30] kj2 (fun kq v30 w' => ∃ (x30_2 : Int), v30 = .int .i64 x30_2 ∧ Aside0 (commit_digits.l0 kq a0 (a0.size : Int) x30_2 = some (r1, r2)) ∧ Aside0 (kq ≤ kj2) ∧ Aside0 (Below w.heap.size w w'))
   case atStart => exact ⟨(0), z1_, H', ⟨Nat.le_refl _⟩, ⟨hb_ HB.out⟩⟩
   case round =>
    clear H'; try clear p2
    try clear c4
    try clear c4b0
    try clear c4b1
    try clear c5
    try clear c5b0
    try clear c6
    try clear c6b0
    try clear c6b1
    try clear c7
    try clear c7b0
    try clear c7b1
    try clear c8
    try clear p8
    try clear q8
    try clear hx8
    try clear qi8
    try clear c9
    try clear p2
    try clear p8
    try clear q8
    obtain ⟨x30_2, rfl, HA, HK2, HB⟩ := hrel
    cases gk with
    | zero => exact absurd HA.out (by simp [commit_digits.l0])
    | succ k2 =>
     have H := HA.out; clear HA; simp only [commit_digits.l0] at H; by_cases c10 : x30_2 < (a0.size : Int); rotate_left
     ·rw [if_neg c10] at H; have c10b0 := decide_eq_false c10; clear c10; replace H := Option.bind_eq_some_iff.mp H; obtain ⟨⟨t101, t102⟩, A170, H⟩ := H; dsimp only at H; have A17 := Aside0.mk A170; clear A170; rcases t102 with _ | q103
      ·have H1 : (some (t101, true)) = some (r1, r2) := by rw [if_pos (show (none : Option Int).isNone = true by rfl)] at H; exact H
       clear H; have H := H1; clear H1; try simp only [errW_none, errW_some]
       simp only [Option.some.injEq, Prod.mk.injEq] at H; obtain ⟨rfl, rfl⟩ := H; go_wp2_with (first | (go_at_call 145; (with_reducible refine (strconv_Atoi.calls a0 t101 none _ A17.out).mono ?_); rintro e w18 ⟨rfl, hb⟩; replace HB := ah_ HB hb; (try clear hb); (try clear hb2); (try clear hk); (try clear hi); (try simp only [errW_none, errW_some])))
       repeat (go_quiet (first | (go_at_call 145; (with_reducible refine (strconv_Atoi.calls a0 t101 none _ A17.out).mono ?_); rintro e w18 ⟨rfl, hb⟩; replace HB := ah_ HB hb; (try clear hb); (try clear hb2); (try clear hk); (try clear hi); (try simp only [errW_none, errW_some]))); try go_wp2_with (first | (go_at_call 145; (with_reducible refine (strconv_Atoi.calls a0 t101 none _ A17.out).mono ?_); rintro e w18 ⟨rfl, hb⟩; replace HB := ah_ HB hb; (try clear hb); (try clear hb2); (try clear hk); (try clear hi); (try simp only [errW_none, errW_some]))))
       go_ret2
       exact ⟨z3_, hb_ HB.out⟩
      ·have H1 : (some (t101, false)) = some (r1, r2) := by rw [if_neg (show ¬ (some q103).isNone = true by simp)] at H; exact H
       clear H; have H := H1; clear H1; try simp only [errW_none, errW_some]
       simp only [Option.some.injEq, Prod.mk.injEq] at H; obtain ⟨rfl, rfl⟩ := H; go_wp2_with (first | (go_at_call 145; (with_reducible refine (strconv_Atoi.calls a0 t101 (some q103) _ A17.out).mono ?_); rintro e w19 ⟨rfl, hb⟩; replace HB := ah_ HB hb; (try clear hb); (try clear hb2); (try clear hk); (try clear hi); (try simp only [errW_none, errW_some])))
       repeat (go_quiet (first | (go_at_call 145; (with_reducible refine (strconv_Atoi.calls a0 t101 (some q103) _ A17.out).mono ?_); rintro e w19 ⟨rfl, hb⟩; replace HB := ah_ HB hb; (try clear hb); (try clear hb2); (try clear hk); (try clear hi); (try simp only [errW_none, errW_some]))); try go_wp2_with (first | (go_at_call 145; (with_reducible refine (strconv_Atoi.calls a0 t101 (some q103) _ A17.out).mono ?_); rintro e w19 ⟨rfl, hb⟩; replace HB := ah_ HB hb; (try clear hb); (try clear hb2); (try clear hk); (try clear hi); (try simp only [errW_none, errW_some]))))
       go_ret2
       exact ⟨z3_, hb_ HB.out⟩
     rw [if_pos c10] at H; have c10b0 := decide_eq_true c10; clear c10; by_cases c11 : 0 ≤ x30_2; rotate_left
     ·rw [if_neg c11] at H; exact absurd H (by simp)
     rw [if_pos c11] at H; have c11b0 := decide_eq_true c11; clear c11; by_cases c12 : x30_2 < (a0.size : Int); rotate_left
     ·rw [if_neg c12] at H; exact absurd H (by simp)
     rw [if_pos c12] at H; have c12b0 := decide_eq_true c12; clear c12; by_cases c14 : (bt a0 x30_2) < 48
     ·rw [if_pos c14] at H; have c14b0 := decide_eq_true c14; clear c14; simp only [Option.some.injEq, Prod.mk.injEq] at H; obtain ⟨rfl, rfl⟩ := H; have p13 : 0 ≤ (x30_2 : Int) := of_decide_eq_true z0_; have q13 : x30_2 < (a0.size : Int) := of_decide_eq_true z0_; have hx13 := bt_at a0 x30_2; replace p13 := eq_true p13; replace q13 := eq_true q13; go_wp2
      repeat (go_quiet (fail); try go_wp2)
      go_ret2
      exact ⟨z3_, hb_ HB.out⟩
     rw [if_neg c14] at H; have c14b0 := decide_eq_false c14; clear c14; by_cases c16 : (bt a0 x30_2) > 57
     ·rw [if_pos c16] at H; have c16b0 := decide_eq_true c16; clear c16; simp only [Option.some.injEq, Prod.mk.injEq] at H; obtain ⟨rfl, rfl⟩ := H; have p13 : 0 ≤ (x30_2 : Int) := of_decide_eq_true z0_; have q13 : x30_2 < (a0.size : Int) := of_decide_eq_true z0_; have hx13 := bt_at a0 x30_2; replace p13 := eq_true p13; replace q13 := eq_true q13; have p15 : 0 ≤ (x30_2 : Int) := of_decide_eq_true z0_; have q15 : x30_2 < (a0.size : Int) := of_decide_eq_true z0_; have hx15 := bt_at a0 x30_2; replace p15 := eq_true p15; replace q15 := eq_true q15; go_wp2
      repeat (go_quiet (fail); try go_wp2)
      go_ret2
      exact ⟨z3_, hb_ HB.out⟩
     rw [if_neg c16] at H; have c16b0 := decide_eq_false c16; clear c16; have H' := Aside0.mk H; clear H; have p13 : 0 ≤ (x30_2 : Int) := of_decide_eq_true z0_; have q13 : x30_2 < (a0.size : Int) := of_decide_eq_true z0_; have hx13 := bt_at a0 x30_2; replace p13 := eq_true p13; replace q13 := eq_true q13; have p15 : 0 ≤ (x30_2 : Int) := of_decide_eq_true z0_; have q15 : x30_2 < (a0.size : Int) := of_decide_eq_true z0_; have hx15 := bt_at a0 x30_2; replace p15 := eq_true p15; replace q15 := eq_true q15; go_wp2
     repeat (go_quiet (fail); try go_wp2)
     go_roundg k2
     case measure => have := HJ2.out; have := HK2.out; omega
     case rel => exact ⟨(wrap64 (x30_2 + 1)), z1_, H', ⟨by have := HJ2.out; have := HK2.out; omega⟩, ⟨hb_ HB.out⟩⟩


mutual
def commit_zone.j0 : Nat → ByteArray → Bool → Option (Int × Bool)
 | 0, _, _ => none
 | k + 1, x0, x25 => if x25 = true then (some (0, false)) else (commit_zone.l0 k x0 1)
def commit_zone.l0 : Nat → ByteArray → Int → Option (Int × Bool)
 | 0, _, _ => none
 | k + 1, x0, x4 => if x4 < 5 then (if 0 ≤ x4 then (if x4 < (x0.size : Int) then (if (bt x0 x4) < 48 then (some (0, false)) else (if (bt x0 x4) > 57 then (some (0, false)) else (commit_zone.l0 k x0 (wrap64 (x4 + 1))))) else (none)) else (none)) else (if 1 ≤ 3 then (if 3 ≤ (x0.size : Int) then ((strconv_Atoi.f (x0.extract 1 3)).bind fun bt104 => ((strconv_Atoi.f (x0.extract 3 x0.size)).bind fun bt106 => (if bt106.1 ≥ 60 then (some (0, false)) else (if 0 < (x0.size : Int) then (if (bt x0 0) = 45 then (some (wrap64 ((wrap64 ((-60) * bt104.1)) - bt106.1), true)) else (some (wrap64 ((wrap64 (60 * bt104.1)) + bt106.1), true))) else (none))))) else (none)) else (none))
end
def commit_zone.f (k : Nat) (a0 : ByteArray) : Option (Int × Bool) := if (a0.size : Int) = 5 then (if 0 < (a0.size : Int) then (if (bt a0 0) = 43 then (commit_zone.j0 k a0 (a0.toList == ([45, 48, 48, 48, 48] : List UInt8))) else (if (bt a0 0) = 45 then (commit_zone.j0 k a0 (a0.toList == ([45, 48, 48, 48, 48] : List UInt8))) else (commit_zone.j0 k a0 true))) else (none)) else (commit_zone.j0 k a0 true)
theorem commit_zone.mono_l : ∀ k, (∀ y0 y1, LeO (commit_zone.j0 k y0 y1) (commit_zone.j0 (k + 1) y0 y1)) ∧ (∀ y0 y1, LeO (commit_zone.l0 k y0 y1) (commit_zone.l0 (k + 1) y0 y1))
 | 0 => ⟨fun _ _ r h => by simp [commit_zone.j0] at h, fun _ _ r h => by simp [commit_zone.l0] at h⟩
 | k + 1 => by
  obtain ⟨ih0, ih1⟩ := commit_zone.mono_l k
  refine ⟨?_, ?_⟩
  ·intro y0 y1
   unfold commit_zone.j0
   have m0_ := @ih0
   have m1_ := @ih1
   exact mz_
  ·intro y0 y1
   unfold commit_zone.l0
   have m0_ := @ih0
   have m1_ := @ih1
   exact mz_
theorem commit_zone.mono : ∀ a0 k, LeO (commit_zone.f k a0) (commit_zone.f (k + 1) a0) := by
 intro a0 k; obtain ⟨ih0, ih1⟩ := commit_zone.mono_l k; unfold commit_zone.f; have m0_ := @ih0; have m1_ := @ih1; exact mz_
set_option maxHeartbeats 8000000 in
set_option maxRecDepth 100000 in
theorem commit_zone.calls (k : Nat) (a0 : ByteArray) (r1 : Int) (r2 : Bool) (w : World) (h : commit_zone.f k a0 = some (r1, r2)) :
  Calls Tryz.prog 84 #[.string a0] w fun e w' => e = .returned (.tuple #[.int .i64 r1, .bool r2]) ∧ Below w.heap.size w w' := by
 have HB := Aside0.mk (Below.refl w.heap.size w); unfold commit_zone.f at h; have H := h; clear h; have HC2 := Aside0.mk H; clear H; go_enter Tryz.func84, Tryz.ntmps84; go_upto_region 1 with (fail)
 go_cut [25] (fun v25 wc => ∃ (kq : Nat) (x25_1 : Bool), v25 = .bool x25_1 ∧ Aside0 (commit_zone.j0 kq a0 x25_1 = some (r1, r2)) ∧ Aside0 (kq ≤ k) ∧ Aside0 (Below w.heap.size w wc))
 case first =>
  have H := HC2.out; clear HC2; by_cases c3 : (a0.size : Int) = 5; rotate_left
  ·rw [if_neg c3] at H; have c3b0 := beq_eq_false_iff_ne.mpr c3; have c3b1 := bne_iff_ne.mpr c3; (first | rw [c3b0] | (simp only [i64_w, i32_w]; rw [c3b0]) | skip); have H' := Aside0.mk H; clear H; go_wp2
   go_meet
   case rel => exact ⟨_, (true), z1_, H', ⟨z4_⟩, ⟨hb_ HB.out⟩⟩
  rw [if_pos c3] at H; have c3b0 := beq_iff_eq.mpr c3; have c3b1 := bne_eq_false_iff_eq.mpr c3; clear c3; (first | rw [c3b0] | (simp only [i64_w, i32_w]; rw [c3b0]) | skip); by_cases c4 : 0 < (a0.size : Int); rotate_left
  ·rw [if_neg c4] at H; exact absurd H (by simp)
  rw [if_pos c4] at H; have c4b0 := decide_eq_true c4; have c4b1 : decide (0 < a0.size) = true := decide_eq_true (by omega); clear c4; by_cases c6 : (bt a0 0) = 43
  ·rw [if_pos c6] at H; have c6b0 := beq_iff_eq.mpr c6; have c6b1 := bne_eq_false_iff_eq.mpr c6; clear c6; have H' := Aside0.mk H; clear H; have p5 : 0 ≤ (0 : Int) := (by omega); have q5 : 0 < a0.size := (by have : (0 : Int) < (a0.size : Int) := of_decide_eq_true z0_; omega)
   have hx5 : ∀ h : 0 < a0.size, ((a0[0]'h).toNat : Int) = bt a0 0 := bt_at a0 0; clear p5; have qi5 : (0 < (a0.size : Int)) = True := eq_true (of_decide_eq_true z0_); replace q5 := eq_true q5; go_wp2
   go_meet
   case rel => exact ⟨_, ((a0.toList == ([45, 48, 48, 48, 48] : List UInt8))), z1_, H', ⟨z4_⟩, ⟨hb_ HB.out⟩⟩
  rw [if_neg c6] at H; have c6b0 := beq_eq_false_iff_ne.mpr c6; have c6b1 := bne_iff_ne.mpr c6; by_cases c8 : (bt a0 0) = 45; rotate_left
  ·rw [if_neg c8] at H; have c8b0 := beq_eq_false_iff_ne.mpr c8; have c8b1 := bne_iff_ne.mpr c8; have H' := Aside0.mk H; clear H; have p5 : 0 ≤ (0 : Int) := (by omega); have q5 : 0 < a0.size := (by have : (0 : Int) < (a0.size : Int) := of_decide_eq_true z0_; omega)
   have hx5 : ∀ h : 0 < a0.size, ((a0[0]'h).toNat : Int) = bt a0 0 := bt_at a0 0; clear p5; have qi5 : (0 < (a0.size : Int)) = True := eq_true (of_decide_eq_true z0_); replace q5 := eq_true q5; have p7 : 0 ≤ (0 : Int) := (by omega); have q7 : 0 < a0.size := (by have : (0 : Int) < (a0.size : Int) := of_decide_eq_true z0_; omega)
   have hx7 : ∀ h : 0 < a0.size, ((a0[0]'h).toNat : Int) = bt a0 0 := bt_at a0 0; clear p7; have qi7 : (0 < (a0.size : Int)) = True := eq_true (of_decide_eq_true z0_); replace q7 := eq_true q7; go_wp2
   go_meet
   case rel => exact ⟨_, (true), z1_, H', ⟨z4_⟩, ⟨hb_ HB.out⟩⟩
  rw [if_pos c8] at H; have c8b0 := beq_iff_eq.mpr c8; have c8b1 := bne_eq_false_iff_eq.mpr c8; clear c8; have H' := Aside0.mk H; clear H; have p5 : 0 ≤ (0 : Int) := (by omega); have q5 : 0 < a0.size := (by have : (0 : Int) < (a0.size : Int) := of_decide_eq_true z0_; omega)
  have hx5 : ∀ h : 0 < a0.size, ((a0[0]'h).toNat : Int) = bt a0 0 := bt_at a0 0; clear p5; have qi5 : (0 < (a0.size : Int)) = True := eq_true (of_decide_eq_true z0_); replace q5 := eq_true q5; have p7 : 0 ≤ (0 : Int) := (by omega); have q7 : 0 < a0.size := (by have : (0 : Int) < (a0.size : Int) := of_decide_eq_true z0_; omega)
  have hx7 : ∀ h : 0 < a0.size, ((a0[0]'h).toNat : Int) = bt a0 0 := bt_at a0 0; clear p7; have qi7 : (0 < (a0.size : Int)) = True := eq_true (of_decide_eq_true z0_); replace q7 := eq_true q7; go_wp2
  go_meet
  case rel => exact ⟨_, ((a0.toList == ([45, 48, 48, 48, 48] : List UInt8))), z1_, H', ⟨z4_⟩, ⟨hb_ HB.out⟩⟩
 case rest =>
  clear HC2; try clear p2
  try clear c3
  try clear c3b0
  try clear c3b1
  try clear c4
  try clear c4b0
  try clear c4b1
  try clear p5
  try clear q5
  try clear hx5
  try clear qi5
  try clear c6
  try clear c6b0
  try clear c6b1
  try clear p7
  try clear q7
  try clear hx7
  try clear qi7
  try clear c8
  try clear c8b0
  try clear c8b1
  try clear p5
  try clear p7
  try clear q5
  try clear q7
  obtain ⟨kq, x25_1, rfl, HA, HJ1, HB⟩ := hcut
  cases kq with
  | zero => exact absurd HA.out (by simp [commit_zone.j0])
  | succ kj1 =>
   have H := HA.out; clear HA; simp only [commit_zone.j0] at H; by_cases c9 : x25_1 = true
   ·subst c9; rw [if_pos rfl] at H; simp only [Option.some.injEq, Prod.mk.injEq] at H; obtain ⟨rfl, rfl⟩ := H; go_wp2
    go_ret2
    exact ⟨z3_, hb_ HB.out⟩
   replace c9 := Bool.eq_false_iff.mpr c9; subst c9; rw [if_neg nft_] at H; have H' := Aside0.mk H; clear H; go_wp2
   go_loopg [4] kj1 (fun kq v4 w' => ∃ (x4_2 : Int), v4 = .int .i64 x4_2 ∧ Aside0 (commit_zone.l0 kq a0 x4_2 = some (r1, r2)) ∧ Aside0 (kq ≤ kj1) ∧ Aside0 (Below w.heap.size w w'))
   case atStart => exact ⟨(1), z1_, H', ⟨Nat.le_refl _⟩, ⟨hb_ HB.out⟩⟩
   case round =>
    clear H'; try clear p2
    try clear c3
    try clear c3b0
    try clear c3b1
    try clear c4
    try clear c4b0
    try clear c4b1
    try clear p5
    try clear q5
    try clear hx5
    try clear qi5
    try clear c6
    try clear c6b0
    try clear c6b1
    try clear p7
    try clear q7
    try clear hx7
    try clear qi7
    try clear c8
    try clear c8b0
    try clear c8b1
    try clear c9
    try clear p2
    try clear p5
    try clear p7
    try clear q5
    try clear q7
    obtain ⟨x4_2, rfl, HA, HK2, HB⟩ := hrel
    cases gk with
    | zero => exact absurd HA.out (by simp [commit_zone.l0])
    | succ k2 =>
     have H := HA.out; clear HA; simp only [commit_zone.l0] at H; by_cases c10 : x4_2 < 5
     ·rw [if_pos c10] at H; have c10b0 := decide_eq_true c10; clear c10; by_cases c11 : 0 ≤ x4_2; rotate_left
      ·rw [if_neg c11] at H; exact absurd H (by simp)
      rw [if_pos c11] at H; have c11b0 := decide_eq_true c11; clear c11; by_cases c12 : x4_2 < (a0.size : Int); rotate_left
      ·rw [if_neg c12] at H; exact absurd H (by simp)
      rw [if_pos c12] at H; have c12b0 := decide_eq_true c12; clear c12; by_cases c14 : (bt a0 x4_2) < 48
      ·rw [if_pos c14] at H; have c14b0 := decide_eq_true c14; clear c14; simp only [Option.some.injEq, Prod.mk.injEq] at H; obtain ⟨rfl, rfl⟩ := H; have p13 : 0 ≤ (x4_2 : Int) := of_decide_eq_true z0_; have q13 : x4_2 < (a0.size : Int) := of_decide_eq_true z0_; have hx13 := bt_at a0 x4_2; replace p13 := eq_true p13; replace q13 := eq_true q13; go_wp2
       go_ret2
       exact ⟨z3_, hb_ HB.out⟩
      rw [if_neg c14] at H; have c14b0 := decide_eq_false c14; clear c14; by_cases c16 : (bt a0 x4_2) > 57
      ·rw [if_pos c16] at H; have c16b0 := decide_eq_true c16; clear c16; simp only [Option.some.injEq, Prod.mk.injEq] at H; obtain ⟨rfl, rfl⟩ := H; have p13 : 0 ≤ (x4_2 : Int) := of_decide_eq_true z0_; have q13 : x4_2 < (a0.size : Int) := of_decide_eq_true z0_; have hx13 := bt_at a0 x4_2; replace p13 := eq_true p13; replace q13 := eq_true q13; have p15 : 0 ≤ (x4_2 : Int) := of_decide_eq_true z0_; have q15 : x4_2 < (a0.size : Int) := of_decide_eq_true z0_; have hx15 := bt_at a0 x4_2; replace p15 := eq_true p15; replace q15 := eq_true q15; go_wp2
       go_ret2
       exact ⟨z3_, hb_ HB.out⟩
      rw [if_neg c16] at H; have c16b0 := decide_eq_false c16; clear c16; have H' := Aside0.mk H; clear H; have p13 : 0 ≤ (x4_2 : Int) := of_decide_eq_true z0_; have q13 : x4_2 < (a0.size : Int) := of_decide_eq_true z0_; have hx13 := bt_at a0 x4_2; replace p13 := eq_true p13; replace q13 := eq_true q13; have p15 : 0 ≤ (x4_2 : Int) := of_decide_eq_true z0_; have q15 : x4_2 < (a0.size : Int) := of_decide_eq_true z0_; have hx15 := bt_at a0 x4_2; replace p15 := eq_true p15; replace q15 := eq_true q15; go_wp2
      go_roundg k2
      case measure => have := HJ1.out; have := HK2.out; omega
      case rel => exact ⟨(wrap64 (x4_2 + 1)), z1_, H', ⟨by have := HJ1.out; have := HK2.out; omega⟩, ⟨hb_ HB.out⟩⟩
     rw [if_neg c10] at H; have c10b0 := decide_eq_false c10; clear c10; by_cases c17 : 1 ≤ 3; rotate_left
     ·rw [if_neg c17] at H; exact absurd H (by simp)
     rw [if_pos c17] at H; have c17b0 := eq_true c17; have c17b1 := decide_eq_true c17; clear c17; by_cases c18 : 3 ≤ (a0.size : Int); rotate_left
     ·rw [if_neg c18] at H; exact absurd H (by simp)
     rw [if_pos c18] at H; have c18b0 := eq_true c18; have c18b1 := decide_eq_true c18; clear c18; replace H := Option.bind_eq_some_iff.mp H; obtain ⟨⟨t104, t105⟩, A190, H⟩ := H; dsimp only at H; have A19 := Aside0.mk A190; clear A190; have c20b0 := eq_true (of_decide_eq_true z0_ : 3 ≤ (a0.size : Int)); replace H := Option.bind_eq_some_iff.mp H; obtain ⟨⟨t106, t107⟩, A210, H⟩ := H; dsimp only at H; have A21 := Aside0.mk A210; clear A210; by_cases c22 : t106 ≥ 60
     ·rw [if_pos c22] at H; have c22b0 := decide_eq_true c22; clear c22; simp only [Option.some.injEq, Prod.mk.injEq] at H; obtain ⟨rfl, rfl⟩ := H; have tk1_ : True := trivial; have tk2_ : True := trivial; go_wp2_with (first | (have _t := tk1_; (with_reducible refine gate_callee (f := 145) rfl ?_); refine gl_ (some 43) Tryz.func145 #[.string (a0.extract 1 3)] ?_; (with_reducible refine (strconv_Atoi.calls (a0.extract 1 3) t104 t105 _ A19.out).mono ?_); rintro e w23 ⟨rfl, hb⟩; refine ⟨_, rfl, ?_⟩; replace HB := ah_ HB hb; (try clear hb); (try clear hb2); (try clear hk); (try clear hi); (try simp only [errW_none, errW_some]); clear tk1_) | (have _t := tk2_; (with_reducible refine gate_callee (f := 145) rfl ?_); refine gl_ (some 49) Tryz.func145 #[.string (a0.extract 3 a0.size)] ?_; (with_reducible refine (strconv_Atoi.calls (a0.extract 3 a0.size) t106 t107 _ A21.out).mono ?_); rintro e w24 ⟨rfl, hb⟩; refine ⟨_, rfl, ?_⟩; replace HB := ah_ HB hb; (try clear hb); (try clear hb2); (try clear hk); (try clear hi); (try simp only [errW_none, errW_some]); clear tk2_)); go_ret2
      exact ⟨z3_, hb_ HB.out⟩
     rw [if_neg c22] at H; have c22b0 := decide_eq_false c22; clear c22; by_cases c25 : 0 < (a0.size : Int); rotate_left
     ·rw [if_neg c25] at H; exact absurd H (by simp)
     rw [if_pos c25] at H; have c25b0 := decide_eq_true c25; have c25b1 : decide (0 < a0.size) = true := decide_eq_true (by omega); clear c25; by_cases c27 : (bt a0 0) = 45; rotate_left
     ·rw [if_neg c27] at H; have c27b0 := beq_eq_false_iff_ne.mpr c27; have c27b1 := bne_iff_ne.mpr c27; simp only [Option.some.injEq, Prod.mk.injEq] at H; obtain ⟨rfl, rfl⟩ := H; have tk5_ : True := trivial; have tk6_ : True := trivial; go_wp2_with (first | (have _t := tk5_; (with_reducible refine gate_callee (f := 145) rfl ?_); refine gl_ (some 43) Tryz.func145 #[.string (a0.extract 1 3)] ?_; (with_reducible refine (strconv_Atoi.calls (a0.extract 1 3) t104 t105 _ A19.out).mono ?_); rintro e w30 ⟨rfl, hb⟩; refine ⟨_, rfl, ?_⟩; replace HB := ah_ HB hb; (try clear hb); (try clear hb2); (try clear hk); (try clear hi); (try simp only [errW_none, errW_some]); clear tk5_) | (have _t := tk6_; (with_reducible refine gate_callee (f := 145) rfl ?_); refine gl_ (some 49) Tryz.func145 #[.string (a0.extract 3 a0.size)] ?_; (with_reducible refine (strconv_Atoi.calls (a0.extract 3 a0.size) t106 t107 _ A21.out).mono ?_); rintro e w31 ⟨rfl, hb⟩; refine ⟨_, rfl, ?_⟩; replace HB := ah_ HB hb; (try clear hb); (try clear hb2); (try clear hk); (try clear hi); (try simp only [errW_none, errW_some]); have p26 : 0 ≤ (0 : Int) := (by omega); have q26 : 0 < a0.size := (by have : (0 : Int) < (a0.size : Int) := of_decide_eq_true z0_; omega); have hx26 : ∀ h : 0 < a0.size, ((a0[0]'h).toNat : Int) = bt a0 0 := bt_at a0 0; clear p26; have qi26 : (0 < (a0.size : Int)) = True := eq_true (of_decide_eq_true z0_); replace q26 := eq_true q26; clear tk6_)); go_ret2
      exact ⟨z3_, hb_ HB.out⟩
     rw [if_pos c27] at H; have c27b0 := beq_iff_eq.mpr c27; have c27b1 := bne_eq_false_iff_eq.mpr c27; clear c27; simp only [Option.some.injEq, Prod.mk.injEq] at H; obtain ⟨rfl, rfl⟩ := H; have tk3_ : True := trivial; have tk4_ : True := trivial; go_wp2_with (first | (have _t := tk3_; (with_reducible refine gate_callee (f := 145) rfl ?_); refine gl_ (some 43) Tryz.func145 #[.string (a0.extract 1 3)] ?_; (with_reducible refine (strconv_Atoi.calls (a0.extract 1 3) t104 t105 _ A19.out).mono ?_); rintro e w28 ⟨rfl, hb⟩; refine ⟨_, rfl, ?_⟩; replace HB := ah_ HB hb; (try clear hb); (try clear hb2); (try clear hk); (try clear hi); (try simp only [errW_none, errW_some]); clear tk3_) | (have _t := tk4_; (with_reducible refine gate_callee (f := 145) rfl ?_); refine gl_ (some 49) Tryz.func145 #[.string (a0.extract 3 a0.size)] ?_; (with_reducible refine (strconv_Atoi.calls (a0.extract 3 a0.size) t106 t107 _ A21.out).mono ?_); rintro e w29 ⟨rfl, hb⟩; refine ⟨_, rfl, ?_⟩; replace HB := ah_ HB hb; (try clear hb); (try clear hb2); (try clear hk); (try clear hi); (try simp only [errW_none, errW_some]); have p26 : 0 ≤ (0 : Int) := (by omega); have q26 : 0 < a0.size := (by have : (0 : Int) < (a0.size : Int) := of_decide_eq_true z0_; omega); have hx26 : ∀ h : 0 < a0.size, ((a0[0]'h).toNat : Int) = bt a0 0 := bt_at a0 0; clear p26; have qi26 : (0 < (a0.size : Int)) = True := eq_true (of_decide_eq_true z0_); replace q26 := eq_true q26; clear tk4_)); go_ret2
     exact ⟨z3_, hb_ HB.out⟩


def commit_ParseWho.j0 : Nat → ByteArray → ByteArray → Int → Int → Bool → Option (ByteArray × ByteArray × Int × Int × Int)
 | 0, _, _, _, _, _ => none
 | k + 1, x4, x7, x12, x14, x68 => if x68 = true then (some ((⟨#[]⟩ : ByteArray), (⟨#[]⟩ : ByteArray), 0, 0, 2)) else ((commit_somebody.f k x4 x7 x12 x14).bind fun t124 => (if t124 = true then (some (x4, x7, x12, x14, 0)) else (some ((⟨#[]⟩ : ByteArray), (⟨#[]⟩ : ByteArray), 0, 0, 1))))
def commit_ParseWho.f (k : Nat) (a0 : ByteArray) : Option (ByteArray × ByteArray × Int × Int × Int) := (strings_Cut.f a0 ⟨#[32, 60]⟩).bind fun bt109 => ((strings_Cut.f bt109.2.1 ⟨#[62, 32]⟩).bind fun bt112 => ((strings_Cut.f bt112.2.1 ⟨#[32]⟩).bind fun bt115 => ((commit_digits.f k bt115.1 18).bind fun bt118 => ((commit_zone.f k bt115.2.1).bind fun bt120 => (if bt109.2.2 = true then (if bt112.2.2 = true then (if bt115.2.2 = true then (if bt118.2 = true then (if bt120.2 = true then (if bt109.1.size + bt112.1.size ≤ 9223372036854775807 then ((strings_ContainsAny.f (bt109.1 ++ bt112.1) ⟨#[60, 62]⟩).bind fun t122 => (commit_ParseWho.j0 k bt109.1 bt112.1 bt118.1 bt120.1 t122)) else (none)) else (commit_ParseWho.j0 k bt109.1 bt112.1 bt118.1 bt120.1 true)) else (commit_ParseWho.j0 k bt109.1 bt112.1 bt118.1 bt120.1 true)) else (commit_ParseWho.j0 k bt109.1 bt112.1 bt118.1 bt120.1 true)) else (commit_ParseWho.j0 k bt109.1 bt112.1 bt118.1 bt120.1 true)) else (commit_ParseWho.j0 k bt109.1 bt112.1 bt118.1 bt120.1 true))))))
theorem commit_ParseWho.mono_l : ∀ k, (∀ y0 y1 y2 y3 y4, LeO (commit_ParseWho.j0 k y0 y1 y2 y3 y4) (commit_ParseWho.j0 (k + 1) y0 y1 y2 y3 y4))
 | 0 => fun _ _ _ _ _ r h => by simp [commit_ParseWho.j0] at h
 | k + 1 => by
  have ih0 := commit_ParseWho.mono_l k
  ·intro y0 y1 y2 y3 y4
   unfold commit_ParseWho.j0
   have m0_ := @ih0
   have m1_ := @commit_digits.mono
   have m2_ := @commit_somebody.mono
   have m3_ := @commit_zone.mono
   exact mz_
theorem commit_ParseWho.mono : ∀ a0 k, LeO (commit_ParseWho.f k a0) (commit_ParseWho.f (k + 1) a0) := by
 intro a0 k; have ih0 := commit_ParseWho.mono_l k; unfold commit_ParseWho.f; have m0_ := @ih0; have m1_ := @commit_digits.mono; have m2_ := @commit_somebody.mono; have m3_ := @commit_zone.mono; exact mz_
set_option maxHeartbeats 8000000 in
set_option maxRecDepth 100000 in
theorem commit_ParseWho.calls (k : Nat) (a0 : ByteArray) (r1 : ByteArray) (r2 : ByteArray) (r3 : Int) (r4 : Int) (r5 : Int) (w : World) (hgv : GV w) (h : commit_ParseWho.f k a0 = some (r1, r2, r3, r4, r5)) :
  Calls Tryz.prog 29 #[.string a0] w fun e w' => e = .returned (.tuple #[.agg #[.string r1, .string r2, .int .i64 r3, .int .i64 r4], .int .i64 r5]) ∧ Below w.heap.size w w' := by
 have hu24 := Tryz.underlying24; have HB := Aside0.mk (Below.refl w.heap.size w); unfold commit_ParseWho.f at h; have H := h; clear h; replace H := Option.bind_eq_some_iff.mp H; obtain ⟨⟨t109, t110, t111⟩, A20, H⟩ := H; dsimp only at H; have A2 := Aside0.mk A20; clear A20; replace H := Option.bind_eq_some_iff.mp H; obtain ⟨⟨t112, t113, t114⟩, A30, H⟩ := H; dsimp only at H; have A3 := Aside0.mk A30; clear A30; replace H := Option.bind_eq_some_iff.mp H; obtain ⟨⟨t115, t116, t117⟩, A40, H⟩ := H; dsimp only at H; have A4 := Aside0.mk A40; clear A40; replace H := Option.bind_eq_some_iff.mp H; obtain ⟨⟨t118, t119⟩, A50, H⟩ := H; dsimp only at H; have A5 := Aside0.mk A50; clear A50; replace H := Option.bind_eq_some_iff.mp H; obtain ⟨⟨t120, t121⟩, A60, H⟩ := H; dsimp only at H; have A6 := Aside0.mk A60; clear A60; have HC7 := Aside0.mk H; clear H; go_enter Tryz.func29, Tryz.ntmps29; go_upto_region 6 with (first | ((with_reducible refine gate_dst (N := 2) rfl ?_); refine be_ (cs := #[.string ⟨#[]⟩, .string ⟨#[]⟩, .int .i64 0, .int .i64 0]) (t := 24) ?_; intro gb108 hg w8 hbox hb; have BK108 := Aside0.mk (hbox); have GW108 := ag_ hg HB; have GE108 := ag_ hg HB; replace HB := ah_ HB hb; clear hb hbox hg) | ((with_reducible refine gate_callee (f := 82) rfl ?_); refine gl_ (some 19) Tryz.func82 #[.string a0, .string ⟨#[32, 60]⟩] ?_; (with_reducible refine (strings_Cut.calls a0 ⟨#[32, 60]⟩ t109 t110 t111 _ ?side1 A2.out).mono ?_); (case side1 => exact GV.below hgv (hs_)); rintro e w' ⟨rfl, ⟨nd, rfl⟩⟩; refine ⟨_, rfl, ?_⟩) | ((with_reducible refine gate_callee (f := 82) rfl ?_); refine gl_ (some 25) Tryz.func82 #[.string t110, .string ⟨#[62, 32]⟩] ?_; (with_reducible refine (strings_Cut.calls t110 ⟨#[62, 32]⟩ t112 t113 t114 _ ?side1 A3.out).mono ?_); (case side1 => exact GV.below hgv (hs_)); rintro e w' ⟨rfl, ⟨nd, rfl⟩⟩; refine ⟨_, rfl, ?_⟩) | ((with_reducible refine gate_callee (f := 82) rfl ?_); refine gl_ (some 31) Tryz.func82 #[.string t113, .string ⟨#[32]⟩] ?_; (with_reducible refine (strings_Cut.calls t113 ⟨#[32]⟩ t115 t116 t117 _ ?side1 A4.out).mono ?_); (case side1 => exact GV.below hgv (hs_)); rintro e w' ⟨rfl, ⟨nd, rfl⟩⟩; refine ⟨_, rfl, ?_⟩) | ((with_reducible refine gate_callee (f := 83) rfl ?_); refine gl_ (some 37) Tryz.func83 #[.string t115, .int .i64 18] ?_; (with_reducible refine (commit_digits.calls k t115 18 t118 t119 _ A5.out).mono ?_); rintro e w9 ⟨rfl, hb⟩; refine ⟨_, rfl, ?_⟩; replace BK108 := ab_ BK108 hb; replace HB := Aside0.mk (below_step (hs_) hb); (try clear hb); (try clear hb2); (try clear hk); (try clear hi)) | ((with_reducible refine gate_callee (f := 84) rfl ?_); refine gl_ (some 42) Tryz.func84 #[.string t116] ?_; (with_reducible refine (commit_zone.calls k t116 t120 t121 _ A6.out).mono ?_); rintro e w10 ⟨rfl, hb⟩; refine ⟨_, rfl, ?_⟩; replace BK108 := ab_ BK108 hb; replace HB := Aside0.mk (below_step (hs_) hb); (try clear hb); (try clear hb2); (try clear hk); (try clear hi)))
 (try simp only [Act.put, List.setIfInBounds_toArray, List.set_cons_zero, List.set_cons_succ])
 go_cut [68] (fun v68 wc => ∃ (kq : Nat) (x68_6 : Bool), v68 = .bool x68_6 ∧ Aside0 (commit_ParseWho.j0 kq t109 t112 t118 t120 x68_6 = some (r1, r2, r3, r4, r5)) ∧ Aside0 (kq ≤ k) ∧ Aside0 (wc.heap[gb108]? = some (.cells #[.string ⟨#[]⟩, .string ⟨#[]⟩, .int .i64 0, .int .i64 0] 24 (0, 0))) ∧ Aside0 (Below w.heap.size w wc))
 case first =>
  have H := HC7.out; clear HC7; by_cases c11 : t111 = true; rotate_left
  ·replace c11 := Bool.eq_false_iff.mpr c11; subst c11; rw [if_neg nft_] at H; have H' := Aside0.mk H; clear H; go_wp2
   go_meet
   case rel => exact ⟨_, (true), z1_, H', ⟨z4_⟩, ⟨bk_ BK108.out⟩, ⟨hs_⟩⟩
  subst c11; rw [if_pos rfl] at H; by_cases c12 : t114 = true; rotate_left
  ·replace c12 := Bool.eq_false_iff.mpr c12; subst c12; rw [if_neg nft_] at H; have H' := Aside0.mk H; clear H; go_wp2
   go_meet
   case rel => exact ⟨_, (true), z1_, H', ⟨z4_⟩, ⟨bk_ BK108.out⟩, ⟨hs_⟩⟩
  subst c12; rw [if_pos rfl] at H; by_cases c13 : t117 = true; rotate_left
  ·replace c13 := Bool.eq_false_iff.mpr c13; subst c13; rw [if_neg nft_] at H; have H' := Aside0.mk H; clear H; go_wp2
   go_meet
   case rel => exact ⟨_, (true), z1_, H', ⟨z4_⟩, ⟨bk_ BK108.out⟩, ⟨hs_⟩⟩
  subst c13; rw [if_pos rfl] at H; by_cases c14 : t119 = true; rotate_left
  ·replace c14 := Bool.eq_false_iff.mpr c14; subst c14; rw [if_neg nft_] at H; have H' := Aside0.mk H; clear H; go_wp2
   go_meet
   case rel => exact ⟨_, (true), z1_, H', ⟨z4_⟩, ⟨bk_ BK108.out⟩, ⟨hs_⟩⟩
  subst c14; rw [if_pos rfl] at H; by_cases c15 : t121 = true; rotate_left
  ·replace c15 := Bool.eq_false_iff.mpr c15; subst c15; rw [if_neg nft_] at H; have H' := Aside0.mk H; clear H; go_wp2
   go_meet
   case rel => exact ⟨_, (true), z1_, H', ⟨z4_⟩, ⟨bk_ BK108.out⟩, ⟨hs_⟩⟩
  subst c15; rw [if_pos rfl] at H; by_cases c16 : t109.size + t112.size ≤ 9223372036854775807; rotate_left
  ·rw [if_neg c16] at H; exact absurd H (by simp)
  rw [if_pos c16] at H; have c16b0 := eq_true c16; have c16b1 := decide_eq_true c16; try have c16b2 := nl_ c16
  replace H := Option.bind_eq_some_iff.mp H; obtain ⟨t122, A170, H⟩ := H; have A17 := Aside0.mk A170; clear A170; have H' := Aside0.mk H; clear H; go_wp2_with (first | (go_at_call 85; (with_reducible refine (strings_ContainsAny.calls (t109 ++ t112) ⟨#[60, 62]⟩ t122 _ A17.out).mono ?_); rintro e w18 ⟨rfl, hb⟩; replace BK108 := ab_ BK108 hb; replace HB := Aside0.mk (below_step (hs_) hb); (try clear hb); (try clear hb2); (try clear hk); (try clear hi)))
  go_meet
  case rel => exact ⟨_, (t122), z1_, H', ⟨z4_⟩, ⟨bk_ BK108.out⟩, ⟨hs_⟩⟩
 case rest =>
  clear HC7; try clear c1
  try clear c2
  try clear p2
  try clear c8
  try clear c11
  try clear c12
  try clear c13
  try clear c14
  try clear c15
  try clear c16
  try clear c16b0
  try clear c16b1
  try clear c16b2
  obtain ⟨kq, x68_6, rfl, HA, HJ6, BK108, HB⟩ := hcut
  cases kq with
  | zero => exact absurd HA.out (by simp [commit_ParseWho.j0])
  | succ kj6 =>
   have H := HA.out; clear HA; simp only [commit_ParseWho.j0] at H; by_cases c19 : x68_6 = true
   ·subst c19; rw [if_pos rfl] at H; simp only [Option.some.injEq, Prod.mk.injEq] at H; obtain ⟨rfl, rfl, rfl, rfl, rfl⟩ := H; obtain ⟨Z20_0, Z20_1, Z20_2, Z20_3, F20_0, F20_1, F20_2, F20_3⟩ := bc4 BK108.out; go_wp2
    refine bodyPost_ret (results_ct rfl _ _ gb108 24 #[.string ⟨#[]⟩, .string ⟨#[]⟩, .int .i64 0, .int .i64 0] (0, 0) _ rfl (by have b_ := BK108; exact zb_) Tryz.underlying24 rfl (by kernel_rfl)) rfl ?_; exact ⟨z3_, hs_⟩
   replace c19 := Bool.eq_false_iff.mpr c19; subst c19; rw [if_neg nft_] at H; replace H := Option.bind_eq_some_iff.mp H; obtain ⟨t124, A210, H⟩ := H; have A21 := Aside0.mk A210; clear A210; by_cases c22 : t124 = true; rotate_left
   ·replace c22 := Bool.eq_false_iff.mpr c22; subst c22; rw [if_neg nft_] at H; simp only [Option.some.injEq, Prod.mk.injEq] at H; obtain ⟨rfl, rfl, rfl, rfl, rfl⟩ := H; go_wp2_with (first | ((with_reducible refine gate_dst (N := 16) rfl ?_); refine be_ (cs := #[.string ⟨#[]⟩, .string ⟨#[]⟩, .int .i64 0, .int .i64 0]) (t := 24) ?_; intro gb123 hg w29 hbox hb; have BK123 := Aside0.mk (hbox); have GW123 := Aside0.mk ((by rw [hg]; exact (below_size (hs_)) : w.heap.size ≤ gb123)); have GE123 := Aside0.mk ((by rw [hg]; exact (below_size (hs_)) : w.heap.size ≤ gb123)); replace HB := Aside0.mk (below_step (hs_) hb); have NB108_123 := Aside0.mk (nl2_ hg BK108.out); have NB123_108 := Aside0.mk (ng2_ hg BK108.out); replace BK108 := ab_ BK108 hb; clear hb hbox hg; have hnb30 := NB123_108.out; have hnc30 := NB108_123.out; obtain ⟨Z31_0, Z31_1, Z31_2, Z31_3, F31_0, F31_1, F31_2, F31_3⟩ := bc4 BK123.out) | ((with_reducible refine gate_callee (f := 67) rfl ?_); refine gl_ (some 76) Tryz.func67 #[.agg #[.string t109, .string t112, .int .i64 t118, .int .i64 t120]] ?_; (with_reducible refine (commit_somebody.calls kj6 t109 t112 t118 t120 false _ A21.out).mono ?_); rintro e w32 ⟨rfl, hb⟩; refine ⟨_, rfl, ?_⟩; replace BK108 := Aside0.mk (blk_below (g := gb108) (o := .cells #[.string ⟨#[]⟩, .string ⟨#[]⟩, .int .i64 0, .int .i64 0] 24 (0, 0)) (by have b_ := BK108; have f_ := NB108_123; exact zb_) hb); replace BK123 := Aside0.mk (blk_below (g := gb123) (o := .cells #[.string t109, .string t112, .int .i64 t118, .int .i64 t120] 24 (0, 0)) (by have b_ := BK123; exact zb_) hb); replace HB := Aside0.mk (below_step (hs_) hb); (try clear hb); (try clear hb2); (try clear hk); (try clear hi); obtain ⟨Z33_0, Z33_1, Z33_2, Z33_3, F33_0, F33_1, F33_2, F33_3⟩ := bc4 BK108.out)); refine bodyPost_ret (results_ct rfl _ _ gb108 24 #[.string ⟨#[]⟩, .string ⟨#[]⟩, .int .i64 0, .int .i64 0] (0, 0) _ rfl (by have b_ := BK108; exact zb_) Tryz.underlying24 rfl (by kernel_rfl)) rfl ?_; exact ⟨z3_, hs_⟩
   subst c22; rw [if_pos rfl] at H; simp only [Option.some.injEq, Prod.mk.injEq] at H; obtain ⟨rfl, rfl, rfl, rfl, rfl⟩ := H; go_wp2_with (first | ((with_reducible refine gate_dst (N := 16) rfl ?_); refine be_ (cs := #[.string ⟨#[]⟩, .string ⟨#[]⟩, .int .i64 0, .int .i64 0]) (t := 24) ?_; intro gb123 hg w23 hbox hb; have BK123 := Aside0.mk (hbox); have GW123 := Aside0.mk ((by rw [hg]; exact (below_size (hs_)) : w.heap.size ≤ gb123)); have GE123 := Aside0.mk ((by rw [hg]; exact (below_size (hs_)) : w.heap.size ≤ gb123)); replace HB := Aside0.mk (below_step (hs_) hb); have NB108_123 := Aside0.mk (nl2_ hg BK108.out); have NB123_108 := Aside0.mk (ng2_ hg BK108.out); replace BK108 := ab_ BK108 hb; clear hb hbox hg; have hnb24 := NB123_108.out; have hnc24 := NB108_123.out; obtain ⟨Z25_0, Z25_1, Z25_2, Z25_3, F25_0, F25_1, F25_2, F25_3⟩ := bc4 BK123.out) | ((with_reducible refine gate_callee (f := 67) rfl ?_); refine gl_ (some 76) Tryz.func67 #[.agg #[.string t109, .string t112, .int .i64 t118, .int .i64 t120]] ?_; (with_reducible refine (commit_somebody.calls kj6 t109 t112 t118 t120 true _ A21.out).mono ?_); rintro e w26 ⟨rfl, hb⟩; refine ⟨_, rfl, ?_⟩; replace BK108 := Aside0.mk (blk_below (g := gb108) (o := .cells #[.string ⟨#[]⟩, .string ⟨#[]⟩, .int .i64 0, .int .i64 0] 24 (0, 0)) (by have b_ := BK108; have f_ := NB108_123; exact zb_) hb); replace BK123 := Aside0.mk (blk_below (g := gb123) (o := .cells #[.string t109, .string t112, .int .i64 t118, .int .i64 t120] 24 (0, 0)) (by have b_ := BK123; exact zb_) hb); replace HB := Aside0.mk (below_step (hs_) hb); (try clear hb); (try clear hb2); (try clear hk); (try clear hi); obtain ⟨Z27_0, Z27_1, Z27_2, Z27_3, F27_0, F27_1, F27_2, F27_3⟩ := bc4 BK123.out; obtain ⟨Z28_0, Z28_1, Z28_2, Z28_3, F28_0, F28_1, F28_2, F28_3⟩ := bc4 BK108.out)); refine bodyPost_ret (results_ct rfl _ _ gb108 24 #[.string t109, .string t112, .int .i64 t118, .int .i64 t120] (0, 0) _ rfl (by have b_ := BK108; exact zb_) Tryz.underlying24 rfl (by kernel_rfl)) rfl ?_; exact ⟨z3_, hs_⟩


def commit_reader_who.f (k : Nat) (s0_0 : ByteArray) (s0_1 : Int) (a1 : ByteArray) : Option (ByteArray × ByteArray × Int × Int × ByteArray × Int) := (commit_reader_line.f s0_0 s0_1 a1).bind fun bt108 => ((commit_ParseWho.f k bt108.1).bind fun bt111 => (if bt111.2.2.2.2 = 0 then (some (bt111.1, bt111.2.1, bt111.2.2.1, bt111.2.2.2.1, bt108.2.1, bt108.2.2)) else ((commit_reader_fail.f bt108.2.1 bt108.2.2 bt111.2.2.2.2).bind fun bt117 => (some (bt111.1, bt111.2.1, bt111.2.2.1, bt111.2.2.2.1, bt117.1, bt117.2)))))
theorem commit_reader_who.mono : ∀ a0 a1 a2 k, LeO (commit_reader_who.f k a0 a1 a2) (commit_reader_who.f (k + 1) a0 a1 a2) := by
 intro a0 a1 a2 k; unfold commit_reader_who.f; have m0_ := @commit_ParseWho.mono; exact mz_
set_option maxHeartbeats 8000000 in
set_option maxRecDepth 100000 in
theorem commit_reader_who.calls (k : Nat) (g : Nat) (s0_0 : ByteArray) (s0_1 : Int) (a1 : ByteArray) (r1 : ByteArray) (r2 : ByteArray) (r3 : Int) (r4 : Int) (r5 : ByteArray) (r6 : Int) (w0 w : World) (hI : IsS87 w0 w g s0_0 s0_1) (hB : Below w0.heap.size w0 w) (hgv : GV w0) (h : commit_reader_who.f k s0_0 s0_1 a1 = some (r1, r2, r3, r4, r5, r6)) :
  Calls Tryz.prog 72 #[.pointer (some ⟨g, 0, none⟩), .string a1] w fun e w' => e = .returned (.agg #[.string r1, .string r2, .int .i64 r3, .int .i64 r4]) ∧ IsS87 w0 w' g r5 r6 ∧ Below w0.heap.size w0 w' ∧ KeepBut w w' g none := by
 have hu24 := Tryz.underlying24; have HI0 := Aside0.mk hI; have HK := Aside0.mk (KeepBut.refl w g none); have HL := Aside0.mk hB.size; clear hI; have HW0 := Aside0.mk hB.size; have HB := Aside0.mk hB; clear hB; unfold commit_reader_who.f at h; have H := h; clear h; replace H := Option.bind_eq_some_iff.mp H; obtain ⟨⟨t108, t109, t110⟩, A30, H⟩ := H; dsimp only at H; have A3 := Aside0.mk A30; clear A30; replace H := Option.bind_eq_some_iff.mp H; obtain ⟨⟨t111, t112, t113, t114, t115⟩, A40, H⟩ := H; dsimp only at H; have A4 := Aside0.mk A40; clear A40; by_cases c5 : t115 = 0
 ·rw [if_pos c5] at H; have c5b0 := beq_iff_eq.mpr c5; have c5b1 := bne_eq_false_iff_eq.mpr c5; clear c5; simp only [Option.some.injEq, Prod.mk.injEq] at H; obtain ⟨rfl, rfl, rfl, rfl, rfl, rfl⟩ := H; go_enter Tryz.func72, Tryz.ntmps72; go_wp2_with (first | ((with_reducible refine gate_dst (N := 4) rfl ?_); refine be_ (cs := #[.string ⟨#[]⟩, .string ⟨#[]⟩, .int .i64 0, .int .i64 0]) (t := 24) ?_; intro gb107 hg w6 hbox hb; replace HB := Aside0.mk (below_step z12_ hb); have BK107 := Aside0.mk (hbox); have GW107 := Aside0.mk ((by rw [hg]; exact (keep_size (w := w) (g := g) (row := none) z7_) : w.heap.size ≤ gb107)); have GE107 := Aside0.mk ((Nat.le_trans HW0.out (by rw [hg]; exact (keep_size (w := w) (g := g) (row := none) z7_) : w.heap.size ≤ gb107) : w0.heap.size ≤ gb107)); replace HK := Aside0.mk (KeepBut.trans z7_ (KeepBut.of_below hb g none) (.inl rfl)); have NB0_107 := Aside0.mk ((by rw [hg]; exact Nat.ne_of_lt (IsS87.lt (show IsS87 w0 _ g s0_0 s0_1 from z11_)) : g ≠ gb107)); have NB107_0 := Aside0.mk ((by rw [hg]; exact Nat.ne_of_gt (IsS87.lt (show IsS87 w0 _ g s0_0 s0_1 from z11_)) : gb107 ≠ g)); replace HI0 := Aside0.mk (IsS87.below z11_ hb); clear hb hbox hg) | ((with_reducible refine gate_callee (f := 73) rfl ?_); refine gl_ (some 10) Tryz.func73 #[.pointer (some ⟨g, 0, none⟩), .string a1] ?_; (with_reducible refine (commit_reader_line.calls g s0_0 s0_1 a1 t108 t109 t110 w0 _ ?side1 ?side2 ?side3 A3.out).mono ?_); (case side1 => repeat (first | (with_reducible first | exact HI0.out | apply IsS87.alloc | apply IsS87.drewN | apply IsS87.drew | apply IsS87.set_0 | apply IsS87.set_1 | refine IsS87.far ?_ NB0_107.out _) | exact HI0.out)); (case side2 => repeat (first | (with_reducible first | exact HB.out | apply below_alloc | apply pw_below_drewN | apply below_drew1 | refine below_set ?_ (IsS87.ge HI0.out) | refine below_set ?_ GE107.out) | exact HB.out)); (case side3 => exact hgv); rintro e w7 ⟨rfl, hi, hb, hk⟩; refine ⟨_, rfl, ?_⟩; replace BK107 := Aside0.mk (KeepBut.blk hk (g' := gb107) (o := .cells #[.string ⟨#[]⟩, .string ⟨#[]⟩, .int .i64 0, .int .i64 0] 24 (0, 0)) (bk_ BK107.out) NB107_0.out (by simp)); replace HK := Aside0.mk (KeepBut.trans z15_ hk (.inl rfl)); replace HB := Aside0.mk (hb); replace HI0 := Aside0.mk (hi); (try clear hb); (try clear hb2); (try clear hk); (try clear hi)) | ((with_reducible refine gate_callee (f := 29) rfl ?_); refine gl_ (some 11) Tryz.func29 #[.string t108] ?_; (with_reducible refine (commit_ParseWho.calls k t108 t111 t112 t113 t114 t115 _ ?side1 A4.out).mono ?_); (case side1 => exact GV.below hgv z26_); rintro e w8 ⟨rfl, hb⟩; refine ⟨_, rfl, ?_⟩; replace BK107 := ab_ BK107 hb; replace HK := Aside0.mk (KeepBut.trans z15_ (KeepBut.of_below hb g none) (.inl rfl)); replace HB := Aside0.mk (below_step z26_ hb); replace HI0 := Aside0.mk (IsS87.below z21_ hb); (try clear hb); (try clear hb2); (try clear hk); (try clear hi)) | ((with_reducible refine gate_dst (N := 5) rfl ?_); refine be_ (cs := #[.string ⟨#[]⟩, .string ⟨#[]⟩, .int .i64 0, .int .i64 0]) (t := 24) ?_; intro gb116 hg w9 hbox hb; replace HB := Aside0.mk (below_step z26_ hb); have BK116 := Aside0.mk (hbox); have GW116 := Aside0.mk ((by rw [hg]; exact (keep_size (w := w) (g := g) (row := none) z15_) : w.heap.size ≤ gb116)); have GE116 := Aside0.mk ((Nat.le_trans HW0.out (by rw [hg]; exact (keep_size (w := w) (g := g) (row := none) z15_) : w.heap.size ≤ gb116) : w0.heap.size ≤ gb116)); replace HK := Aside0.mk (KeepBut.trans z15_ (KeepBut.of_below hb g none) (.inl rfl)); have NB107_116 := Aside0.mk (nl2_ hg BK107.out); have NB116_107 := Aside0.mk (ng2_ hg BK107.out); replace BK107 := ab_ BK107 hb; have NB0_116 := Aside0.mk ((by rw [hg]; exact Nat.ne_of_lt (IsS87.lt (show IsS87 w0 _ g t109 t110 from z21_)) : g ≠ gb116)); have NB116_0 := Aside0.mk ((by rw [hg]; exact Nat.ne_of_gt (IsS87.lt (show IsS87 w0 _ g t109 t110 from z21_)) : gb116 ≠ g)); replace HI0 := Aside0.mk (IsS87.below z21_ hb); clear hb hbox hg; have hnb10 := NB116_107.out; have hnc10 := NB107_116.out; have hnb11 := NB116_0.out; have hnc11 := NB0_116.out; obtain ⟨Z12_0, Z12_1, Z12_2, Z12_3, F12_0, F12_1, F12_2, F12_3⟩ := bc4 BK116.out; have hnb13 := NB107_0.out; have hnc13 := NB0_107.out; obtain ⟨Z14_0, Z14_1, Z14_2, Z14_3, F14_0, F14_1, F14_2, F14_3⟩ := bc4 BK107.out))
  refine bodyPost_ret (results_cell_row rfl _ _ gb107 24 #[.string t111, .string t112, .int .i64 t113, .int .i64 t114] (0, 0) _ rfl (by have b_ := BK107; have f_ := NB107_116; exact zb_) Tryz.underlying24 rfl (by kernel_rfl)) rfl ?_; exact ⟨z3_, by repeat (first | (with_reducible first | exact HI0.out | apply IsS87.alloc | apply IsS87.drewN | apply IsS87.drew | apply IsS87.set_0 | apply IsS87.set_1 | refine IsS87.far ?_ NB0_107.out _ | refine IsS87.far ?_ NB0_116.out _) | exact HI0.out), by repeat (first | (with_reducible first | exact HB.out | apply below_alloc | apply pw_below_drewN | apply below_drew1 | refine below_set ?_ (IsS87.ge HI0.out) | refine below_set ?_ GE107.out | refine below_set ?_ GE116.out) | exact HB.out), z37_⟩
 rw [if_neg c5] at H; have c5b0 := beq_eq_false_iff_ne.mpr c5; have c5b1 := bne_iff_ne.mpr c5; replace H := Option.bind_eq_some_iff.mp H; obtain ⟨⟨t117, t118⟩, A150, H⟩ := H; dsimp only at H; have A15 := Aside0.mk A150; clear A150; simp only [Option.some.injEq, Prod.mk.injEq] at H; obtain ⟨rfl, rfl, rfl, rfl, rfl, rfl⟩ := H; go_enter Tryz.func72, Tryz.ntmps72; go_wp2_with (first | ((with_reducible refine gate_dst (N := 4) rfl ?_); refine be_ (cs := #[.string ⟨#[]⟩, .string ⟨#[]⟩, .int .i64 0, .int .i64 0]) (t := 24) ?_; intro gb107 hg w16 hbox hb; replace HB := Aside0.mk (below_step z12_ hb); have BK107 := Aside0.mk (hbox); have GW107 := Aside0.mk ((by rw [hg]; exact (keep_size (w := w) (g := g) (row := none) z7_) : w.heap.size ≤ gb107)); have GE107 := Aside0.mk ((Nat.le_trans HW0.out (by rw [hg]; exact (keep_size (w := w) (g := g) (row := none) z7_) : w.heap.size ≤ gb107) : w0.heap.size ≤ gb107)); replace HK := Aside0.mk (KeepBut.trans z7_ (KeepBut.of_below hb g none) (.inl rfl)); have NB0_107 := Aside0.mk ((by rw [hg]; exact Nat.ne_of_lt (IsS87.lt (show IsS87 w0 _ g s0_0 s0_1 from z11_)) : g ≠ gb107)); have NB107_0 := Aside0.mk ((by rw [hg]; exact Nat.ne_of_gt (IsS87.lt (show IsS87 w0 _ g s0_0 s0_1 from z11_)) : gb107 ≠ g)); replace HI0 := Aside0.mk (IsS87.below z11_ hb); clear hb hbox hg) | ((with_reducible refine gate_callee (f := 73) rfl ?_); refine gl_ (some 10) Tryz.func73 #[.pointer (some ⟨g, 0, none⟩), .string a1] ?_; (with_reducible refine (commit_reader_line.calls g s0_0 s0_1 a1 t108 t109 t110 w0 _ ?side1 ?side2 ?side3 A3.out).mono ?_); (case side1 => repeat (first | (with_reducible first | exact HI0.out | apply IsS87.alloc | apply IsS87.drewN | apply IsS87.drew | apply IsS87.set_0 | apply IsS87.set_1 | refine IsS87.far ?_ NB0_107.out _) | exact HI0.out)); (case side2 => repeat (first | (with_reducible first | exact HB.out | apply below_alloc | apply pw_below_drewN | apply below_drew1 | refine below_set ?_ (IsS87.ge HI0.out) | refine below_set ?_ GE107.out) | exact HB.out)); (case side3 => exact hgv); rintro e w17 ⟨rfl, hi, hb, hk⟩; refine ⟨_, rfl, ?_⟩; replace BK107 := Aside0.mk (KeepBut.blk hk (g' := gb107) (o := .cells #[.string ⟨#[]⟩, .string ⟨#[]⟩, .int .i64 0, .int .i64 0] 24 (0, 0)) (bk_ BK107.out) NB107_0.out (by simp)); replace HK := Aside0.mk (KeepBut.trans z15_ hk (.inl rfl)); replace HB := Aside0.mk (hb); replace HI0 := Aside0.mk (hi); (try clear hb); (try clear hb2); (try clear hk); (try clear hi)) | ((with_reducible refine gate_callee (f := 29) rfl ?_); refine gl_ (some 11) Tryz.func29 #[.string t108] ?_; (with_reducible refine (commit_ParseWho.calls k t108 t111 t112 t113 t114 t115 _ ?side1 A4.out).mono ?_); (case side1 => exact GV.below hgv z26_); rintro e w18 ⟨rfl, hb⟩; refine ⟨_, rfl, ?_⟩; replace BK107 := ab_ BK107 hb; replace HK := Aside0.mk (KeepBut.trans z15_ (KeepBut.of_below hb g none) (.inl rfl)); replace HB := Aside0.mk (below_step z26_ hb); replace HI0 := Aside0.mk (IsS87.below z21_ hb); (try clear hb); (try clear hb2); (try clear hk); (try clear hi)) | ((with_reducible refine gate_dst (N := 5) rfl ?_); refine be_ (cs := #[.string ⟨#[]⟩, .string ⟨#[]⟩, .int .i64 0, .int .i64 0]) (t := 24) ?_; intro gb116 hg w19 hbox hb; replace HB := Aside0.mk (below_step z26_ hb); have BK116 := Aside0.mk (hbox); have GW116 := Aside0.mk ((by rw [hg]; exact (keep_size (w := w) (g := g) (row := none) z15_) : w.heap.size ≤ gb116)); have GE116 := Aside0.mk ((Nat.le_trans HW0.out (by rw [hg]; exact (keep_size (w := w) (g := g) (row := none) z15_) : w.heap.size ≤ gb116) : w0.heap.size ≤ gb116)); replace HK := Aside0.mk (KeepBut.trans z15_ (KeepBut.of_below hb g none) (.inl rfl)); have NB107_116 := Aside0.mk (nl2_ hg BK107.out); have NB116_107 := Aside0.mk (ng2_ hg BK107.out); replace BK107 := ab_ BK107 hb; have NB0_116 := Aside0.mk ((by rw [hg]; exact Nat.ne_of_lt (IsS87.lt (show IsS87 w0 _ g t109 t110 from z21_)) : g ≠ gb116)); have NB116_0 := Aside0.mk ((by rw [hg]; exact Nat.ne_of_gt (IsS87.lt (show IsS87 w0 _ g t109 t110 from z21_)) : gb116 ≠ g)); replace HI0 := Aside0.mk (IsS87.below z21_ hb); clear hb hbox hg; have hnb20 := NB116_107.out; have hnc20 := NB107_116.out; have hnb21 := NB116_0.out; have hnc21 := NB0_116.out; obtain ⟨Z22_0, Z22_1, Z22_2, Z22_3, F22_0, F22_1, F22_2, F22_3⟩ := bc4 BK116.out) | ((with_reducible refine gate_callee (f := 74) rfl ?_); refine gl_ (some 18) Tryz.func74 #[.pointer (some ⟨g, 0, none⟩), .int .i64 t115] ?_; (with_reducible refine (commit_reader_fail.calls g t109 t110 t115 t117 t118 w0 _ ?side1 ?side2 A15.out).mono ?_); (case side1 => repeat (first | (with_reducible first | exact HI0.out | apply IsS87.alloc | apply IsS87.drewN | apply IsS87.drew | apply IsS87.set_0 | apply IsS87.set_1 | refine IsS87.far ?_ NB0_107.out _ | refine IsS87.far ?_ NB0_116.out _) | exact HI0.out)); (case side2 => repeat (first | (with_reducible first | exact HB.out | apply below_alloc | apply pw_below_drewN | apply below_drew1 | refine below_set ?_ (IsS87.ge HI0.out) | refine below_set ?_ GE107.out | refine below_set ?_ GE116.out) | exact HB.out)); rintro e w23 ⟨rfl, hi, hb, hk⟩; refine ⟨_, rfl, ?_⟩; replace BK107 := Aside0.mk (KeepBut.blk hk (g' := gb107) (o := .cells #[.string ⟨#[]⟩, .string ⟨#[]⟩, .int .i64 0, .int .i64 0] 24 (0, 0)) (by have b_ := BK107; have f_ := NB107_116; exact zb_) NB107_0.out (by simp)); replace BK116 := Aside0.mk (KeepBut.blk hk (g' := gb116) (o := .cells #[.string t111, .string t112, .int .i64 t113, .int .i64 t114] 24 (0, 0)) (by have b_ := BK116; exact zb_) NB116_0.out (by simp)); replace HK := Aside0.mk (KeepBut.trans z37_ hk (.inl rfl)); replace HB := Aside0.mk (hb); replace HI0 := Aside0.mk (hi); (try clear hb); (try clear hb2); (try clear hk); (try clear hi); obtain ⟨Z24_0, Z24_1, Z24_2, Z24_3, F24_0, F24_1, F24_2, F24_3⟩ := bc4 BK116.out; have hnb25 := NB107_0.out; have hnc25 := NB0_107.out; obtain ⟨Z26_0, Z26_1, Z26_2, Z26_3, F26_0, F26_1, F26_2, F26_3⟩ := bc4 BK107.out))
 refine bodyPost_ret (results_cell_row rfl _ _ gb107 24 #[.string t111, .string t112, .int .i64 t113, .int .i64 t114] (0, 0) _ rfl (by have b_ := BK107; exact zb_) Tryz.underlying24 rfl (by kernel_rfl)) rfl ?_; exact ⟨z3_, by repeat (first | (with_reducible first | exact HI0.out | apply IsS87.alloc | apply IsS87.drewN | apply IsS87.drew | apply IsS87.set_0 | apply IsS87.set_1 | refine IsS87.far ?_ NB0_107.out _ | refine IsS87.far ?_ NB0_116.out _) | exact HI0.out), by repeat (first | (with_reducible first | exact HB.out | apply below_alloc | apply pw_below_drewN | apply below_drew1 | refine below_set ?_ (IsS87.ge HI0.out) | refine below_set ?_ GE107.out | refine below_set ?_ GE116.out) | exact HB.out), z37_⟩

end Go.Proofs.YtbhfbbfjdklfgaaGreatDoor.Q


