/- The law CommitLinks holds: for every input it returns true, and each argument reads afterwards as it read before. -/
import Derived.Test.YtbhfbbfjdklfgaaGreatDoorMCommitLinks5
import Derived.Lib.IndexMore
import Derived.Lib.IndexLaws
import Derived.Lib.Atoi
import Derived.Lib.ItoaNum
import Derived.Lib.IndexAny
import Derived.Lib.LazyBuf
import Derived.Sort.Walk0
import Derived.Deep.Slices
import Derived.ChangeArms
set_option linter.unusedVariables false
set_option linter.unusedSimpArgs false
set_option maxHeartbeats 8000000
set_option maxRecDepth 100000
namespace Go.Proofs.YtbhfbbfjdklfgaaGreatDoor.Q
open Go.Proofs.Tryz Go.RowKit YtbhfbbfjdklfgaaGreatDoorW.PrintWords YtbhfbbfjdklfgaaGreatDoorW.PrintLast YtbhfbbfjdklfgaaGreatDoorW.PrintMore
section
attribute [local go_sem] qen_ qem_ qey_ qex_ qee_ qeg_ qel_ qek_
def qcp_.f (k : Nat) (a0_0 : ByteArray) (a0_1 : Int) (a0_2 : ByteArray) (a0_3 : ByteArray) (a0_4 : ByteArray) (a0_5 : Int) (a0_6 : Int) (a0_7 : ByteArray) : Option (ByteArray × Int) := (qar_.f k a0_0 a0_1 a0_2 a0_3 a0_4 a0_5 a0_6 a0_7).bind fun t120 => (if t120 = 0 then (if 7 + a0_0.size ≤ 9223372036854775807 then (if ((⟨#[111, 98, 106, 101, 99, 116, 32]⟩ : ByteArray) ++ a0_0).size + 6 ≤ 9223372036854775807 then ((qdn_.f a0_1).bind fun t121 => (if (((⟨#[111, 98, 106, 101, 99, 116, 32]⟩ : ByteArray) ++ a0_0) ++ (⟨#[10, 116, 121, 112, 101, 32]⟩ : ByteArray)).size + t121.size ≤ 9223372036854775807 then (if ((((⟨#[111, 98, 106, 101, 99, 116, 32]⟩ : ByteArray) ++ a0_0) ++ (⟨#[10, 116, 121, 112, 101, 32]⟩ : ByteArray)) ++ t121).size + 5 ≤ 9223372036854775807 then (if (((((⟨#[111, 98, 106, 101, 99, 116, 32]⟩ : ByteArray) ++ a0_0) ++ (⟨#[10, 116, 121, 112, 101, 32]⟩ : ByteArray)) ++ t121) ++ (⟨#[10, 116, 97, 103, 32]⟩ : ByteArray)).size + a0_2.size ≤ 9223372036854775807 then (if ((((((⟨#[111, 98, 106, 101, 99, 116, 32]⟩ : ByteArray) ++ a0_0) ++ (⟨#[10, 116, 121, 112, 101, 32]⟩ : ByteArray)) ++ t121) ++ (⟨#[10, 116, 97, 103, 32]⟩ : ByteArray)) ++ a0_2).size + 8 ≤ 9223372036854775807 then ((qcz_.f a0_3 a0_4 a0_5 a0_6).bind fun t122 => (if (((((((⟨#[111, 98, 106, 101, 99, 116, 32]⟩ : ByteArray) ++ a0_0) ++ (⟨#[10, 116, 121, 112, 101, 32]⟩ : ByteArray)) ++ t121) ++ (⟨#[10, 116, 97, 103, 32]⟩ : ByteArray)) ++ a0_2) ++ (⟨#[10, 116, 97, 103, 103, 101, 114, 32]⟩ : ByteArray)).size + t122.size ≤ 9223372036854775807 then (if ((((((((⟨#[111, 98, 106, 101, 99, 116, 32]⟩ : ByteArray) ++ a0_0) ++ (⟨#[10, 116, 121, 112, 101, 32]⟩ : ByteArray)) ++ t121) ++ (⟨#[10, 116, 97, 103, 32]⟩ : ByteArray)) ++ a0_2) ++ (⟨#[10, 116, 97, 103, 103, 101, 114, 32]⟩ : ByteArray)) ++ t122).size + 2 ≤ 9223372036854775807 then (if (((((((((⟨#[111, 98, 106, 101, 99, 116, 32]⟩ : ByteArray) ++ a0_0) ++ (⟨#[10, 116, 121, 112, 101, 32]⟩ : ByteArray)) ++ t121) ++ (⟨#[10, 116, 97, 103, 32]⟩ : ByteArray)) ++ a0_2) ++ (⟨#[10, 116, 97, 103, 103, 101, 114, 32]⟩ : ByteArray)) ++ t122) ++ (⟨#[10, 10]⟩ : ByteArray)).size + a0_7.size ≤ 9223372036854775807 then (some ((((((((((⟨#[111, 98, 106, 101, 99, 116, 32]⟩ : ByteArray) ++ a0_0) ++ (⟨#[10, 116, 121, 112, 101, 32]⟩ : ByteArray)) ++ t121) ++ (⟨#[10, 116, 97, 103, 32]⟩ : ByteArray)) ++ a0_2) ++ (⟨#[10, 116, 97, 103, 103, 101, 114, 32]⟩ : ByteArray)) ++ t122) ++ (⟨#[10, 10]⟩ : ByteArray)) ++ a0_7, 0)) else (none)) else (none)) else (none))) else (none)) else (none)) else (none)) else (none))) else (none)) else (none)) else (some ((⟨#[]⟩ : ByteArray), t120)))
theorem qcp_.mono : ∀ a0 a1 a2 a3 a4 a5 a6 a7 k, LeO (qcp_.f k a0 a1 a2 a3 a4 a5 a6 a7) (qcp_.f (k + 1) a0 a1 a2 a3 a4 a5 a6 a7) := by
 intro a0 a1 a2 a3 a4 a5 a6 a7 k; unfold qcp_.f; have m0_ := @qar_.mono; exact mz_
def qcp_.T4 : Bool × List (List Nat × List Nat) := (true, [([], []), ([0], [0]), ([1], [1]), ([2], [2]), ([], []), ([4], [4]), ([5], [5]), ([3, 6], [3, 6]), ([7], [7]), ([], []), ([9], [9]), ([8, 10], [8, 10]), ([11], [11]), ([], []), ([13], [13]), ([14, 6], [14]), ([12, 15], [12, 15]), ([16], [16]), ([], []), ([18], [18]), ([17, 19], [17, 19]), ([20, 15, 0, 1, 2, 3, 4, 5, 6, 7, 8, 9, 10, 11, 12, 13, 14, 15, 16, 17, 18, 19, 20], [20]), ([21, 0, 1, 2, 3, 4, 5, 6, 7, 8, 9, 10, 11, 12, 13, 14, 15, 16, 17, 18, 19, 20, 21], [])])
def qcp_.B4 : List Nat := [0, 1, 3, 7, 0, 16, 48, 127, 255, 0, 512, 2047, 4095, 0, 8192, 24688, 65535, 131071, 0, 262144, 1048575, 2097151, 4194303]
theorem qcp_.tab4 : rtab .any (opsOf Tryz.f25 4) = qcp_.T4 := by kernel_rfl
theorem qcp_.bits4 : qdu_ qcp_.T4.2 qcp_.B4 = true := by kernel_rfl
theorem qcp_.calls (k : Nat) (a0_0 : ByteArray) (a0_1 : Int) (a0_2 : ByteArray) (a0_3 : ByteArray) (a0_4 : ByteArray) (a0_5 : Int) (a0_6 : Int) (a0_7 : ByteArray) (r1 : ByteArray) (r2 : Int) (w : World) (hgv : GV w) (h : qcp_.f k a0_0 a0_1 a0_2 a0_3 a0_4 a0_5 a0_6 a0_7 = some (r1, r2)) :
  Calls Tryz.prog 25 #[.agg #[.string a0_0, .int .i64 a0_1, .string a0_2, .string a0_3, .string a0_4, .int .i64 a0_5, .int .i64 a0_6, .string a0_7]] w fun e w' => e = .returned (.tuple #[.string r1, .int .i64 r2]) ∧ Below w.heap.size w w' := by
 have hu37 := underlying37; have hu24 := underlying24; have HB := qa_.mk (Below.refl w.heap.size w); unfold qcp_.f at h; have H := h; clear h; obtain ⟨t120, A2, H⟩ := bx_ H; by_cases c3 : t120 = 0; rotate_left
 ·rw [if_neg c3] at H; have c3b0 := ef_ c3; have c3b1 := nt_ c3; obtain ⟨rfl, rfl⟩ := pj2_ H; go_enter func25, ntmps25; go_wp2_with (first | ((with_reducible refine qh_ (N := 1) rfl ?_); refine be_ (cs := #[.string a0_0, .int .i64 a0_1, .string a0_2, .string a0_3, .string a0_4, .int .i64 a0_5, .int .i64 a0_6, .string a0_7]) (t := 37) ?_; intro g119 hg w21 hbox hb; have K119 := qa_.mk (hbox); have W119 := ag_ hg HB; have E119 := ag_ hg HB; replace HB := ah_ HB hb; clear hb hbox hg; obtain ⟨Z22_0, Z22_1, Z22_2, Z22_3, Z22_4, Z22_5, Z22_6, Z22_7, F22⟩ := bc8 K119.out) | ((with_reducible refine qb_ (f := 27) rfl ?_); refine gl_ (some 6) func27 #[.agg #[.string a0_0, .int .i64 a0_1, .string a0_2, .string a0_3, .string a0_4, .int .i64 a0_5, .int .i64 a0_6, .string a0_7]] ?_; (with_reducible refine (qar_.calls k a0_0 a0_1 a0_2 a0_3 a0_4 a0_5 a0_6 a0_7 t120 _ ?side1 A2.out).mono ?_); (case side1 => exact GV.below hgv (hs_)); rintro e w23 ⟨rfl, hb⟩; refine ⟨_, rfl, ?_⟩; replace K119 := ab_ K119 hb; replace HB := hr_ hb; (try clear hb); (try clear hb2); (try clear hk); (try clear hi)))
  go_ret2
  exact ⟨z3_, hs_⟩
 rw [if_pos c3] at H; have c3b0 := et_ c3; have c3b1 := nf_ c3; clear c3; by_cases c4 : 7 + a0_0.size ≤ 9223372036854775807; rotate_left
 ·rw [if_neg c4] at H; exact no_ H
 rw [if_pos c4] at H; have c4b0 := eq_true c4; have c4b1 := dt_ c4; try have c4b2 := nl_ c4
 by_cases c5 : ((⟨#[111, 98, 106, 101, 99, 116, 32]⟩ : ByteArray) ++ a0_0).size + 6 ≤ 9223372036854775807; rotate_left
 ·rw [if_neg c5] at H; exact no_ H
 rw [if_pos c5] at H; have c5b0 := eq_true c5; have c5b1 := dt_ c5; try have c5b3 : (9223372036854775807 < 7 + a0_0.size + 6) = False := have h_ := c5; ns_
 try have c5b2 := nl_ c5
 obtain ⟨t121, A6, H⟩ := bx_ H; by_cases c7 : (((⟨#[111, 98, 106, 101, 99, 116, 32]⟩ : ByteArray) ++ a0_0) ++ (⟨#[10, 116, 121, 112, 101, 32]⟩ : ByteArray)).size + t121.size ≤ 9223372036854775807; rotate_left
 ·rw [if_neg c7] at H; exact no_ H
 rw [if_pos c7] at H; have c7b0 := eq_true c7; have c7b1 := dt_ c7; try have c7b3 : (9223372036854775807 < 7 + a0_0.size + 6 + t121.size) = False := have h_ := c7; ns_
 try have c7b2 := nl_ c7
 by_cases c8 : ((((⟨#[111, 98, 106, 101, 99, 116, 32]⟩ : ByteArray) ++ a0_0) ++ (⟨#[10, 116, 121, 112, 101, 32]⟩ : ByteArray)) ++ t121).size + 5 ≤ 9223372036854775807; rotate_left
 ·rw [if_neg c8] at H; exact no_ H
 rw [if_pos c8] at H; have c8b0 := eq_true c8; have c8b1 := dt_ c8; try have c8b3 : (9223372036854775807 < 7 + a0_0.size + 6 + t121.size + 5) = False := have h_ := c8; ns_
 try have c8b2 := nl_ c8
 by_cases c9 : (((((⟨#[111, 98, 106, 101, 99, 116, 32]⟩ : ByteArray) ++ a0_0) ++ (⟨#[10, 116, 121, 112, 101, 32]⟩ : ByteArray)) ++ t121) ++ (⟨#[10, 116, 97, 103, 32]⟩ : ByteArray)).size + a0_2.size ≤ 9223372036854775807; rotate_left
 ·rw [if_neg c9] at H; exact no_ H
 rw [if_pos c9] at H; have c9b0 := eq_true c9; have c9b1 := dt_ c9; try have c9b3 : (9223372036854775807 < 7 + a0_0.size + 6 + t121.size + 5 + a0_2.size) = False := have h_ := c9; ns_
 try have c9b2 := nl_ c9
 by_cases c10 : ((((((⟨#[111, 98, 106, 101, 99, 116, 32]⟩ : ByteArray) ++ a0_0) ++ (⟨#[10, 116, 121, 112, 101, 32]⟩ : ByteArray)) ++ t121) ++ (⟨#[10, 116, 97, 103, 32]⟩ : ByteArray)) ++ a0_2).size + 8 ≤ 9223372036854775807; rotate_left
 ·rw [if_neg c10] at H; exact no_ H
 rw [if_pos c10] at H; have c10b0 := eq_true c10; have c10b1 := dt_ c10; try have c10b3 : (9223372036854775807 < 7 + a0_0.size + 6 + t121.size + 5 + a0_2.size + 8) = False := have h_ := c10; ns_
 try have c10b2 := nl_ c10
 obtain ⟨t122, A11, H⟩ := bx_ H; by_cases c12 : (((((((⟨#[111, 98, 106, 101, 99, 116, 32]⟩ : ByteArray) ++ a0_0) ++ (⟨#[10, 116, 121, 112, 101, 32]⟩ : ByteArray)) ++ t121) ++ (⟨#[10, 116, 97, 103, 32]⟩ : ByteArray)) ++ a0_2) ++ (⟨#[10, 116, 97, 103, 103, 101, 114, 32]⟩ : ByteArray)).size + t122.size ≤ 9223372036854775807; rotate_left
 ·rw [if_neg c12] at H; exact no_ H
 rw [if_pos c12] at H; have c12b0 := eq_true c12; have c12b1 := dt_ c12; try have c12b3 : (9223372036854775807 < 7 + a0_0.size + 6 + t121.size + 5 + a0_2.size + 8 + t122.size) = False := have h_ := c12; ns_
 try have c12b2 := nl_ c12
 by_cases c13 : ((((((((⟨#[111, 98, 106, 101, 99, 116, 32]⟩ : ByteArray) ++ a0_0) ++ (⟨#[10, 116, 121, 112, 101, 32]⟩ : ByteArray)) ++ t121) ++ (⟨#[10, 116, 97, 103, 32]⟩ : ByteArray)) ++ a0_2) ++ (⟨#[10, 116, 97, 103, 103, 101, 114, 32]⟩ : ByteArray)) ++ t122).size + 2 ≤ 9223372036854775807; rotate_left
 ·rw [if_neg c13] at H; exact no_ H
 rw [if_pos c13] at H; have c13b0 := eq_true c13; have c13b1 := dt_ c13; try have c13b3 : (9223372036854775807 < 7 + a0_0.size + 6 + t121.size + 5 + a0_2.size + 8 + t122.size + 2) = False := have h_ := c13; ns_
 try have c13b2 := nl_ c13
 by_cases c14 : (((((((((⟨#[111, 98, 106, 101, 99, 116, 32]⟩ : ByteArray) ++ a0_0) ++ (⟨#[10, 116, 121, 112, 101, 32]⟩ : ByteArray)) ++ t121) ++ (⟨#[10, 116, 97, 103, 32]⟩ : ByteArray)) ++ a0_2) ++ (⟨#[10, 116, 97, 103, 103, 101, 114, 32]⟩ : ByteArray)) ++ t122) ++ (⟨#[10, 10]⟩ : ByteArray)).size + a0_7.size ≤ 9223372036854775807; rotate_left
 ·rw [if_neg c14] at H; exact no_ H
 rw [if_pos c14] at H; have c14b0 := eq_true c14; have c14b1 := dt_ c14; try have c14b3 : (9223372036854775807 < 7 + a0_0.size + 6 + t121.size + 5 + a0_2.size + 8 + t122.size + 2 + a0_7.size) = False := have h_ := c14; ns_
 try have c14b2 := nl_ c14
 obtain ⟨rfl, rfl⟩ := pj2_ H; go_enter func25, ntmps25; try go_wp2_with (first | ((with_reducible refine qh_ (N := 1) rfl ?_); refine be_ (cs := #[.string a0_0, .int .i64 a0_1, .string a0_2, .string a0_3, .string a0_4, .int .i64 a0_5, .int .i64 a0_6, .string a0_7]) (t := 37) ?_; intro g119 hg w15 hbox hb; have K119 := qa_.mk (hbox); have W119 := ag_ hg HB; have E119 := ag_ hg HB; replace HB := ah_ HB hb; clear hb hbox hg; obtain ⟨Z16_0, Z16_1, Z16_2, Z16_3, Z16_4, Z16_5, Z16_6, Z16_7, F16⟩ := bc8 K119.out) | ((with_reducible refine qb_ (f := 27) rfl ?_); refine gl_ (some 6) func27 #[.agg #[.string a0_0, .int .i64 a0_1, .string a0_2, .string a0_3, .string a0_4, .int .i64 a0_5, .int .i64 a0_6, .string a0_7]] ?_; (with_reducible refine (qar_.calls k a0_0 a0_1 a0_2 a0_3 a0_4 a0_5 a0_6 a0_7 t120 _ ?side1 A2.out).mono ?_); (case side1 => exact GV.below hgv (hs_)); rintro e w17 ⟨rfl, hb⟩; refine ⟨_, rfl, ?_⟩; replace K119 := ab_ K119 hb; replace HB := hr_ hb; (try clear hb); (try clear hb2); (try clear hk); (try clear hi)))
 replace K119 := ad_ K119; replace HB := hd_ HB; refine qdm_ (n := 23) (S := fun w' => w'.cell? ⟨g119, 0, none⟩ = some (.string a0_0) ∧ w'.cell? ⟨g119, 1, none⟩ = some (.int .i64 a0_1) ∧ w'.cell? ⟨g119, 2, none⟩ = some (.string a0_2) ∧ w'.cell? ⟨g119, 3, none⟩ = some (.string a0_3) ∧ w'.cell? ⟨g119, 4, none⟩ = some (.string a0_4) ∧ w'.cell? ⟨g119, 5, none⟩ = some (.int .i64 a0_5) ∧ w'.cell? ⟨g119, 6, none⟩ = some (.int .i64 a0_6) ∧ w'.cell? ⟨g119, 7, none⟩ = some (.string a0_7)) (ds := []) (bs 23 0) (by kernel_rfl) rfl rfl (bc8o K119.out) (fun qn_ => ?_); refine qdg_ qcp_.tab4 qcp_.bits4 (fun HT_ HW_ => ?_); generalize w17.drew = w18 at K119 HB qn_ ⊢; refine pun_ 0 10 23 1 ?_; refine pun_ 4 14 23 17 ?_; refine pun_ 9 19 23 529 ?_; refine pun_ 13 23 23 8721 ?_; refine pun_ 18 28 23 270865 ?_; refine tkW8n_ 1 11 23 270867 qn_ ?_; refine pun_ 2 12 23 270871 ?_; refine pun_ 3 13 23 270879 ?_; refine tkW8n_ 5 15 23 270911 qn_ ?_; refine tkW8n_ 10 20 23 271935 qn_ ?_; refine tkW8n_ 14 24 23 288319 qn_ ?_; refine tkW8n_ 19 29 23 812607 qn_ ?_; refine on_ 6 16 23 812671 (fun K hK => ?_); refine goes_ func79 (by kernel_rfl) rfl #[.int .i64 a0_1] (by rfl) rfl rfl z5_ ?_
 with_reducible refine (qdn_.calls a0_1 t121 _ A6.out).mono ?_
 rintro e w19 ⟨rfl, hb⟩; refine ⟨_, rfl, ?_⟩; replace K119 := ab_ K119 hb; replace HB := hr_ hb; (try clear hb)
 (try clear hb2)
 (try clear hk)
 (try clear hi)
 refine hK.out _ _ (bc8o K119.out) (fun qn_ => ?_); clear hK K; refine nrm_ 16 ?_
 refine pun_ 7 17 23 812799 ?_; refine pun_ 8 18 23 813055 ?_; refine pun_ 11 21 23 815103 ?_; refine pun_ 12 22 23 819199 ?_; refine on_ 15 25 23 851967 (fun K hK => ?_); refine goes_ func31 (by kernel_rfl) rfl #[.agg #[.string a0_3, .string a0_4, .int .i64 a0_5, .int .i64 a0_6]] (by rfl) rfl rfl z5_ ?_
 with_reducible refine (qcz_.calls a0_3 a0_4 a0_5 a0_6 t122 _ ?side1 A11.out).mono ?_
 (case side1 => exact GV.below hgv (hs_))
 rintro e w20 ⟨rfl, hb⟩; refine ⟨_, rfl, ?_⟩; replace K119 := ab_ K119 hb; replace HB := hr_ hb; (try clear hb)
 (try clear hb2)
 (try clear hk)
 (try clear hi)
 refine hK.out _ _ (bc8o K119.out) (fun qn_ => ?_); clear hK K; refine nrm_ 25 ?_
 refine pun_ 16 26 23 917503 ?_; refine pun_ 17 27 23 1048575 ?_; refine pun_ 20 30 23 2097151 ?_; refine pun_ 21 2 23 4194303 ?_; refine pun_ 22 3 23 8388607 ?_; refine dn_ ?_; try go_wp2
 go_ret2
 exact ⟨z3_, hs_⟩
def qbm_.f (k : Nat)  : Option (Bool) := (qao_.f k ⟨#[97, 32, 60, 97, 64, 98, 62, 32, 53, 32, 45, 48, 49, 51, 48]⟩).bind fun bt101 => ((qao_.f k ⟨#[97, 32, 60, 98, 62, 32, 48, 53, 32, 43, 48, 48, 48, 48]⟩).bind fun bt107 => ((qdh_.f).bind fun bt113 => ((qdh_.f).bind fun bt117 => ((qbw_.f k ⟨#[48, 49, 50, 51, 52, 53, 54, 55, 56, 57, 97, 98, 99, 100, 101, 102, 48, 49, 50, 51, 52, 53, 54, 55, 56, 57, 97, 98, 99, 100, 101, 102, 48, 49, 50, 51, 52, 53, 54, 55]⟩ ([] : List ByteArray) bt113.1 bt113.2.1 bt113.2.2.1 bt113.2.2.2 bt117.1 bt117.2.1 bt117.2.2.1 bt117.2.2.2 ⟨#[120, 10]⟩).bind fun bt121 => ((qw_.f k 3 bt121.1).bind fun bt123 => ((qdh_.f).bind fun bt127 => ((qcp_.f k ⟨#[48, 49, 50, 51, 52, 53, 54, 55, 56, 57, 97, 98, 99, 100, 101, 102, 48, 49, 50, 51, 52, 53, 54, 55, 56, 57, 97, 98, 99, 100, 101, 102, 48, 49, 50, 51, 52, 53, 54, 55]⟩ 5 ⟨#[118]⟩ bt127.1 bt127.2.1 bt127.2.2.1 bt127.2.2.2 ⟨#[]⟩).bind fun bt131 => ((qdh_.f).bind fun bt133 => ((qcz_.f bt133.1 bt133.2.1 bt133.2.2.1 bt133.2.2.2).bind fun t137 => (if t137.toList = ([97, 32, 60, 97, 64, 98, 62, 32, 53, 32, 43, 48, 49, 48, 48] : List UInt8) then (if bt101.2.2.2.1 = (-90) then (if bt101.2.2.2.2 = 0 then (if bt107.2.2.2.2 = 2 then (if bt121.1.toList = ([116, 114, 101, 101, 32, 48, 49, 50, 51, 52, 53, 54, 55, 56, 57, 97, 98, 99, 100, 101, 102, 48, 49, 50, 51, 52, 53, 54, 55, 56, 57, 97, 98, 99, 100, 101, 102, 48, 49, 50, 51, 52, 53, 54, 55, 10, 97, 117, 116, 104, 111, 114, 32, 97, 32, 60, 97, 64, 98, 62, 32, 53, 32, 43, 48, 49, 48, 48, 10, 99, 111, 109, 109, 105, 116, 116, 101, 114, 32, 97, 32, 60, 97, 64, 98, 62, 32, 53, 32, 43, 48, 49, 48, 48, 10, 10, 120, 10] : List UInt8) then (if bt121.2 = 0 then (if (bt123.1.length : Int) = 1 then (if 0 < (bt123.1.length : Int) then (if (rdOf ByteArray.empty bt123.1 0).toList = ([48, 49, 50, 51, 52, 53, 54, 55, 56, 57, 97, 98, 99, 100, 101, 102, 48, 49, 50, 51, 52, 53, 54, 55, 56, 57, 97, 98, 99, 100, 101, 102, 48, 49, 50, 51, 52, 53, 54, 55] : List UInt8) then (if bt123.2 = 0 then (if bt131.2 = 1 then ((qcr_.f k 3 ⟨#[120]⟩).bind fun t139 => (some (t139 == 2))) else (some false)) else (some false)) else (some false)) else (none)) else (some false)) else (some false)) else (some false)) else (some false)) else (some false)) else (some false)) else (some false)))))))))))
theorem qbm_.mono : ∀ k, LeO (qbm_.f k ) (qbm_.f (k + 1) ) := by
 intro  k; unfold qbm_.f; have m0_ := @qbw_.mono; have m1_ := @qw_.mono; have m2_ := @qao_.mono; have m3_ := @qcp_.mono; have m4_ := @qcr_.mono; exact mz_
theorem qbm_.callsT (k : Nat)  (r : Bool) (w : World) (hgv : GV w) (hrr_ : r = true) (h : qbm_.f k  = some r) :
  Calls Tryz.prog 15 #[] w fun e w' => e = .returned (.bool r) ∧ Below w.heap.size w w' := by
 have hu24 := underlying24; have hu26 := underlying26; have hu50 := underlying50; have hu37 := underlying37; have HB := qa_.mk (Below.refl w.heap.size w); unfold qbm_.f at h; have H := h; clear h; obtain ⟨⟨t101, t102, t103, t104, t105⟩, A1, H⟩ := bx_ H; dsimp only at H; obtain ⟨⟨t107, t108, t109, t110, t111⟩, A2, H⟩ := bx_ H; dsimp only at H; obtain ⟨⟨t113, t114, t115, t116⟩, A3, H⟩ := bx_ H; dsimp only at H; obtain ⟨⟨t117, t118, t119, t120⟩, A4, H⟩ := bx_ H; dsimp only at H; obtain ⟨⟨t121, t122⟩, A5, H⟩ := bx_ H; dsimp only at H; obtain ⟨⟨t123, t126⟩, A6, H⟩ := bx_ H; dsimp only at H; obtain ⟨⟨t127, t128, t129, t130⟩, A7, H⟩ := bx_ H; dsimp only at H; obtain ⟨⟨t131, t132⟩, A8, H⟩ := bx_ H; dsimp only at H; obtain ⟨⟨t133, t134, t135, t136⟩, A9, H⟩ := bx_ H; dsimp only at H; obtain ⟨t137, A10, H⟩ := bx_ H; by_cases c11 : t137.toList = ([97, 32, 60, 97, 64, 98, 62, 32, 53, 32, 43, 48, 49, 48, 48] : List UInt8); rotate_left
 ·rw [if_neg c11] at H; have c11b0 := ef_ c11; have c11b1 := nt_ c11; exact absurd ((Option.some.inj H).trans hrr_) (by simp)
 rw [if_pos c11] at H; have c11b0 := et_ c11; have c11b1 := nf_ c11; clear c11; by_cases c12 : t104 = (-90); rotate_left
 ·rw [if_neg c12] at H; have c12b0 := ef_ c12; have c12b1 := nt_ c12; exact absurd ((Option.some.inj H).trans hrr_) (by simp)
 rw [if_pos c12] at H; have c12b0 := et_ c12; have c12b1 := nf_ c12; clear c12; by_cases c13 : t105 = 0; rotate_left
 ·rw [if_neg c13] at H; have c13b0 := ef_ c13; have c13b1 := nt_ c13; exact absurd ((Option.some.inj H).trans hrr_) (by simp)
 rw [if_pos c13] at H; have c13b0 := et_ c13; have c13b1 := nf_ c13; clear c13; by_cases c14 : t111 = 2; rotate_left
 ·rw [if_neg c14] at H; have c14b0 := ef_ c14; have c14b1 := nt_ c14; exact absurd ((Option.some.inj H).trans hrr_) (by simp)
 rw [if_pos c14] at H; have c14b0 := et_ c14; have c14b1 := nf_ c14; clear c14; by_cases c15 : t121.toList = ([116, 114, 101, 101, 32, 48, 49, 50, 51, 52, 53, 54, 55, 56, 57, 97, 98, 99, 100, 101, 102, 48, 49, 50, 51, 52, 53, 54, 55, 56, 57, 97, 98, 99, 100, 101, 102, 48, 49, 50, 51, 52, 53, 54, 55, 10, 97, 117, 116, 104, 111, 114, 32, 97, 32, 60, 97, 64, 98, 62, 32, 53, 32, 43, 48, 49, 48, 48, 10, 99, 111, 109, 109, 105, 116, 116, 101, 114, 32, 97, 32, 60, 97, 64, 98, 62, 32, 53, 32, 43, 48, 49, 48, 48, 10, 10, 120, 10] : List UInt8); rotate_left
 ·rw [if_neg c15] at H; have c15b0 := ef_ c15; have c15b1 := nt_ c15; exact absurd ((Option.some.inj H).trans hrr_) (by simp)
 rw [if_pos c15] at H; have c15b0 := et_ c15; have c15b1 := nf_ c15; clear c15; by_cases c16 : t122 = 0; rotate_left
 ·rw [if_neg c16] at H; have c16b0 := ef_ c16; have c16b1 := nt_ c16; exact absurd ((Option.some.inj H).trans hrr_) (by simp)
 rw [if_pos c16] at H; have c16b0 := et_ c16; have c16b1 := nf_ c16; clear c16; by_cases c17 : (t123.length : Int) = 1; rotate_left
 ·rw [if_neg c17] at H; have c17b0 := ef_ c17; have c17b1 := nt_ c17; exact absurd ((Option.some.inj H).trans hrr_) (by simp)
 rw [if_pos c17] at H; have c17b0 := et_ c17; have c17b1 := nf_ c17; clear c17; by_cases c18 : 0 < (t123.length : Int); rotate_left
 ·rw [if_neg c18] at H; exact no_ H
 rw [if_pos c18] at H; have c18b0 := dt_ c18; have c18b1 : decide (0 < t123.length) = true := decide_eq_true (by omega); clear c18; by_cases c19 : (rdOf ByteArray.empty t123 0).toList = ([48, 49, 50, 51, 52, 53, 54, 55, 56, 57, 97, 98, 99, 100, 101, 102, 48, 49, 50, 51, 52, 53, 54, 55, 56, 57, 97, 98, 99, 100, 101, 102, 48, 49, 50, 51, 52, 53, 54, 55] : List UInt8); rotate_left
 ·rw [if_neg c19] at H; have c19b0 := ef_ c19; have c19b1 := nt_ c19; exact absurd ((Option.some.inj H).trans hrr_) (by simp)
 rw [if_pos c19] at H; have c19b0 := et_ c19; have c19b1 := nf_ c19; clear c19; by_cases c20 : t126 = 0; rotate_left
 ·rw [if_neg c20] at H; have c20b0 := ef_ c20; have c20b1 := nt_ c20; exact absurd ((Option.some.inj H).trans hrr_) (by simp)
 rw [if_pos c20] at H; have c20b0 := et_ c20; have c20b1 := nf_ c20; clear c20; by_cases c21 : t132 = 1; rotate_left
 ·rw [if_neg c21] at H; have c21b0 := ef_ c21; have c21b1 := nt_ c21; exact absurd ((Option.some.inj H).trans hrr_) (by simp)
 rw [if_pos c21] at H; have c21b0 := et_ c21; have c21b1 := nf_ c21; clear c21; obtain ⟨t139, A22, H⟩ := bx_ H; obtain rfl := oi_ H; go_enter func15, ntmps15; have tk1_ : True := trivial; have tk2_ : True := trivial; have tk3_ : True := trivial; have tk4_ : True := trivial; have tk5_ : True := trivial; have tk6_ : True := trivial; go_wp2_with (first | (have _t := tk1_; (with_reducible refine qb_ (f := 29) rfl ?_); refine gl_ (some 12) func29 #[.string ⟨#[97, 32, 60, 97, 64, 98, 62, 32, 53, 32, 45, 48, 49, 51, 48]⟩] ?_; (with_reducible refine (qao_.calls k ⟨#[97, 32, 60, 97, 64, 98, 62, 32, 53, 32, 45, 48, 49, 51, 48]⟩ t101 t102 t103 t104 t105 _ ?side1 A1.out).mono ?_); (case side1 => exact GV.below hgv (hb_ HB.out)); rintro e w23 ⟨rfl, hb⟩; refine ⟨_, rfl, ?_⟩; replace HB := ah_ HB hb; (try clear hb); (try clear hb2); (try clear hk); (try clear hi); clear tk1_) | ((with_reducible refine qh_ (N := 1) rfl ?_); (try (refine qcy_ (by rfl) ?_; dsimp only)); refine be_ (cs := #[.string ⟨#[]⟩, .string ⟨#[]⟩, .int .i64 0, .int .i64 0]) (t := 24) ?_; intro g106 hg w24 hbox hb; have K106 := qa_.mk (hbox); have W106 := ag_ hg HB; have E106 := ag_ hg HB; replace HB := ah_ HB hb; clear hb hbox hg; obtain ⟨Z25_0, Z25_1, Z25_2, Z25_3, F25⟩ := bc4 K106.out) | (have _t := tk2_; (with_reducible refine qb_ (f := 29) rfl ?_); refine gl_ (some 16) func29 #[.string ⟨#[97, 32, 60, 98, 62, 32, 48, 53, 32, 43, 48, 48, 48, 48]⟩] ?_; (with_reducible refine (qao_.calls k ⟨#[97, 32, 60, 98, 62, 32, 48, 53, 32, 43, 48, 48, 48, 48]⟩ t107 t108 t109 t110 t111 _ ?side1 A2.out).mono ?_); (case side1 => exact GV.below hgv (hs_)); rintro e w26 ⟨rfl, hb⟩; refine ⟨_, rfl, ?_⟩; replace K106 := qa_.mk (qbk_ (g := g106) (o := .cells #[.string t101, .string t102, .int .i64 t103, .int .i64 t104] 24 (0, 0)) (by have b_ := K106; exact zb_) hb); replace HB := hr_ hb; (try clear hb); (try clear hb2); (try clear hk); (try clear hi); clear tk2_) | ((with_reducible refine qh_ (N := 3) rfl ?_); (try (refine qcy_ (by rfl) ?_; dsimp only)); refine be_ (cs := #[.string ⟨#[]⟩, .string ⟨#[]⟩, .int .i64 0, .int .i64 0]) (t := 24) ?_; intro g112 hg w27 hbox hb; have K112 := qa_.mk (hbox); have W112 := qa_.mk ((by rw [hg]; exact (qj_ (hs_)) : w.heap.size ≤ g112)); have E112 := qa_.mk ((by rw [hg]; exact (qj_ (hs_)) : w.heap.size ≤ g112)); replace HB := hr_ hb; have N106_112 := qa_.mk (nl2_ hg K106.out); have N112_106 := qa_.mk (ng2_ hg K106.out); replace K106 := ab_ K106 hb; clear hb hbox hg; have hnb28 := N112_106.out; have hnc28 := N106_112.out; obtain ⟨Z29_0, Z29_1, Z29_2, Z29_3, F29⟩ := bc4 K112.out) | (have _t := tk3_; (with_reducible refine qb_ (f := 63) rfl ?_); refine gl_ (some 20) func63 #[] ?_; refine cm_ (qdh_.calls  t113 t114 t115 t116 _ A3.out) fun w30 hb => ?_; replace K106 := qa_.mk (qbk_ (g := g106) (o := .cells #[.string t101, .string t102, .int .i64 t103, .int .i64 t104] 24 (0, 0)) (by have b_ := K106; have f_ := N106_112; exact zb_) hb); replace K112 := qa_.mk (qbk_ (g := g112) (o := .cells #[.string t107, .string t108, .int .i64 t109, .int .i64 t110] 24 (0, 0)) (by have b_ := K112; exact zb_) hb); replace HB := hr_ hb; (try clear hb); (try clear hb2); (try clear hk); (try clear hi); clear tk3_) | (have _t := tk4_; (with_reducible refine qb_ (f := 63) rfl ?_); refine gl_ (some 21) func63 #[] ?_; refine cm_ (qdh_.calls  t117 t118 t119 t120 _ A4.out) fun w31 hb => ?_; replace K106 := ab_ K106 hb; replace K112 := ab_ K112 hb; replace HB := hr_ hb; (try clear hb); (try clear hb2); (try clear hk); (try clear hi); clear tk4_) | ((with_reducible refine qb_ (f := 16) rfl ?_); refine gl_ (some 23) func16 #[.agg #[.string ⟨#[48, 49, 50, 51, 52, 53, 54, 55, 56, 57, 97, 98, 99, 100, 101, 102, 48, 49, 50, 51, 52, 53, 54, 55, 56, 57, 97, 98, 99, 100, 101, 102, 48, 49, 50, 51, 52, 53, 54, 55]⟩, .slice none 0 0, .string t113, .string t114, .int .i64 t115, .int .i64 t116, .string t117, .string t118, .int .i64 t119, .int .i64 t120, .string ⟨#[120, 10]⟩]] ?_; (refine (qbw_.calls k ⟨#[48, 49, 50, 51, 52, 53, 54, 55, 56, 57, 97, 98, 99, 100, 101, 102, 48, 49, 50, 51, 52, 53, 54, 55, 56, 57, 97, 98, 99, 100, 101, 102, 48, 49, 50, 51, 52, 53, 54, 55]⟩ _ _ ([] : List ByteArray) t113 t114 t115 t116 t117 t118 t119 t120 ⟨#[120, 10]⟩ t121 t122 _ ?side1 ?side2 ?side3 A5.out).mono ?_); (case side1 => exact Kd.C_nil _ _); (case side2 => exact Nat.le_refl _); (case side3 => exact GV.below hgv (hs_)); rintro e w32 ⟨rfl, hb⟩; refine ⟨_, rfl, ?_⟩; replace K106 := ab_ K106 hb; replace K112 := ab_ K112 hb; replace HB := hr_ hb; (try clear hb); (try clear hb2); (try clear hk); (try clear hi)) | ((with_reducible refine qb_ (f := 34) rfl ?_); refine gl_ (some 29) func34 #[.agg #[.int .i64 3, .string t121]] ?_; (with_reducible refine (qw_.calls k 3 t121 t123 t126 _ ?side1 A6.out).mono ?_); (case side1 => exact GV.below hgv (hs_)); rintro e w33 ⟨v124, rfl, ho0, hb⟩; refine ⟨_, rfl, ?_⟩; have HO125 := qa_.mk (Kd.R_lower ho0 (qj_ (hs_))); replace K106 := ab_ K106 hb; replace K112 := ab_ K112 hb; replace HB := hr_ hb; (try clear hb); (try clear hb2); (try clear hk); (try clear hi); (try clear ho0)) | (have _t := tk5_; (with_reducible refine qb_ (f := 63) rfl ?_); refine gl_ (some 33) func63 #[] ?_; refine cm_ (qdh_.calls  t127 t128 t129 t130 _ A7.out) fun w34 hb => ?_; replace HO125 := qa_.mk (Kd.R_below (rk_ HO125.out) hb); replace K106 := ab_ K106 hb; replace K112 := ab_ K112 hb; replace HB := hr_ hb; (try clear hb); (try clear hb2); (try clear hk); (try clear hi); clear tk5_) | ((with_reducible refine qb_ (f := 25) rfl ?_); refine gl_ (some 35) func25 #[.agg #[.string ⟨#[48, 49, 50, 51, 52, 53, 54, 55, 56, 57, 97, 98, 99, 100, 101, 102, 48, 49, 50, 51, 52, 53, 54, 55, 56, 57, 97, 98, 99, 100, 101, 102, 48, 49, 50, 51, 52, 53, 54, 55]⟩, .int .i64 5, .string ⟨#[118]⟩, .string t127, .string t128, .int .i64 t129, .int .i64 t130, .string ⟨#[]⟩]] ?_; (with_reducible refine (qcp_.calls k ⟨#[48, 49, 50, 51, 52, 53, 54, 55, 56, 57, 97, 98, 99, 100, 101, 102, 48, 49, 50, 51, 52, 53, 54, 55, 56, 57, 97, 98, 99, 100, 101, 102, 48, 49, 50, 51, 52, 53, 54, 55]⟩ 5 ⟨#[118]⟩ t127 t128 t129 t130 ⟨#[]⟩ t131 t132 _ ?side1 A8.out).mono ?_); (case side1 => exact GV.below hgv (hs_)); rintro e w35 ⟨rfl, hb⟩; refine ⟨_, rfl, ?_⟩; replace HO125 := qa_.mk (Kd.R_below (rk_ HO125.out) hb); replace K106 := ab_ K106 hb; replace K112 := ab_ K112 hb; replace HB := hr_ hb; (try clear hb); (try clear hb2); (try clear hk); (try clear hi)) | (have _t := tk6_; (with_reducible refine qb_ (f := 63) rfl ?_); refine gl_ (some 38) func63 #[] ?_; refine cm_ (qdh_.calls  t133 t134 t135 t136 _ A9.out) fun w36 hb => ?_; replace HO125 := qa_.mk (Kd.R_below (rk_ HO125.out) hb); replace K106 := ab_ K106 hb; replace K112 := ab_ K112 hb; replace HB := hr_ hb; (try clear hb); (try clear hb2); (try clear hk); (try clear hi); clear tk6_) | ((with_reducible refine qb_ (f := 31) rfl ?_); refine gl_ (some 39) func31 #[.agg #[.string t133, .string t134, .int .i64 t135, .int .i64 t136]] ?_; (with_reducible refine (qcz_.calls t133 t134 t135 t136 t137 _ ?side1 A10.out).mono ?_); (case side1 => exact GV.below hgv (hs_)); rintro e w37 ⟨rfl, hb⟩; refine ⟨_, rfl, ?_⟩; replace HO125 := qa_.mk (Kd.R_below (rk_ HO125.out) hb); replace K106 := ab_ K106 hb; replace K112 := ab_ K112 hb; replace HB := hr_ hb; (try clear hb); (try clear hb2); (try clear hk); (try clear hi); obtain ⟨Z38_0, Z38_1, Z38_2, Z38_3, F38⟩ := bc4 K106.out; obtain ⟨Ao39, co39, eo39⟩ := Kd.R_slice HO125.out; subst eo39; have p138 : 0 ≤ (0 : Int) := (by omega); have q138 : 0 < (t123.length : Int) := y0_; obtain ⟨ad138, e138, hx138_0⟩ := Kd.at_string (Kd.R_reads' HO125.out).2.2 0 p138 q138; cases e138; have qi138 : (0 < t123.length) = True := eq_true (by omega); (try rw [show ((0 : Int)).toNat = 0 from rfl] at hx138_0); (try rw [Addr.add_zero'] at hx138_0); replace p138 := eq_true p138; replace q138 := eq_true q138) | (go_at_call 36; (with_reducible refine (qcr_.calls k 3 ⟨#[120]⟩ t139 _ ?side1 A22.out).mono ?_); (case side1 => exact GV.below hgv (hs_)); rintro e w40 ⟨rfl, hb⟩; replace HO125 := qa_.mk (Kd.R_below (rk_ HO125.out) hb); replace K106 := ab_ K106 hb; replace K112 := ab_ K112 hb; replace HB := hr_ hb; (try clear hb); (try clear hb2); (try clear hk); (try clear hi)))
 go_ret
 exact ⟨z3_, hs_⟩
theorem lives16 : Ev (fun k => qbm_.f k) true := Ev.of (fun k => qbm_.mono k) (k := 400) (by decide +kernel)
theorem ev_is {α : Type} {g : Nat → Option α} {r t : α} (hg : ∀ k, LeO (g k) (g (k + 1))) (h : Ev g r) {k : Nat} (ht : g k = some t) : t = r := by
  obtain ⟨K, hK⟩ := h
  have h1 := hK (max K k) (Nat.le_max_left _ _)
  have h2 := at_rounds hg (Nat.le_max_right K k) ht
  rw [h1] at h2
  exact (Option.some.inj h2).symm
theorem qbm_.calls (k : Nat) (r : Bool) (w : World) (hgv : GV w) (h : qbm_.f k = some r) : Calls Tryz.prog 15 #[] w fun e w' => e = .returned (.bool r) ∧ Below w.heap.size w w' :=
  qbm_.callsT k r w hgv (ev_is (fun k => qbm_.mono k) lives16 h) h
theorem liveOr16 : Ev (fun k => (qbm_.f k).bind fun t => some t) true := Ev.bind lives16 (Ev.now _)
def qau_.f (k : Nat) (a0_0 : Int) (a0_1 : ByteArray) : Option (Bool) := if (a0_1.size : Int) > 8000 then ((qbm_.f k).bind fun t232 => (some t232)) else ((qw_.f k a0_0 a0_1).bind fun bt233 => ((qt_.f k a0_0 a0_1).bind fun bt237 => ((qbm_.f k).bind fun t241 => (if t241 = true then ((qcr_.f k a0_0 a0_1).bind fun t242 => ((qdb_.f k a0_0 a0_1).bind fun t243 => (if t242 = t243 then ((qch_.f k bt233.1 bt237.1).bind fun t244 => (if t244 = true then (some (bt233.2 == bt237.2)) else (some false))) else (some false)))) else (some false)))))
def qau_.T5 : Bool × List (List Nat × List Nat) := (true, [([], []), ([0, 0], [0]), ([1], [1]), ([2, 1, 1], [1, 2]), ([1], [1]), ([4, 3, 1], [1, 4]), ([3, 5, 1], [1, 3, 5]), ([1, 6], [1, 6]), ([7, 5], [7]), ([8], [8]), ([8], [8]), ([9, 10, 8, 8], [8, 9, 10]), ([8, 11], [8, 11]), ([12, 11], [12]), ([13], [13]), ([13], [13]), ([14, 15, 13], [13, 14, 15]), ([13, 16], [13, 16]), ([17, 13, 0, 1, 2, 3, 4, 5, 6, 7, 8, 9, 10, 11, 12, 13, 14, 15, 16, 17], [17])])
def qau_.B5 : List Nat := [0, 1, 3, 7, 3, 31, 63, 127, 255, 511, 511, 2047, 4095, 8191, 16383, 16383, 65535, 131071, 262143]
theorem qau_.tab5 : rtab .any (opsOf Tryz.f7 5) = qau_.T5 := by kernel_rfl
theorem qau_.bits5 : qdu_ qau_.T5.2 qau_.B5 = true := by kernel_rfl
theorem qau_.calls (k : Nat) (a0_0 : Int) (a0_1 : ByteArray) (r : Bool) (w : World) (hgv : GV w) (h : qau_.f k a0_0 a0_1 = some r) :
  Calls Tryz.prog 7 #[.agg #[.int .i64 a0_0, .string a0_1]] w fun e w' => e = .returned (.bool r) ∧ Below w.heap.size w w' := by
 have hu50 := underlying50; have HB := qa_.mk (Below.refl w.heap.size w); unfold qau_.f at h; have H := h; clear h; by_cases c2 : (a0_1.size : Int) > 8000
 ·rw [if_pos c2] at H; have c2b0 := dt_ c2; have c2b1 : decide (8000 < a0_1.size) = true := decide_eq_true (by omega); clear c2; obtain ⟨t232, A3, H⟩ := bx_ H; obtain rfl := oi_ H; go_enter func7, ntmps7; go_wp2_with (first | ((with_reducible refine qh_ (N := 1) rfl ?_); refine be_ (cs := #[.int .i64 a0_0, .string a0_1]) (t := 50) ?_; intro g231 hg w4 hbox hb; have K231 := qa_.mk (hbox); have W231 := ag_ hg HB; have E231 := ag_ hg HB; replace HB := ah_ HB hb; clear hb hbox hg; obtain ⟨Z5_0, Z5_1, F5⟩ := bc2 K231.out) | ((with_reducible refine qb_ (f := 15) rfl ?_); refine gl_ (some 11) func15 #[] ?_; (with_reducible refine (qbm_.calls k  t232 _ ?side1 A3.out).mono ?_); (case side1 => exact GV.below hgv (hs_)); rintro e w6 ⟨rfl, hb⟩; refine ⟨_, rfl, ?_⟩; replace K231 := ab_ K231 hb; replace HB := hr_ hb; (try clear hb); (try clear hb2); (try clear hk); (try clear hi)))
  go_ret
  exact ⟨z3_, hs_⟩
 rw [if_neg c2] at H; have c2b0 := df_ c2; have c2b1 : decide (8000 < a0_1.size) = false := decide_eq_false (by omega); clear c2; obtain ⟨⟨t233, t236⟩, A7, H⟩ := bx_ H; dsimp only at H; obtain ⟨⟨t237, t240⟩, A8, H⟩ := bx_ H; dsimp only at H; obtain ⟨t241, A9, H⟩ := bx_ H; by_cases c10 : t241 = true; rotate_left
 ·replace c10 := Bool.eq_false_iff.mpr c10; subst c10; rw [if_neg nft_] at H; obtain rfl := oi_ H; go_enter func7, ntmps7; try go_wp2_with (first | ((with_reducible refine qh_ (N := 1) rfl ?_); refine be_ (cs := #[.int .i64 a0_0, .string a0_1]) (t := 50) ?_; intro g231 hg w47 hbox hb; have K231 := qa_.mk (hbox); have W231 := ag_ hg HB; have E231 := ag_ hg HB; replace HB := ah_ HB hb; clear hb hbox hg; obtain ⟨Z48_0, Z48_1, F48⟩ := bc2 K231.out) | ((with_reducible refine qb_ (f := 34) rfl ?_); refine gl_ (some 14) func34 #[.agg #[.int .i64 a0_0, .string a0_1]] ?_; (with_reducible refine (qw_.calls k a0_0 a0_1 t233 t236 _ ?side1 A7.out).mono ?_); (case side1 => exact GV.below hgv (hs_)); rintro e w49 ⟨v234, rfl, ho0, hb⟩; refine ⟨_, rfl, ?_⟩; have HO235 := qa_.mk (Kd.R_lower ho0 (qj_ (hs_))); replace K231 := ab_ K231 hb; replace HB := hr_ hb; (try clear hb); (try clear hb2); (try clear hk); (try clear hi); (try clear ho0); obtain ⟨Z50_0, Z50_1, F50⟩ := bc2 K231.out) | ((with_reducible refine qb_ (f := 35) rfl ?_); refine gl_ (some 19) func35 #[.agg #[.int .i64 a0_0, .string a0_1]] ?_; (with_reducible refine (qt_.calls k a0_0 a0_1 t237 t240 _ A8.out).mono ?_); rintro e w51 ⟨v238, rfl, ho0, hb⟩; refine ⟨_, rfl, ?_⟩; have HO239 := qa_.mk (Kd.R_lower (Kd.R_new' ho0 (Kd.R_lt (rk_ HO235.out))) (qj_ (hs_))); replace HO235 := qa_.mk (Kd.R_elder' (rk_ HO235.out) (Kd.R_base ho0) hb); replace K231 := ab_ K231 hb; replace HB := hr_ hb; (try clear hb); (try clear hb2); (try clear hk); (try clear hi); (try clear ho0)))
  replace HO235 := qa_.mk (Kd.R_drew HO235.out); replace HO239 := qa_.mk (Kd.R_drew HO239.out); replace K231 := ad_ K231; replace HB := hd_ HB; refine qdm_ (n := 19) (S := fun w' => True) (ds := []) (bs 19 0) (by kernel_rfl) rfl rfl trivial (fun qn_ => ?_); refine qdg_ qau_.tab5 qau_.bits5 (fun HT_ HW_ => ?_); generalize w51.drew = w52 at HO235 HO239 K231 HB qn_ ⊢; refine on_ 0 22 19 1 (fun K hK => ?_); refine goes_ func15 (by kernel_rfl) rfl #[] (by rfl) rfl rfl z5_ ?_
  with_reducible refine (qbm_.calls k  false _ ?side1 A9.out).mono ?_
  (case side1 => exact GV.below hgv (hs_))
  rintro e w53 ⟨rfl, hb⟩; refine ⟨_, rfl, ?_⟩; replace HO235 := qa_.mk (Kd.R_below (rk_ HO235.out) hb); replace HO239 := qa_.mk (Kd.R_below (rk_ HO239.out) hb); replace K231 := ab_ K231 hb; replace HB := hr_ hb; (try clear hb)
  (try clear hb2)
  (try clear hk)
  (try clear hi)
  refine hK.out _ _ trivial (fun qn_ => ?_); clear hK K; refine nrm_ 22 ?_
  refine pun_ 1 23 19 3 ?_; refine pnn_ 2 24 19 7 ?_; refine pnn_ 3 25 19 15 ?_; refine pnn_ 4 26 19 31 ?_; refine pnn_ 5 27 19 63 ?_; refine pnn_ 6 28 19 127 ?_; refine pun_ 7 29 19 255 ?_; refine pun_ 8 30 19 511 ?_; refine pnn_ 9 31 19 1023 ?_; refine pnn_ 10 32 19 2047 ?_; refine pnn_ 11 33 19 4095 ?_; refine pun_ 12 34 19 8191 ?_; refine pun_ 13 35 19 16383 ?_; refine pnn_ 14 36 19 32767 ?_; refine pnn_ 15 37 19 65535 ?_; refine pnn_ 16 38 19 131071 ?_; refine pun_ 17 39 19 262143 ?_; refine pun_ 18 2 19 524287 ?_; refine dn_ ?_; try go_wp2
  go_ret
  exact ⟨z3_, hs_⟩
 subst c10; rw [if_pos rfl] at H; obtain ⟨t242, A11, H⟩ := bx_ H; obtain ⟨t243, A12, H⟩ := bx_ H; by_cases c13 : t242 = t243; rotate_left
 ·rw [if_neg c13] at H; have c13b0 := ef_ c13; have c13b1 := nt_ c13; obtain rfl := oi_ H; go_enter func7, ntmps7; try go_wp2_with (first | ((with_reducible refine qh_ (N := 1) rfl ?_); refine be_ (cs := #[.int .i64 a0_0, .string a0_1]) (t := 50) ?_; intro g231 hg w38 hbox hb; have K231 := qa_.mk (hbox); have W231 := ag_ hg HB; have E231 := ag_ hg HB; replace HB := ah_ HB hb; clear hb hbox hg; obtain ⟨Z39_0, Z39_1, F39⟩ := bc2 K231.out) | ((with_reducible refine qb_ (f := 34) rfl ?_); refine gl_ (some 14) func34 #[.agg #[.int .i64 a0_0, .string a0_1]] ?_; (with_reducible refine (qw_.calls k a0_0 a0_1 t233 t236 _ ?side1 A7.out).mono ?_); (case side1 => exact GV.below hgv (hs_)); rintro e w40 ⟨v234, rfl, ho0, hb⟩; refine ⟨_, rfl, ?_⟩; have HO235 := qa_.mk (Kd.R_lower ho0 (qj_ (hs_))); replace K231 := ab_ K231 hb; replace HB := hr_ hb; (try clear hb); (try clear hb2); (try clear hk); (try clear hi); (try clear ho0); obtain ⟨Z41_0, Z41_1, F41⟩ := bc2 K231.out) | ((with_reducible refine qb_ (f := 35) rfl ?_); refine gl_ (some 19) func35 #[.agg #[.int .i64 a0_0, .string a0_1]] ?_; (with_reducible refine (qt_.calls k a0_0 a0_1 t237 t240 _ A8.out).mono ?_); rintro e w42 ⟨v238, rfl, ho0, hb⟩; refine ⟨_, rfl, ?_⟩; have HO239 := qa_.mk (Kd.R_lower (Kd.R_new' ho0 (Kd.R_lt (rk_ HO235.out))) (qj_ (hs_))); replace HO235 := qa_.mk (Kd.R_elder' (rk_ HO235.out) (Kd.R_base ho0) hb); replace K231 := ab_ K231 hb; replace HB := hr_ hb; (try clear hb); (try clear hb2); (try clear hk); (try clear hi); (try clear ho0)))
  replace HO235 := qa_.mk (Kd.R_drew HO235.out); replace HO239 := qa_.mk (Kd.R_drew HO239.out); replace K231 := ad_ K231; replace HB := hd_ HB; refine qdm_ (n := 19) (S := fun w' => w'.cell? ⟨g231, 0, none⟩ = some (.int .i64 a0_0) ∧ w'.cell? ⟨g231, 1, none⟩ = some (.string a0_1)) (ds := []) (bs 19 0) (by kernel_rfl) rfl rfl (bc2o K231.out) (fun qn_ => ?_); refine qdg_ qau_.tab5 qau_.bits5 (fun HT_ HW_ => ?_); generalize w42.drew = w43 at HO235 HO239 K231 HB qn_ ⊢; refine on_ 0 22 19 1 (fun K hK => ?_); refine goes_ func15 (by kernel_rfl) rfl #[] (by rfl) rfl rfl z5_ ?_
  with_reducible refine (qbm_.calls k  true _ ?side1 A9.out).mono ?_
  (case side1 => exact GV.below hgv (hs_))
  rintro e w44 ⟨rfl, hb⟩; refine ⟨_, rfl, ?_⟩; replace HO235 := qa_.mk (Kd.R_below (rk_ HO235.out) hb); replace HO239 := qa_.mk (Kd.R_below (rk_ HO239.out) hb); replace K231 := ab_ K231 hb; replace HB := hr_ hb; (try clear hb)
  (try clear hb2)
  (try clear hk)
  (try clear hi)
  refine hK.out _ _ (bc2o K231.out) (fun qn_ => ?_); clear hK K; refine nrm_ 22 ?_
  refine pun_ 1 23 19 3 ?_; refine qfs_ 2 24 19 7 qn_ ?_; refine qfs_ 4 26 19 23 qn_ ?_; refine on_ 3 25 19 31 (fun K hK => ?_); refine goes_ func36 (by kernel_rfl) rfl #[.agg #[.int .i64 a0_0, .string a0_1]] (by rfl) rfl rfl z5_ ?_
  with_reducible refine (qcr_.calls k a0_0 a0_1 t242 _ ?side1 A11.out).mono ?_
  (case side1 => exact GV.below hgv (hs_))
  rintro e w45 ⟨rfl, hb⟩; refine ⟨_, rfl, ?_⟩; replace HO235 := qa_.mk (Kd.R_below (rk_ HO235.out) hb); replace HO239 := qa_.mk (Kd.R_below (rk_ HO239.out) hb); replace K231 := ab_ K231 hb; replace HB := hr_ hb; (try clear hb)
  (try clear hb2)
  (try clear hk)
  (try clear hi)
  refine hK.out _ _ (bc2o K231.out) (fun qn_ => ?_); clear hK K; refine nrm_ 25 ?_
  refine on_ 5 27 19 63 (fun K hK => ?_); refine goes_ func37 (by kernel_rfl) rfl #[.agg #[.int .i64 a0_0, .string a0_1]] (by rfl) rfl rfl z5_ ?_
  with_reducible refine (qdb_.calls k a0_0 a0_1 t243 _ A12.out).mono ?_
  rintro e w46 ⟨rfl, hb⟩; refine ⟨_, rfl, ?_⟩; replace HO235 := qa_.mk (Kd.R_below (rk_ HO235.out) hb); replace HO239 := qa_.mk (Kd.R_below (rk_ HO239.out) hb); replace K231 := ab_ K231 hb; replace HB := hr_ hb; (try clear hb)
  (try clear hb2)
  (try clear hk)
  (try clear hi)
  refine hK.out _ _ (bc2o K231.out) (fun qn_ => ?_); clear hK K; refine nrm_ 27 ?_
  refine pun_ 6 28 19 127 ?_; refine pun_ 7 29 19 255 ?_; refine pun_ 8 30 19 511 ?_; refine pnn_ 9 31 19 1023 ?_; refine pnn_ 10 32 19 2047 ?_; refine pnn_ 11 33 19 4095 ?_; refine pun_ 12 34 19 8191 ?_; refine pun_ 13 35 19 16383 ?_; refine pnn_ 14 36 19 32767 ?_; refine pnn_ 15 37 19 65535 ?_; refine pnn_ 16 38 19 131071 ?_; refine pun_ 17 39 19 262143 ?_; refine pun_ 18 2 19 524287 ?_; refine dn_ ?_; try go_wp2
  go_ret
  exact ⟨z3_, hs_⟩
 rw [if_pos c13] at H; have c13b0 := et_ c13; have c13b1 := nf_ c13; clear c13; obtain ⟨t244, A14, H⟩ := bx_ H; by_cases c15 : t244 = true
 ·subst c15; rw [if_pos rfl] at H; obtain rfl := oi_ H; go_enter func7, ntmps7; try go_wp2_with (first | ((with_reducible refine qh_ (N := 1) rfl ?_); refine be_ (cs := #[.int .i64 a0_0, .string a0_1]) (t := 50) ?_; intro g231 hg w16 hbox hb; have K231 := qa_.mk (hbox); have W231 := ag_ hg HB; have E231 := ag_ hg HB; replace HB := ah_ HB hb; clear hb hbox hg; obtain ⟨Z17_0, Z17_1, F17⟩ := bc2 K231.out) | ((with_reducible refine qb_ (f := 34) rfl ?_); refine gl_ (some 14) func34 #[.agg #[.int .i64 a0_0, .string a0_1]] ?_; (with_reducible refine (qw_.calls k a0_0 a0_1 t233 t236 _ ?side1 A7.out).mono ?_); (case side1 => exact GV.below hgv (hs_)); rintro e w18 ⟨v234, rfl, ho0, hb⟩; refine ⟨_, rfl, ?_⟩; have HO235 := qa_.mk (Kd.R_lower ho0 (qj_ (hs_))); replace K231 := ab_ K231 hb; replace HB := hr_ hb; (try clear hb); (try clear hb2); (try clear hk); (try clear hi); (try clear ho0); obtain ⟨Z19_0, Z19_1, F19⟩ := bc2 K231.out) | ((with_reducible refine qb_ (f := 35) rfl ?_); refine gl_ (some 19) func35 #[.agg #[.int .i64 a0_0, .string a0_1]] ?_; (with_reducible refine (qt_.calls k a0_0 a0_1 t237 t240 _ A8.out).mono ?_); rintro e w20 ⟨v238, rfl, ho0, hb⟩; refine ⟨_, rfl, ?_⟩; have HO239 := qa_.mk (Kd.R_lower (Kd.R_new' ho0 (Kd.R_lt (rk_ HO235.out))) (qj_ (hs_))); replace HO235 := qa_.mk (Kd.R_elder' (rk_ HO235.out) (Kd.R_base ho0) hb); replace K231 := ab_ K231 hb; replace HB := hr_ hb; (try clear hb); (try clear hb2); (try clear hk); (try clear hi); (try clear ho0)))
  replace HO235 := qa_.mk (Kd.R_drew HO235.out); replace HO239 := qa_.mk (Kd.R_drew HO239.out); replace K231 := ad_ K231; replace HB := hd_ HB; refine qdm_ (n := 19) (S := fun w' => w'.cell? ⟨g231, 0, none⟩ = some (.int .i64 a0_0) ∧ w'.cell? ⟨g231, 1, none⟩ = some (.string a0_1)) (ds := []) (bs 19 0) (by kernel_rfl) rfl rfl (bc2o K231.out) (fun qn_ => ?_); refine qdg_ qau_.tab5 qau_.bits5 (fun HT_ HW_ => ?_); generalize w20.drew = w21 at HO235 HO239 K231 HB qn_ ⊢; refine on_ 0 22 19 1 (fun K hK => ?_); refine goes_ func15 (by kernel_rfl) rfl #[] (by rfl) rfl rfl z5_ ?_
  with_reducible refine (qbm_.calls k  true _ ?side1 A9.out).mono ?_
  (case side1 => exact GV.below hgv (hs_))
  rintro e w22 ⟨rfl, hb⟩; refine ⟨_, rfl, ?_⟩; replace HO235 := qa_.mk (Kd.R_below (rk_ HO235.out) hb); replace HO239 := qa_.mk (Kd.R_below (rk_ HO239.out) hb); replace K231 := ab_ K231 hb; replace HB := hr_ hb; (try clear hb)
  (try clear hb2)
  (try clear hk)
  (try clear hi)
  refine hK.out _ _ (bc2o K231.out) (fun qn_ => ?_); clear hK K; refine nrm_ 22 ?_
  refine pun_ 1 23 19 3 ?_; refine qfs_ 2 24 19 7 qn_ ?_; refine qfs_ 4 26 19 23 qn_ ?_; refine on_ 3 25 19 31 (fun K hK => ?_); refine goes_ func36 (by kernel_rfl) rfl #[.agg #[.int .i64 a0_0, .string a0_1]] (by rfl) rfl rfl z5_ ?_
  with_reducible refine (qcr_.calls k a0_0 a0_1 t242 _ ?side1 A11.out).mono ?_
  (case side1 => exact GV.below hgv (hs_))
  rintro e w23 ⟨rfl, hb⟩; refine ⟨_, rfl, ?_⟩; replace HO235 := qa_.mk (Kd.R_below (rk_ HO235.out) hb); replace HO239 := qa_.mk (Kd.R_below (rk_ HO239.out) hb); replace K231 := ab_ K231 hb; replace HB := hr_ hb; (try clear hb)
  (try clear hb2)
  (try clear hk)
  (try clear hi)
  refine hK.out _ _ (bc2o K231.out) (fun qn_ => ?_); clear hK K; refine nrm_ 25 ?_
  refine on_ 5 27 19 63 (fun K hK => ?_); refine goes_ func37 (by kernel_rfl) rfl #[.agg #[.int .i64 a0_0, .string a0_1]] (by rfl) rfl rfl z5_ ?_
  with_reducible refine (qdb_.calls k a0_0 a0_1 t243 _ A12.out).mono ?_
  rintro e w24 ⟨rfl, hb⟩; refine ⟨_, rfl, ?_⟩; replace HO235 := qa_.mk (Kd.R_below (rk_ HO235.out) hb); replace HO239 := qa_.mk (Kd.R_below (rk_ HO239.out) hb); replace K231 := ab_ K231 hb; replace HB := hr_ hb; (try clear hb)
  (try clear hb2)
  (try clear hk)
  (try clear hi)
  obtain ⟨Ao25, co25, eo25⟩ := Kd.R_slice HO235.out; (first | subst eo25 | (injection eo25 with f1_ f2_ f3_; have f4_ := f1_.symm; have f5_ := f3_.symm; clear f1_ f2_ f3_; subst f4_; subst f5_)); obtain ⟨Ao26, co26, eo26⟩ := Kd.R_slice HO239.out; (first | subst eo26 | (injection eo26 with f1_ f2_ f3_; have f4_ := f1_.symm; have f5_ := f3_.symm; clear f1_ f2_ f3_; subst f4_; subst f5_)); refine hK.out _ _ (bc2o K231.out) (fun qn_ => ?_); clear hK K; refine nrm_ 27 ?_
  refine pun_ 6 28 19 127 ?_; refine pun_ 7 29 19 255 ?_; refine pun_ 8 30 19 511 ?_; refine pun_ 9 31 19 1023 ?_; refine pun_ 10 32 19 2047 ?_; refine on_ 11 33 19 4095 (fun K hK => ?_); refine goes_ func38 (by kernel_rfl) rfl #[.slice Ao25 t233.length co25, .slice Ao26 t237.length co26] (by rfl) rfl rfl z5_ ?_
  with_reducible refine (qch_.calls k _ _ t233 _ _ t237 true _ ?side1 ?side2 ?side3 ?side4 A14.out).mono ?_
  (case side1 => repeat (first | exact (Kd.R_reads' HO235.out).2.2 | (with_reducible refine Kd.C_alloc ?_ _) | (with_reducible refine Kd.C_drewN ?_ _) | (with_reducible refine Kd.C_drew ?_)))
  (case side2 => exact (Kd.R_reads' HO235.out).2.1)
  (case side3 => repeat (first | exact (Kd.R_reads' HO239.out).2.2 | (with_reducible refine Kd.C_alloc ?_ _) | (with_reducible refine Kd.C_drewN ?_ _) | (with_reducible refine Kd.C_drew ?_)))
  (case side4 => exact (Kd.R_reads' HO239.out).2.1)
  rintro e w' ⟨rfl, ⟨nd, rfl⟩⟩; refine ⟨_, rfl, ?_⟩; refine hK.out _ _ (bc2o K231.out) (fun qn_ => ?_); clear hK K; refine nrm_ 33 ?_
  refine pun_ 12 34 19 8191 ?_; refine pun_ 13 35 19 16383 ?_; refine pun_ 14 36 19 32767 ?_; refine pun_ 15 37 19 65535 ?_; refine pun_ 16 38 19 131071 ?_; refine pun_ 17 39 19 262143 ?_; refine pun_ 18 2 19 524287 ?_; refine dn_ ?_; try go_wp2
  go_ret
  exact ⟨z3_, hs_⟩
 replace c15 := Bool.eq_false_iff.mpr c15; subst c15; rw [if_neg nft_] at H; obtain rfl := oi_ H; go_enter func7, ntmps7; try go_wp2_with (first | ((with_reducible refine qh_ (N := 1) rfl ?_); refine be_ (cs := #[.int .i64 a0_0, .string a0_1]) (t := 50) ?_; intro g231 hg w27 hbox hb; have K231 := qa_.mk (hbox); have W231 := ag_ hg HB; have E231 := ag_ hg HB; replace HB := ah_ HB hb; clear hb hbox hg; obtain ⟨Z28_0, Z28_1, F28⟩ := bc2 K231.out) | ((with_reducible refine qb_ (f := 34) rfl ?_); refine gl_ (some 14) func34 #[.agg #[.int .i64 a0_0, .string a0_1]] ?_; (with_reducible refine (qw_.calls k a0_0 a0_1 t233 t236 _ ?side1 A7.out).mono ?_); (case side1 => exact GV.below hgv (hs_)); rintro e w29 ⟨v234, rfl, ho0, hb⟩; refine ⟨_, rfl, ?_⟩; have HO235 := qa_.mk (Kd.R_lower ho0 (qj_ (hs_))); replace K231 := ab_ K231 hb; replace HB := hr_ hb; (try clear hb); (try clear hb2); (try clear hk); (try clear hi); (try clear ho0); obtain ⟨Z30_0, Z30_1, F30⟩ := bc2 K231.out) | ((with_reducible refine qb_ (f := 35) rfl ?_); refine gl_ (some 19) func35 #[.agg #[.int .i64 a0_0, .string a0_1]] ?_; (with_reducible refine (qt_.calls k a0_0 a0_1 t237 t240 _ A8.out).mono ?_); rintro e w31 ⟨v238, rfl, ho0, hb⟩; refine ⟨_, rfl, ?_⟩; have HO239 := qa_.mk (Kd.R_lower (Kd.R_new' ho0 (Kd.R_lt (rk_ HO235.out))) (qj_ (hs_))); replace HO235 := qa_.mk (Kd.R_elder' (rk_ HO235.out) (Kd.R_base ho0) hb); replace K231 := ab_ K231 hb; replace HB := hr_ hb; (try clear hb); (try clear hb2); (try clear hk); (try clear hi); (try clear ho0)))
 replace HO235 := qa_.mk (Kd.R_drew HO235.out); replace HO239 := qa_.mk (Kd.R_drew HO239.out); replace K231 := ad_ K231; replace HB := hd_ HB; refine qdm_ (n := 19) (S := fun w' => w'.cell? ⟨g231, 0, none⟩ = some (.int .i64 a0_0) ∧ w'.cell? ⟨g231, 1, none⟩ = some (.string a0_1)) (ds := []) (bs 19 0) (by kernel_rfl) rfl rfl (bc2o K231.out) (fun qn_ => ?_); refine qdg_ qau_.tab5 qau_.bits5 (fun HT_ HW_ => ?_); generalize w31.drew = w32 at HO235 HO239 K231 HB qn_ ⊢; refine on_ 0 22 19 1 (fun K hK => ?_); refine goes_ func15 (by kernel_rfl) rfl #[] (by rfl) rfl rfl z5_ ?_
 with_reducible refine (qbm_.calls k  true _ ?side1 A9.out).mono ?_
 (case side1 => exact GV.below hgv (hs_))
 rintro e w33 ⟨rfl, hb⟩; refine ⟨_, rfl, ?_⟩; replace HO235 := qa_.mk (Kd.R_below (rk_ HO235.out) hb); replace HO239 := qa_.mk (Kd.R_below (rk_ HO239.out) hb); replace K231 := ab_ K231 hb; replace HB := hr_ hb; (try clear hb)
 (try clear hb2)
 (try clear hk)
 (try clear hi)
 refine hK.out _ _ (bc2o K231.out) (fun qn_ => ?_); clear hK K; refine nrm_ 22 ?_
 refine pun_ 1 23 19 3 ?_; refine qfs_ 2 24 19 7 qn_ ?_; refine qfs_ 4 26 19 23 qn_ ?_; refine on_ 3 25 19 31 (fun K hK => ?_); refine goes_ func36 (by kernel_rfl) rfl #[.agg #[.int .i64 a0_0, .string a0_1]] (by rfl) rfl rfl z5_ ?_
 with_reducible refine (qcr_.calls k a0_0 a0_1 t242 _ ?side1 A11.out).mono ?_
 (case side1 => exact GV.below hgv (hs_))
 rintro e w34 ⟨rfl, hb⟩; refine ⟨_, rfl, ?_⟩; replace HO235 := qa_.mk (Kd.R_below (rk_ HO235.out) hb); replace HO239 := qa_.mk (Kd.R_below (rk_ HO239.out) hb); replace K231 := ab_ K231 hb; replace HB := hr_ hb; (try clear hb)
 (try clear hb2)
 (try clear hk)
 (try clear hi)
 refine hK.out _ _ (bc2o K231.out) (fun qn_ => ?_); clear hK K; refine nrm_ 25 ?_
 refine on_ 5 27 19 63 (fun K hK => ?_); refine goes_ func37 (by kernel_rfl) rfl #[.agg #[.int .i64 a0_0, .string a0_1]] (by rfl) rfl rfl z5_ ?_
 with_reducible refine (qdb_.calls k a0_0 a0_1 t243 _ A12.out).mono ?_
 rintro e w35 ⟨rfl, hb⟩; refine ⟨_, rfl, ?_⟩; replace HO235 := qa_.mk (Kd.R_below (rk_ HO235.out) hb); replace HO239 := qa_.mk (Kd.R_below (rk_ HO239.out) hb); replace K231 := ab_ K231 hb; replace HB := hr_ hb; (try clear hb)
 (try clear hb2)
 (try clear hk)
 (try clear hi)
 obtain ⟨Ao36, co36, eo36⟩ := Kd.R_slice HO235.out; (first | subst eo36 | (injection eo36 with f1_ f2_ f3_; have f4_ := f1_.symm; have f5_ := f3_.symm; clear f1_ f2_ f3_; subst f4_; subst f5_)); obtain ⟨Ao37, co37, eo37⟩ := Kd.R_slice HO239.out; (first | subst eo37 | (injection eo37 with f1_ f2_ f3_; have f4_ := f1_.symm; have f5_ := f3_.symm; clear f1_ f2_ f3_; subst f4_; subst f5_)); refine hK.out _ _ (bc2o K231.out) (fun qn_ => ?_); clear hK K; refine nrm_ 27 ?_
 refine pun_ 6 28 19 127 ?_; refine pun_ 7 29 19 255 ?_; refine pun_ 8 30 19 511 ?_; refine pun_ 9 31 19 1023 ?_; refine pun_ 10 32 19 2047 ?_; refine on_ 11 33 19 4095 (fun K hK => ?_); refine goes_ func38 (by kernel_rfl) rfl #[.slice Ao36 t233.length co36, .slice Ao37 t237.length co37] (by rfl) rfl rfl z5_ ?_
 with_reducible refine (qch_.calls k _ _ t233 _ _ t237 false _ ?side1 ?side2 ?side3 ?side4 A14.out).mono ?_
 (case side1 => repeat (first | exact (Kd.R_reads' HO235.out).2.2 | (with_reducible refine Kd.C_alloc ?_ _) | (with_reducible refine Kd.C_drewN ?_ _) | (with_reducible refine Kd.C_drew ?_)))
 (case side2 => exact (Kd.R_reads' HO235.out).2.1)
 (case side3 => repeat (first | exact (Kd.R_reads' HO239.out).2.2 | (with_reducible refine Kd.C_alloc ?_ _) | (with_reducible refine Kd.C_drewN ?_ _) | (with_reducible refine Kd.C_drew ?_)))
 (case side4 => exact (Kd.R_reads' HO239.out).2.1)
 rintro e w' ⟨rfl, ⟨nd, rfl⟩⟩; refine ⟨_, rfl, ?_⟩; refine hK.out _ _ (bc2o K231.out) (fun qn_ => ?_); clear hK K; refine nrm_ 33 ?_
 refine pun_ 12 34 19 8191 ?_; refine pun_ 13 35 19 16383 ?_; refine pnn_ 14 36 19 32767 ?_; refine pnn_ 15 37 19 65535 ?_; refine pnn_ 16 38 19 131071 ?_; refine pun_ 17 39 19 262143 ?_; refine pun_ 18 2 19 524287 ?_; refine dn_ ?_; try go_wp2
 go_ret
 exact ⟨z3_, hs_⟩
def mk (l : List UInt8) : ByteArray := ⟨l.toArray⟩
theorem qdv_ (l : List UInt8) : (mk l).data.toList = l := by simp [mk]
theorem mk_of (s : ByteArray) : mk s.data.toList = s := ba_ext (qdv_ _)
theorem qhm_ (l : List UInt8) : (mk l).toList = l := by rw [ByteArray.toList_eq, qdv_]
theorem qco_ (l : List UInt8) : (mk l).size = l.length := by rw [Lib.size_eq, qdv_]
theorem qcg_ (s : ByteArray) : s.data.toList.length = s.size := (Lib.size_eq s).symm
theorem index_nonneg_iff (l s : List UInt8) : 0 ≤ Lib.index l s ∨ Lib.index l s = -1 := by
 have := Lib.index_ge l s; omega
theorem qff_ {b : UInt8} {l s : List UInt8} (h : s.isPrefixOf (b :: l) = true) : Lib.index (b :: l) s = 0 := by rw [Lib.index, if_pos h]
theorem qes_ {b : UInt8} {l s : List UInt8} (h : s.isPrefixOf (b :: l) = false) : Lib.index (b :: l) s = if Lib.index l s == -1 then -1 else Lib.index l s + 1 := by rw [Lib.index, if_neg (by simp [h])]
theorem qhu_ (s : List UInt8) (hs : s ≠ []) : ∀ l : List UInt8, 0 ≤ Lib.index l s → ∃ a b, l = a ++ s ++ b ∧ Lib.index l s = a.length
 | [], h => by
  rw [Lib.index, if_neg (by simp [hs])] at h; omega
 | c :: l, h => by
  by_cases hp : s.isPrefixOf (c :: l) = true
  ·obtain ⟨t, ht⟩ := List.isPrefixOf_iff_prefix.1 hp
   exact ⟨[], t, by simp [ht], by rw [qff_ hp]; rfl⟩
  ·rw [Bool.not_eq_true] at hp
   rw [qes_ hp] at h ⊢
   by_cases h1 : Lib.index l s = -1
   ·rw [h1] at h; simp at h
   ·obtain ⟨a, b, e, he⟩ := qhu_ s hs l (by have := Lib.index_ge l s; omega)
    refine ⟨c :: a, b, by rw [e]; simp, ?_⟩
    rw [if_neg (by simpa using h1), he, List.length_cons]; omega
theorem index_one (x : UInt8) : ∀ (a b : List UInt8), x ∉ a → Lib.index (a ++ x :: b) [x] = a.length
 | [], b, _ => qff_ (by simp [List.isPrefixOf])
 | c :: a, b, h => by
  have ih := index_one x a b (fun e => h (by simp [e]))
  have hp : [x].isPrefixOf (c :: (a ++ x :: b)) = false := by
   simp [List.isPrefixOf]; intro e; subst e; simp at h
  rw [List.cons_append, qes_ hp, ih, if_neg (by simp only [beq_iff_eq]; omega), List.length_cons]
  omega
theorem cut_of {l s : List UInt8} (h : 0 ≤ Lib.index l s) : Lib.cut l s = (l.take (Lib.index l s).toNat, l.drop ((Lib.index l s).toNat + s.length), true) := by unfold Lib.cut; rw [if_pos h]
theorem cut_no {l s : List UInt8} (h : ¬ 0 ≤ Lib.index l s) : Lib.cut l s = (l, [], false) := by unfold Lib.cut; rw [if_neg h]
theorem cut_one (x : UInt8) (a b : List UInt8) (h : x ∉ a) : Lib.cut (a ++ x :: b) [x] = (a, b, true) := by
 have := index_one x a b h
 rw [cut_of (by omega), this]
 simp [List.take_append, List.drop_append]
theorem qfr_ {l s a b : List UInt8} (hs : s ≠ []) (h : Lib.cut l s = (a, b, true)) : l = a ++ s ++ b ∧ Lib.index l s = a.length := by
 by_cases h0 : 0 ≤ Lib.index l s
 ·rw [cut_of h0] at h
  obtain ⟨h1, h2⟩ := Prod.mk.inj h
  obtain ⟨h2, _⟩ := Prod.mk.inj h2
  obtain ⟨p, q, e, he⟩ := qhu_ s hs l h0
  rw [he] at h1 h2
  have e1 : p = a := by rw [← h1, e]; simp [List.take_append]
  have e2 : q = b := by rw [← h2, e]; simp [List.drop_append]
  subst e1 e2
  exact ⟨e, he⟩
 ·rw [cut_no h0] at h; simp at h
theorem qhh_ {l s a b : List UInt8} (h : Lib.cut l s = (a, b, false)) : a = l ∧ b = [] ∧ Lib.index l s = -1 := by
 by_cases h0 : 0 ≤ Lib.index l s
 ·rw [cut_of h0] at h; simp at h
 ·rw [cut_no h0] at h
  have := Lib.index_ge l s
  simp at h
  exact ⟨h.1.symm, h.2, by omega⟩
def isDig (c : UInt8) : Bool := decide (48 ≤ c.toNat) && decide (c.toNat ≤ 57)
def valN (acc : Nat) (l : List UInt8) : Nat := l.foldl (fun a c => 10 * a + (c.toNat - 48)) acc
theorem valN_nil (acc : Nat) : valN acc [] = acc := by unfold valN; rw [List.foldl_nil]
theorem valN_cons (acc : Nat) (c : UInt8) (l : List UInt8) : valN acc (c :: l) = valN (10 * acc + (c.toNat - 48)) l := by unfold valN; rw [List.foldl_cons]
theorem digitVal_dig {c : UInt8} (h : isDig c = true) : Lib.digitVal c = some (c.toNat - 48) := by
 unfold isDig at h
 simp only [Bool.and_eq_true, decide_eq_true_eq] at h
 unfold Lib.digitVal
 rw [if_pos h]
theorem decFrom_val (l : List UInt8) : ∀ (acc : Nat), l.all isDig = true → Lib.decFrom acc l = some (valN acc l) := by
 induction l with
 | nil => intro acc _; rfl
 | cons c l ih =>
  intro acc h
  rw [List.all_cons, Bool.and_eq_true] at h
  rw [Lib.decFrom, digitVal_dig h.1]
  show Lib.decFrom (acc * 10 + (c.toNat - 48)) l = _
  rw [ih _ h.2, valN_cons, Nat.mul_comm]
theorem atoi_val {l : List UInt8} (hn : l ≠ []) (h : l.all isDig = true) : Lib.atoi l = some ((valN 0 l : Nat) : Int) := by
 cases l with
 | nil => exact absurd rfl hn
 | cons c r =>
  have hc : isDig c = true := by rw [List.all_cons, Bool.and_eq_true] at h; exact h.1
  unfold isDig at hc
  simp only [Bool.and_eq_true, decide_eq_true_eq] at hc
  have h1 : (c == 45) = false := by rw [beq_eq_false_iff_ne]; rintro rfl; simp at hc
  have h2 : (c == 43) = false := by rw [beq_eq_false_iff_ne]; rintro rfl; simp at hc
  rw [Lib.atoi, h1, h2]
  simp only [Bool.false_eq_true, if_false]
  unfold Lib.decNat
  rw [List.isEmpty_cons]
  simp only [Bool.false_eq_true, if_false]
  rw [decFrom_val _ _ h]; rfl
theorem valN_lt : ∀ (l : List UInt8) (acc n : Nat), l.all isDig = true → acc < 10 ^ n → valN acc l < 10 ^ (n + l.length)
 | [], acc, n, _, h => by simpa [valN_nil] using h
 | c :: l, acc, n, h, ha => by
  rw [List.all_cons, Bool.and_eq_true] at h
  have hc := h.1
  unfold isDig at hc
  simp only [Bool.and_eq_true, decide_eq_true_eq] at hc
  have := valN_lt l (10 * acc + (c.toNat - 48)) (n + 1) h.2 (by rw [Nat.pow_succ]; omega)
  rw [valN_cons, List.length_cons, show n + (l.length + 1) = n + 1 + l.length by omega]
  exact this
theorem qm_ {α : Type} {c : Prop} [Decidable c] {f g : Nat → Option α} {r : α} (h1 : c → Ev f r) (h2 : ¬ c → Ev g r) : Ev (fun k => if c then f k else g k) r := by
 by_cases h : c
 ·exact Ev.congr (fun k => if_pos h) (h1 h)
 ·exact Ev.congr (fun k => if_neg h) (h2 h)
theorem qbi_ {α : Type} {c : Prop} [Decidable c] {f g : Nat → Option α} {r : α} (h : c) (h1 : Ev f r) : Ev (fun k => if c then f k else g k) r := qm_ (fun _ => h1) (fun h2 => absurd h h2)
theorem ev_no {α : Type} {c : Prop} [Decidable c] {f g : Nat → Option α} {r : α} (h : ¬ c) (h1 : Ev g r) : Ev (fun k => if c then f k else g k) r := qm_ (fun h2 => absurd h2 h) (fun _ => h1)
theorem ev_eq {α : Type} {f : Nat → Option α} {r q : α} (h : Ev f q) (e : q = r) : Ev f r := e ▸ h
theorem qfh_ {s : ByteArray} {i : Nat} {c : UInt8} {t : List UInt8} (h : s.data.toList.drop i = c :: t) : i < s.size ∧ bt s (i : Int) = (c.toNat : Int) ∧ s.data.toList.drop (i + 1) = t := by
 have hlt : i < s.data.toList.length := by
  rcases Nat.lt_or_ge i s.data.toList.length with h1 | h1
  ·exact h1
  ·rw [List.drop_eq_nil_of_le h1] at h; cases h
 have hs : i < s.size := by rw [← qcg_]; exact hlt
 rw [List.drop_eq_getElem_cons hlt] at h
 obtain ⟨h1, h2⟩ := List.cons.inj h
 refine ⟨hs, ?_, h2⟩
 rw [bt_get s i hs, h1]
theorem qfi_ {s : ByteArray} {i : Nat} (h : s.data.toList.drop i = []) : s.size ≤ i := by
 rw [← qcg_]; simpa [List.drop_eq_nil_iff] using h
theorem qfl_ (s : ByteArray) (i j : Nat) : (s.extract i j).data.toList = (s.data.toList.drop i).take (j - i) := by
 rw [ByteArray.data_extract, Array.toList_extract, List.extract_eq_drop_take', List.drop_take]
theorem ext_mk (s : ByteArray) (i j : Nat) : s.extract i j = mk ((s.data.toList.drop i).take (j - i)) := ba_ext (by rw [qfl_, qdv_])
def okU (c : UInt8) : Bool := decide (32 ≤ c.toNat) && (!(decide (c.toNat = 60)) && !(decide (c.toNat = 62)))
def edge (s : ByteArray) : Bool := decide (s.size < 1) || (decide (64 < s.size) || (decide (bt s 0 = 32) || decide (bt s ((s.size : Int) - 1) = 32)))
def qfq_ (s : ByteArray) : Bool := !edge s && s.data.toList.all okU
theorem okU_all {c : UInt8} {t : List UInt8} : (c :: t).all okU = (okU c && t.all okU) := rfl
theorem named_l0 (s : ByteArray) (hs : s.size ≤ 140737488351232) : ∀ (t : List UInt8) (i : Nat), s.data.toList.drop i = t → Ev (fun k => qaf_.l0 k s (s.size : Int) i) (t.all okU)
 | [], i, h => by
  have := qfi_ h
  exact Ev.step (f := ?_) (fun k => by rw [qaf_.l0, if_neg (by omega)]) (Ev.now _)
 | c :: t, i, h => by
  obtain ⟨hlt, hb, ht⟩ := qfh_ h
  have e1 : wrap64 ((i : Int) + 1) = ((i + 1 : Nat) : Int) := by rw [qbd_ (by omega) (by omega)]; omega
  refine Ev.step (f := ?_) (fun k => by rw [qaf_.l0, if_pos (by omega), if_pos (by omega), if_pos (by omega), hb, e1]) ?_
  rw [okU_all]
  refine qm_ (fun g => ev_eq (Ev.now _) ?_) (fun g => ?_)
  ·unfold okU; rw [decide_eq_false (by omega)]; rfl
  refine qm_ (fun g2 => ev_eq (Ev.now _) ?_) (fun g2 => ?_)
  ·unfold okU; rw [decide_eq_true (show c.toNat = 60 by omega)]; simp
  refine qm_ (fun g3 => ev_eq (Ev.now _) ?_) (fun g3 => ?_)
  ·unfold okU; rw [decide_eq_true (show c.toNat = 62 by omega)]; simp
  refine ev_eq (named_l0 s hs t (i + 1) ht) ?_
  unfold okU
  rw [decide_eq_true (show 32 ≤ c.toNat by omega), decide_eq_false (show ¬ c.toNat = 60 by omega), decide_eq_false (show ¬ c.toNat = 62 by omega)]; rfl
theorem refNamed_l0 (s : ByteArray) (hs : s.size ≤ 140737488351232) : ∀ (t : List UInt8) (i : Nat), s.data.toList.drop i = t → Ev (fun k => qy_.l0 k s i) (t.all okU)
 | [], i, h => by
  have := qfi_ h
  exact Ev.step (f := ?_) (fun k => by rw [qy_.l0, if_neg (by omega)]) (Ev.now _)
 | c :: t, i, h => by
  obtain ⟨hlt, hb, ht⟩ := qfh_ h
  have e1 : wrap64 ((i : Int) + 1) = ((i + 1 : Nat) : Int) := by rw [qbd_ (by omega) (by omega)]; omega
  refine Ev.step (f := ?_) (fun k => by rw [qy_.l0, if_pos (by omega), if_pos (by omega), hb, e1]) ?_
  rw [okU_all]
  refine qm_ (fun g => ev_eq (Ev.now _) ?_) (fun g => ?_)
  ·unfold okU; rw [decide_eq_false (by omega)]; rfl
  refine qm_ (fun g2 => ev_eq (Ev.now _) ?_) (fun g2 => ?_)
  ·unfold okU; rw [decide_eq_true (show c.toNat = 60 by omega)]; simp
  refine qm_ (fun g3 => ev_eq (Ev.now _) ?_) (fun g3 => ?_)
  ·unfold okU; rw [decide_eq_true (show c.toNat = 62 by omega)]; simp
  refine ev_eq (refNamed_l0 s hs t (i + 1) ht) ?_
  unfold okU
  rw [decide_eq_true (show 32 ≤ c.toNat by omega), decide_eq_false (show ¬ c.toNat = 60 by omega), decide_eq_false (show ¬ c.toNat = 62 by omega)]; rfl
theorem named_ev (s : ByteArray) (hs : s.size ≤ 140737488351232) : Ev (fun k => qaf_.f k s) (qfq_ s) := by
 have hT : edge s = true → Ev (fun k => qaf_.j0 k s true) (qfq_ s) := fun h => by
  unfold qfq_; rw [h]
  exact Ev.step (f := ?_) (fun k => by rw [qaf_.j0, if_pos rfl]) (Ev.now _)
 unfold edge at hT
 refine qm_ (fun g => hT (by rw [decide_eq_true (by omega)]; rfl)) (fun g => ?_)
 refine qm_ (fun g2 => hT (by rw [decide_eq_true (show 64 < s.size by omega)]; simp)) (fun g2 => ?_)
 refine qbi_ (by omega) (qm_ (fun g3 => hT (by rw [decide_eq_true g3]; simp)) (fun g3 => ?_))
 have e1 : wrap64 ((s.size : Int) - 1) = (s.size : Int) - 1 := qbd_ (by omega) (by omega)
 rw [e1]
 refine qbi_ (by omega) (qbi_ (by omega) ?_)
 by_cases g4 : bt s ((s.size : Int) - 1) = 32
 ·rw [show (bt s ((s.size : Int) - 1) == 32) = true by simpa using g4]
  exact hT (by rw [decide_eq_true g4]; simp)
 ·rw [show (bt s ((s.size : Int) - 1) == 32) = false by simpa using g4]
  refine Ev.step (f := ?_) (fun k => by rw [qaf_.j0, if_neg (by decide)]) ?_
  have he : edge s = false := by
   unfold edge
   rw [decide_eq_false (show ¬ s.size < 1 by omega), decide_eq_false (show ¬ 64 < s.size by omega), decide_eq_false g3, decide_eq_false g4]; rfl
  unfold qfq_
  rw [he]
  have := named_l0 s hs s.data.toList 0 rfl
  exact_mod_cast this
theorem refNamed_ev (s : ByteArray) (hs : s.size ≤ 140737488351232) : Ev (fun k => qy_.f k s) (qfq_ s) := by
 have hT : edge s = true → Ev (fun k => qy_.j0 k s true) (qfq_ s) := fun h => by
  unfold qfq_; rw [h]
  exact Ev.step (f := ?_) (fun k => by rw [qy_.j0, if_pos rfl]) (Ev.now _)
 unfold edge at hT
 refine qm_ (fun g => hT (by rw [decide_eq_true (by omega)]; rfl)) (fun g => ?_)
 refine qm_ (fun g2 => hT (by rw [decide_eq_true (show 64 < s.size by omega)]; simp)) (fun g2 => ?_)
 refine qbi_ (by omega) (qm_ (fun g3 => hT (by rw [decide_eq_true g3]; simp)) (fun g3 => ?_))
 have e1 : wrap64 ((s.size : Int) - 1) = (s.size : Int) - 1 := qbd_ (by omega) (by omega)
 rw [e1]
 refine qbi_ (by omega) (qbi_ (by omega) ?_)
 by_cases g4 : bt s ((s.size : Int) - 1) = 32
 ·rw [show (bt s ((s.size : Int) - 1) == 32) = true by simpa using g4]
  exact hT (by rw [decide_eq_true g4]; simp)
 ·rw [show (bt s ((s.size : Int) - 1) == 32) = false by simpa using g4]
  refine Ev.step (f := ?_) (fun k => by rw [qy_.j0, if_neg (by decide)]) ?_
  have he : edge s = false := by
   unfold edge
   rw [decide_eq_false (show ¬ s.size < 1 by omega), decide_eq_false (show ¬ 64 < s.size by omega), decide_eq_false g3, decide_eq_false g4]; rfl
  unfold qfq_
  rw [he]
  have := refNamed_l0 s hs s.data.toList 0 rfl
  exact_mod_cast this
def qfo_ (n m : ByteArray) (t z : Int) : Bool := qfq_ n && (qfq_ m && (decide (0 ≤ t) && (decide (t ≤ 1099511627776) && (decide (-840 ≤ z) && decide (z ≤ 840)))))
theorem qgo_ (n m : ByteArray) (t z : Int) (hn : n.size ≤ 140737488351232) (hm : m.size ≤ 140737488351232) : Ev (fun k => qbf_.f k n m t z) (qfo_ n m t z) := by
 unfold qfo_
 refine Ev.bind (named_ev n hn) (qm_ (fun g => ?_) (fun g => ev_eq (Ev.now _) ?_))
 ·rw [g, Bool.true_and]
  refine Ev.bind (named_ev m hm) (qm_ (fun g => ?_) (fun g => ev_eq (Ev.now _) ?_))
  ·rw [g, Bool.true_and]
   refine qm_ (fun g1 => ?_) (fun g1 => ev_eq (Ev.now _) (by rw [decide_eq_false (by omega)]; rfl))
   refine qm_ (fun g2 => ?_) (fun g2 => ev_eq (Ev.now _) (by rw [decide_eq_false (show ¬ t ≤ 1099511627776 by omega)]; simp))
   refine qm_ (fun g3 => ?_) (fun g3 => ev_eq (Ev.now _) (by rw [decide_eq_false (show ¬ -840 ≤ z by omega)]; simp))
   refine ev_eq (Ev.now _) ?_
   rw [decide_eq_true (show 0 ≤ t by omega), decide_eq_true g2, decide_eq_true (show -840 ≤ z by omega)]; rfl
  ·rw [Bool.not_eq_true] at g; rw [g]; rfl
 ·rw [Bool.not_eq_true] at g; rw [g]; rfl
theorem qhl_ (n m : ByteArray) (t z : Int) (hn : n.size ≤ 140737488351232) (hm : m.size ≤ 140737488351232) : Ev (fun k => qaq_.f k n m t z) (qfo_ n m t z) := by
 unfold qfo_
 refine Ev.bind (refNamed_ev n hn) (qm_ (fun g => ?_) (fun g => ev_eq (Ev.now _) ?_))
 ·rw [g, Bool.true_and]
  refine Ev.bind (refNamed_ev m hm) (qm_ (fun g => ?_) (fun g => ev_eq (Ev.now _) ?_))
  ·rw [g, Bool.true_and]
   refine qm_ (fun g1 => ?_) (fun g1 => ev_eq (Ev.now _) (by rw [decide_eq_false (by omega)]; rfl))
   refine qm_ (fun g2 => ?_) (fun g2 => ev_eq (Ev.now _) (by rw [decide_eq_false (show ¬ t ≤ 1099511627776 by omega)]; simp))
   refine qm_ (fun g3 => ?_) (fun g3 => ev_eq (Ev.now _) (by rw [decide_eq_false (show ¬ -840 ≤ z by omega)]; simp))
   refine ev_eq (Ev.now _) ?_
   rw [decide_eq_true (show 0 ≤ t by omega), decide_eq_true g2, decide_eq_true (show -840 ≤ z by omega)]; rfl
  ·rw [Bool.not_eq_true] at g; rw [g]; rfl
 ·rw [Bool.not_eq_true] at g; rw [g]; rfl
def offD (s : ByteArray) : Bool := decide (s.size < 1) || (decide (18 < s.size) || (decide (1 < s.size) && decide (bt s 0 = 48)))
def digOk (s : ByteArray) : Bool := !offD s && s.data.toList.all isDig
def valI (s : ByteArray) : Int := ((valN 0 s.data.toList : Nat) : Int)
theorem qgr_ {c : UInt8} {t : List UInt8} : (c :: t).all isDig = (isDig c && t.all isDig) := rfl
theorem Atoi_eq (s : ByteArray) (h0 : 1 ≤ s.size) (h1 : s.size ≤ 18) (h : s.data.toList.all isDig = true) : qcn_.f s = some (valI s, none) := by
 unfold qcn_.f
 rw [if_pos h1, atoi_val (fun e => by have := qcg_ s; rw [e] at this; simp at this; omega) h]
 rfl
theorem wdigits_l0 (s : ByteArray) (h0 : 1 ≤ s.size) (h1 : s.size ≤ 18) : ∀ (t : List UInt8) (i : Nat), s.data.toList.drop i = t → (s.data.toList.take i).all isDig = true → Ev (fun k => qan_.l0 k s (s.size : Int) i) (if t.all isDig = true then (valI s, true) else (0, false))
 | [], i, h, hp => by
  have hi := qfi_ h
  have ha : s.data.toList.all isDig = true := by rwa [List.take_of_length_le (by rw [qcg_]; exact hi)] at hp
  refine Ev.step (f := ?_) (fun k => by rw [qan_.l0, if_neg (by omega), Atoi_eq s h0 h1 ha]) (ev_eq (Ev.now _) ?_)
  rfl
 | c :: t, i, h, hp => by
  obtain ⟨hlt, hb, ht⟩ := qfh_ h
  have e1 : wrap64 ((i : Int) + 1) = ((i + 1 : Nat) : Int) := by rw [qbd_ (by omega) (by omega)]; omega
  refine Ev.step (f := ?_) (fun k => by rw [qan_.l0, if_pos (by omega), if_pos (by omega), if_pos (by omega), hb, e1]) ?_
  rw [qgr_]
  refine qm_ (fun g => ev_eq (Ev.now _) ?_) (fun g => ?_)
  ·unfold isDig; rw [decide_eq_false (by omega)]; rfl
  refine qm_ (fun g2 => ev_eq (Ev.now _) ?_) (fun g2 => ?_)
  ·unfold isDig; rw [decide_eq_false (show ¬ c.toNat ≤ 57 by omega)]; simp
  have hc : isDig c = true := by unfold isDig; rw [decide_eq_true (show 48 ≤ c.toNat by omega), decide_eq_true (show c.toNat ≤ 57 by omega)]; rfl
  have hp2 : (s.data.toList.take (i + 1)).all isDig = true := by
   have hl : i < s.data.toList.length := by rw [qcg_]; exact hlt
   rw [List.take_succ_eq_append_getElem hl, List.all_append, hp, Bool.true_and]
   rw [List.drop_eq_getElem_cons hl] at h
   rw [(List.cons.inj h).1]
   simp [hc]
  rw [hc, Bool.true_and]
  exact wdigits_l0 s h0 h1 t (i + 1) ht hp2
theorem digits_ev (s : ByteArray) (hs : s.size ≤ 140737488351232) : Ev (fun k => qan_.f k s 18) (if digOk s = true then (valI s, true) else (0, false)) := by
 have hT : offD s = true → Ev (fun k => qan_.j0 k s true) (if digOk s = true then (valI s, true) else (0, false)) := fun h => by
  unfold digOk; rw [h]
  exact Ev.step (f := ?_) (fun k => by rw [qan_.j0, if_pos rfl]) (Ev.now _)
 have hF : offD s = false → 1 ≤ s.size → s.size ≤ 18 → Ev (fun k => qan_.j0 k s false) (if digOk s = true then (valI s, true) else (0, false)) := fun h h0 h1 => by
  unfold digOk; rw [h]
  refine Ev.step (f := ?_) (fun k => by rw [qan_.j0, if_neg (by decide)]) ?_
  have := wdigits_l0 s h0 h1 s.data.toList 0 rfl rfl
  exact_mod_cast this
 unfold offD at hT hF
 refine qm_ (fun g => hT (by rw [decide_eq_true (by omega)]; rfl)) (fun g => ?_)
 refine qm_ (fun g2 => hT (by rw [decide_eq_true (show 18 < s.size by omega)]; simp)) (fun g2 => ?_)
 rw [decide_eq_false (show ¬ s.size < 1 by omega), decide_eq_false (show ¬ 18 < s.size by omega)] at hF
 refine qm_ (fun g3 => qbi_ (by omega) ?_) (fun g3 => hF (by rw [decide_eq_false (show ¬ 1 < s.size by omega)]; rfl) (by omega) (by omega))
 rw [decide_eq_true (show 1 < s.size by omega)] at hT hF
 by_cases g4 : bt s 0 = 48
 ·rw [show (bt s 0 == 48) = true by simpa using g4]; exact hT (by rw [decide_eq_true g4]; simp)
 ·rw [show (bt s 0 == 48) = false by simpa using g4]; exact hF (by rw [decide_eq_false g4]; rfl) (by omega) (by omega)
theorem Digits_l0 (s : ByteArray) (hs : s.size ≤ 18) : ∀ (t : List UInt8) (i : Nat), s.data.toList.drop i = t → Ev (fun k => qad_.l0 k s i) (t.all isDig)
 | [], i, h => by
  have hi := qfi_ h
  exact Ev.step (f := ?_) (fun k => by rw [qad_.l0, if_neg (by omega)]) (Ev.now _)
 | c :: t, i, h => by
  obtain ⟨hlt, hb, ht⟩ := qfh_ h
  have e1 : wrap64 ((i : Int) + 1) = ((i + 1 : Nat) : Int) := by rw [qbd_ (by omega) (by omega)]; omega
  refine Ev.step (f := ?_) (fun k => by rw [qad_.l0, if_pos (by omega), if_pos (by omega), hb, e1]) ?_
  rw [qgr_]
  refine qm_ (fun g => ev_eq (Ev.now _) ?_) (fun g => ?_)
  ·unfold isDig; rw [decide_eq_false (by omega)]; rfl
  refine qm_ (fun g2 => ev_eq (Ev.now _) ?_) (fun g2 => ?_)
  ·unfold isDig; rw [decide_eq_false (show ¬ c.toNat ≤ 57 by omega)]; simp
  have hc : isDig c = true := by unfold isDig; rw [decide_eq_true (show 48 ≤ c.toNat by omega), decide_eq_true (show c.toNat ≤ 57 by omega)]; rfl
  rw [hc, Bool.true_and]
  exact Digits_l0 s hs t (i + 1) ht
theorem Digits_ev (s : ByteArray) (hs : s.size ≤ 140737488351232) : Ev (fun k => qad_.f k s) (digOk s) := by
 have hT : offD s = true → Ev (fun k => qad_.j0 k s true) (digOk s) := fun h => by
  unfold digOk; rw [h]
  exact Ev.step (f := ?_) (fun k => by rw [qad_.j0, if_pos rfl]) (Ev.now _)
 have hF : offD s = false → s.size ≤ 18 → Ev (fun k => qad_.j0 k s false) (digOk s) := fun h h1 => by
  unfold digOk; rw [h]
  refine Ev.step (f := ?_) (fun k => by rw [qad_.j0, if_neg (by decide)]) ?_
  have := Digits_l0 s h1 s.data.toList 0 rfl
  exact_mod_cast this
 unfold offD at hT hF
 refine qm_ (fun g => hT (by rw [decide_eq_true (by omega)]; rfl)) (fun g => ?_)
 refine qm_ (fun g2 => hT (by rw [decide_eq_true (show 18 < s.size by omega)]; simp)) (fun g2 => ?_)
 rw [decide_eq_false (show ¬ s.size < 1 by omega), decide_eq_false (show ¬ 18 < s.size by omega)] at hF
 refine qm_ (fun g3 => qbi_ (by omega) ?_) (fun g3 => hF (by rw [decide_eq_false (show ¬ 1 < s.size by omega)]; rfl) (by omega))
 rw [decide_eq_true (show 1 < s.size by omega)] at hT hF
 by_cases g4 : bt s 0 = 48
 ·rw [show (bt s 0 == 48) = true by simpa using g4]; exact hT (by rw [decide_eq_true g4]; simp)
 ·rw [show (bt s 0 == 48) = false by simpa using g4]; exact hF (by rw [decide_eq_false g4]; rfl) (by omega)
theorem Value_l0 (s : ByteArray) (hs : s.size ≤ 18) : ∀ (t : List UInt8) (i acc : Nat), s.data.toList.drop i = t → t.all isDig = true → acc < 10 ^ i → Ev (fun k => qaz_.l0 k s (acc : Int) i) ((valN acc t : Nat) : Int)
 | [], i, acc, h, _, _ => by
  have hi := qfi_ h
  rw [valN_nil]
  exact Ev.step (f := ?_) (fun k => by rw [qaz_.l0, if_neg (by omega)]) (Ev.now _)
 | c :: t, i, acc, h, hd, ha => by
  obtain ⟨hlt, hb, ht⟩ := qfh_ h
  rw [qgr_, Bool.and_eq_true] at hd
  have hc := hd.1
  unfold isDig at hc
  simp only [Bool.and_eq_true, decide_eq_true_eq] at hc
  have hpow : 10 ^ i ≤ 10 ^ 17 := Nat.pow_le_pow_right (by decide) (by omega)
  have hpow2 : (10 : Nat) ^ 17 = 100000000000000000 := by decide
  have e1 : wrap64 ((i : Int) + 1) = ((i + 1 : Nat) : Int) := by rw [qbd_ (by omega) (by omega)]; omega
  have e2 : wrap64 ((wrap64 ((wrap64 (10 * (acc : Int))) + (wrap64 ((c.toNat : Int))))) - 48) = ((10 * acc + (c.toNat - 48) : Nat) : Int) := by
   rw [qbd_ (x := 10 * (acc : Int)) (by omega) (by omega), qbd_ (x := (c.toNat : Int)) (by omega) (by omega), qbd_ (x := 10 * (acc : Int) + (c.toNat : Int)) (by omega) (by omega), qbd_ (by omega) (by omega)]
   omega
  refine Ev.step (f := ?_) (fun k => by rw [qaz_.l0, if_pos (by omega), if_pos (by omega), hb, e1, e2]) ?_
  rw [valN_cons]
  exact Value_l0 s hs t (i + 1) _ ht hd.2 (by rw [Nat.pow_succ]; omega)
theorem Value_ev (s : ByteArray) (hs : s.size ≤ 18) (h : s.data.toList.all isDig = true) : Ev (fun k => qaz_.f k s) (valI s) := by
 have := Value_l0 s hs s.data.toList 0 0 rfl h (by decide)
 exact_mod_cast this
def zoneB (s : ByteArray) : Int × Bool :=
 if s.size = 5 ∧ (bt s 0 = 43 ∨ bt s 0 = 45) ∧ s.data.toList ≠ [45, 48, 48, 48, 48] ∧ (s.data.toList.drop 1).all isDig = true then
  (if 60 ≤ valI (s.extract 3 s.size) then (0, false) else if bt s 0 = 45 then (-60 * valI (s.extract 1 3) - valI (s.extract 3 s.size), true) else (60 * valI (s.extract 1 3) + valI (s.extract 3 s.size), true))
 else (0, false)
theorem all_drop1 {s : ByteArray} (h5 : s.size = 5) (h : (s.data.toList.drop 1).all isDig = true) : (s.extract 1 3).data.toList.all isDig = true ∧ (s.extract 3 s.size).data.toList.all isDig = true ∧ (s.extract 1 3).size = 2 ∧ (s.extract 3 s.size).size = 2 := by
 rw [qfl_, qfl_]
 refine ⟨?_, ?_, ?_, ?_⟩
 ·rw [List.all_eq_true] at h ⊢
  exact fun x hx => h x (List.mem_of_mem_take hx)
 ·rw [List.all_eq_true] at h ⊢
  intro x hx
  have := List.mem_of_mem_take hx
  exact h x (by rw [show (3 : Nat) = 1 + 2 by rfl, ← List.drop_drop] at this; exact List.mem_of_mem_drop this)
 ·rw [← qcg_, qfl_, List.length_take, List.length_drop, qcg_]; omega
 ·rw [← qcg_, qfl_, List.length_take, List.length_drop, qcg_]; omega
theorem val_two {s : ByteArray} (h2 : s.size = 2) (h : s.data.toList.all isDig = true) : 0 ≤ valI s ∧ valI s < 100 := by
 have := valN_lt s.data.toList 0 0 h (by decide)
 rw [qcg_, h2] at this
 unfold valI
 omega
theorem zone_l0 (s : ByteArray) (h5 : s.size = 5) : ∀ (t : List UInt8) (i : Nat), 1 ≤ i → s.data.toList.drop i = t → ((s.data.toList.drop 1).take (i - 1)).all isDig = true → Ev (fun k => qav_.l0 k s i) (if t.all isDig = true then (if 60 ≤ valI (s.extract 3 s.size) then (0, false) else if bt s 0 = 45 then (-60 * valI (s.extract 1 3) - valI (s.extract 3 s.size), true) else (60 * valI (s.extract 1 3) + valI (s.extract 3 s.size), true)) else (0, false))
 | [], i, h1, h, hp => by
  have hi := qfi_ h
  have ha : (s.data.toList.drop 1).all isDig = true := by
   rwa [List.take_of_length_le (by rw [List.length_drop, qcg_]; omega)] at hp
  obtain ⟨a1, a2, a3, a4⟩ := all_drop1 h5 ha
  obtain ⟨b1, b2⟩ := val_two a3 a1
  obtain ⟨b3, b4⟩ := val_two a4 a2
  refine Ev.step (f := ?_) (fun k => by rw [qav_.l0, if_neg (by omega), if_pos (by omega), if_pos (by omega), Atoi_eq _ (by omega) (by omega) a1, Atoi_eq _ (by omega) (by omega) a2, Option.bind_some, Option.bind_some]) ?_
  change Ev _ (if 60 ≤ valI (s.extract 3 s.size) then (0, false) else if bt s 0 = 45 then (-60 * valI (s.extract 1 3) - valI (s.extract 3 s.size), true) else (60 * valI (s.extract 1 3) + valI (s.extract 3 s.size), true))
  refine qm_ (fun g => ev_eq (Ev.now _) (by rw [if_pos g])) (fun g => ?_)
  rw [if_neg g]
  refine qbi_ (by omega) (qm_ (fun g2 => ev_eq (Ev.now _) ?_) (fun g2 => ev_eq (Ev.now _) ?_))
  ·rw [if_pos g2, qbd_ (x := -60 * valI (s.extract 1 3)) (by omega) (by omega), qbd_ (by omega) (by omega)]
  ·rw [if_neg g2, qbd_ (x := 60 * valI (s.extract 1 3)) (by omega) (by omega), qbd_ (by omega) (by omega)]
 | c :: t, i, h1, h, hp => by
  obtain ⟨hlt, hb, ht⟩ := qfh_ h
  have e1 : wrap64 ((i : Int) + 1) = ((i + 1 : Nat) : Int) := by rw [qbd_ (by omega) (by omega)]; omega
  refine Ev.step (f := ?_) (fun k => by rw [qav_.l0, if_pos (by omega), if_pos (by omega), if_pos (by omega), hb, e1]) ?_
  rw [qgr_]
  refine qm_ (fun g => ev_eq (Ev.now _) ?_) (fun g => ?_)
  ·unfold isDig; rw [decide_eq_false (by omega)]; rfl
  refine qm_ (fun g2 => ev_eq (Ev.now _) ?_) (fun g2 => ?_)
  ·unfold isDig; rw [decide_eq_false (show ¬ c.toNat ≤ 57 by omega)]; simp
  have hc : isDig c = true := by unfold isDig; rw [decide_eq_true (show 48 ≤ c.toNat by omega), decide_eq_true (show c.toNat ≤ 57 by omega)]; rfl
  rw [hc, Bool.true_and]
  refine zone_l0 s h5 t (i + 1) (by omega) ht ?_
  have hl : i - 1 < (s.data.toList.drop 1).length := by rw [List.length_drop, qcg_]; omega
  rw [show i + 1 - 1 = i - 1 + 1 by omega, List.take_succ_eq_append_getElem hl, List.all_append, hp, Bool.true_and]
  have hl2 : i < s.data.toList.length := by rw [qcg_]; exact hlt
  have e3 : (s.data.toList.drop 1)[i - 1] = c := by
   rw [List.getElem_drop]
   rw [List.drop_eq_getElem_cons hl2] at h
   rw [← (List.cons.inj h).1]
   congr 1; omega
  rw [e3]; simp [hc]
theorem refZone_l0 (s : ByteArray) (h5 : s.size = 5) : ∀ (t : List UInt8) (i : Nat), 1 ≤ i → s.data.toList.drop i = t → ((s.data.toList.drop 1).take (i - 1)).all isDig = true → Ev (fun k => qas_.l0 k s i) (if t.all isDig = true then (if 60 ≤ valI (s.extract 3 s.size) then (0, false) else if bt s 0 = 45 then (-60 * valI (s.extract 1 3) - valI (s.extract 3 s.size), true) else (60 * valI (s.extract 1 3) + valI (s.extract 3 s.size), true)) else (0, false))
 | [], i, h1, h, hp => by
  have hi := qfi_ h
  have ha : (s.data.toList.drop 1).all isDig = true := by
   rwa [List.take_of_length_le (by rw [List.length_drop, qcg_]; omega)] at hp
  obtain ⟨a1, a2, a3, a4⟩ := all_drop1 h5 ha
  obtain ⟨b1, b2⟩ := val_two a3 a1
  obtain ⟨b3, b4⟩ := val_two a4 a2
  refine Ev.step (f := ?_) (fun k => by rw [qas_.l0, if_neg (by omega), if_pos (by omega)]) ?_
  change Ev _ (if 60 ≤ valI (s.extract 3 s.size) then (0, false) else if bt s 0 = 45 then (-60 * valI (s.extract 1 3) - valI (s.extract 3 s.size), true) else (60 * valI (s.extract 1 3) + valI (s.extract 3 s.size), true))
  refine Ev.bind (Value_ev _ (by omega) a2) (qm_ (fun g => ev_eq (Ev.now _) (by rw [if_pos g])) (fun g => ?_))
  rw [if_neg g]
  refine qbi_ (by omega) (Ev.bind (Value_ev _ (by omega) a1) (qbi_ (by omega) (qm_ (fun g2 => ev_eq (Ev.now _) ?_) (fun g2 => ev_eq (Ev.now _) ?_))))
  ·rw [if_pos g2, qbd_ (x := 60 * valI (s.extract 1 3)) (by omega) (by omega), qbd_ (x := 60 * valI (s.extract 1 3) + valI (s.extract 3 s.size)) (by omega) (by omega), qbd_ (by omega) (by omega)]
   congr 1; omega
  ·rw [if_neg g2, qbd_ (x := 60 * valI (s.extract 1 3)) (by omega) (by omega), qbd_ (by omega) (by omega)]
 | c :: t, i, h1, h, hp => by
  obtain ⟨hlt, hb, ht⟩ := qfh_ h
  have e1 : wrap64 ((i : Int) + 1) = ((i + 1 : Nat) : Int) := by rw [qbd_ (by omega) (by omega)]; omega
  refine Ev.step (f := ?_) (fun k => by rw [qas_.l0, if_pos (by omega), if_pos (by omega), if_pos (by omega), hb, e1]) ?_
  rw [qgr_]
  refine qm_ (fun g => ev_eq (Ev.now _) ?_) (fun g => ?_)
  ·unfold isDig; rw [decide_eq_false (by omega)]; rfl
  refine qm_ (fun g2 => ev_eq (Ev.now _) ?_) (fun g2 => ?_)
  ·unfold isDig; rw [decide_eq_false (show ¬ c.toNat ≤ 57 by omega)]; simp
  have hc : isDig c = true := by unfold isDig; rw [decide_eq_true (show 48 ≤ c.toNat by omega), decide_eq_true (show c.toNat ≤ 57 by omega)]; rfl
  rw [hc, Bool.true_and]
  refine refZone_l0 s h5 t (i + 1) (by omega) ht ?_
  have hl : i - 1 < (s.data.toList.drop 1).length := by rw [List.length_drop, qcg_]; omega
  rw [show i + 1 - 1 = i - 1 + 1 by omega, List.take_succ_eq_append_getElem hl, List.all_append, hp, Bool.true_and]
  have hl2 : i < s.data.toList.length := by rw [qcg_]; exact hlt
  have e3 : (s.data.toList.drop 1)[i - 1] = c := by
   rw [List.getElem_drop]
   rw [List.drop_eq_getElem_cons hl2] at h
   rw [← (List.cons.inj h).1]
   congr 1; omega
  rw [e3]; simp [hc]
theorem toList_beq (s : ByteArray) (l : List UInt8) : (s.toList == l) = decide (s.data.toList = l) := by
 rw [ByteArray.toList_eq, Bool.eq_iff_iff]; simp
theorem zone_ev (s : ByteArray) : Ev (fun k => qav_.f k s) (zoneB s) := by
 have hT : ¬ (s.size = 5 ∧ (bt s 0 = 43 ∨ bt s 0 = 45) ∧ s.data.toList ≠ [45, 48, 48, 48, 48]) → Ev (fun k => qav_.j0 k s true) (zoneB s) := fun h => by
  unfold zoneB; rw [if_neg (fun e => h ⟨e.1, e.2.1, e.2.2.1⟩)]
  exact Ev.step (f := ?_) (fun k => by rw [qav_.j0, if_pos rfl]) (Ev.now _)
 have hF : s.size = 5 → (bt s 0 = 43 ∨ bt s 0 = 45) → Ev (fun k => qav_.j0 k s (decide (s.data.toList = [45, 48, 48, 48, 48]))) (zoneB s) := fun h1 h2 => by
  by_cases h3 : s.data.toList = [45, 48, 48, 48, 48]
  ·rw [decide_eq_true h3]; exact hT (fun e => e.2.2 h3)
  ·rw [decide_eq_false h3]
   refine Ev.step (f := ?_) (fun k => by rw [qav_.j0, if_neg (by decide)]) ?_
   refine ev_eq (zone_l0 s h1 _ 1 (by omega) rfl (by simp)) ?_
   unfold zoneB
   by_cases h4 : (s.data.toList.drop 1).all isDig = true
   ·rw [if_pos h4]; exact (if_pos ⟨h1, h2, h3, h4⟩).symm
   ·rw [if_neg h4]; exact (if_neg (fun e => h4 e.2.2.2)).symm
 unfold qav_.f
 rw [toList_beq]
 refine qm_ (fun g => qbi_ (by omega) ?_) (fun g => hT (fun e => g (by omega)))
 refine qm_ (fun g2 => hF (by omega) (.inl g2)) (fun g2 => qm_ (fun g3 => hF (by omega) (.inr g3)) (fun g3 => hT (fun e => by rcases e.2.1 with h | h <;> contradiction)))
theorem refZone_ev (s : ByteArray) : Ev (fun k => qas_.f k s) (zoneB s) := by
 have hT : ¬ (s.size = 5 ∧ (bt s 0 = 43 ∨ bt s 0 = 45) ∧ s.data.toList ≠ [45, 48, 48, 48, 48]) → Ev (fun k => qas_.j0 k s true) (zoneB s) := fun h => by
  unfold zoneB; rw [if_neg (fun e => h ⟨e.1, e.2.1, e.2.2.1⟩)]
  exact Ev.step (f := ?_) (fun k => by rw [qas_.j0, if_pos rfl]) (Ev.now _)
 have hF : s.size = 5 → (bt s 0 = 43 ∨ bt s 0 = 45) → Ev (fun k => qas_.j0 k s (decide (s.data.toList = [45, 48, 48, 48, 48]))) (zoneB s) := fun h1 h2 => by
  by_cases h3 : s.data.toList = [45, 48, 48, 48, 48]
  ·rw [decide_eq_true h3]; exact hT (fun e => e.2.2 h3)
  ·rw [decide_eq_false h3]
   refine Ev.step (f := ?_) (fun k => by rw [qas_.j0, if_neg (by decide)]) ?_
   refine ev_eq (refZone_l0 s h1 _ 1 (by omega) rfl (by simp)) ?_
   unfold zoneB
   by_cases h4 : (s.data.toList.drop 1).all isDig = true
   ·rw [if_pos h4]; exact (if_pos ⟨h1, h2, h3, h4⟩).symm
   ·rw [if_neg h4]; exact (if_neg (fun e => h4 e.2.2.2)).symm
 unfold qas_.f
 rw [toList_beq]
 refine qm_ (fun g => qbi_ (by omega) ?_) (fun g => hT (fun e => g (by omega)))
 refine qm_ (fun g2 => hF (by omega) (.inl g2)) (fun g2 => qm_ (fun g3 => hF (by omega) (.inr g3)) (fun g3 => hT (fun e => by rcases e.2.1 with h | h <;> contradiction)))
def qeh_.T5 : Bool × List (List Nat × List Nat) := (true, [([], []), ([0], [0]), ([1], [1]), ([], []), ([3], [3]), ([2, 4], [2, 4]), ([5], [5]), ([], []), ([7], [7]), ([8], [8]), ([6, 9], [6, 9]), ([10], [10]), ([], []), ([11, 12], [11, 12]), ([], []), ([13, 14], [13, 14]), ([15, 9, 0, 1, 2, 3, 4, 5, 6, 7, 8, 9, 10, 11, 12, 13, 14, 15], [15])])
def qeh_.B5 : List Nat := [0, 1, 3, 0, 8, 31, 63, 0, 128, 384, 1023, 2047, 0, 8191, 0, 32767, 65535]
theorem qeh_.tab5 : rtab .any (opsOf Tryz.f33 5) = qeh_.T5 := by kernel_rfl
theorem qeh_.bits5 : qdu_ qeh_.T5.2 qeh_.B5 = true := by kernel_rfl
theorem size_app (a b : ByteArray) : (a ++ b).size = a.size + b.size := ByteArray.size_append
theorem dec_len (n : Nat) : ∀ u : Nat, u < 10 ^ (n + 1) → (Lib.decDigits u).length ≤ n + 1 := by
 induction n with
 | zero => intro u h; rw [Lib.decDigits, dif_pos (by omega)]; simp
 | succ n ih =>
  intro u h
  rw [Lib.decDigits]
  split
  ·simp
  ·rw [List.length_append, List.length_singleton]
   have := ih (u / 10) (by rw [Nat.pow_succ] at h; omega)
   omega
theorem itoa_len (t : Int) (h0 : -9223372036854775808 ≤ t) (h1 : t ≤ 9223372036854775807) : (Lib.itoa t).length ≤ 20 := by
 unfold Lib.itoa
 split
 ·rw [List.length_cons]; have := dec_len 18 t.natAbs (by omega); omega
 ·have := dec_len 18 t.toNat (by omega); omega
theorem Itoa_eq (t : Int) (h0 : -9223372036854775808 ≤ t) (h1 : t ≤ 9223372036854775807) : qda_.f t = some (mk (Lib.itoa t)) := by
 unfold qda_.f
 rw [if_pos h0, if_pos h1]; rfl
theorem pre_take (t u : List UInt8) : t.isPrefixOf u = true ↔ u.take t.length = t := by
 rw [List.isPrefixOf_iff_prefix, List.prefix_iff_eq_take]; exact eq_comm
theorem index_short {u t : List UInt8} (ht : t ≠ []) (h : u.length < t.length) : Lib.index u t = -1 := by
 rcases index_nonneg_iff u t with h1 | h1
 ·obtain ⟨a, b, e, _⟩ := qhu_ t ht u h1
  have := congrArg List.length e
  simp only [List.length_append] at this
  omega
 ·exact h1
def findV (i : Nat) (u t : List UInt8) : Int := if Lib.index u t = -1 then -1 else (i : Int) + Lib.index u t
theorem find_l0 (s t : ByteArray) (hs : s.size ≤ 140737488351232) (ht : 1 ≤ t.size) (ht2 : t.size ≤ 1000) : ∀ (u : List UInt8) (i : Nat), s.data.toList.drop i = u → i ≤ s.size + 10 → Ev (fun k => qg_.l0 k s t i) (findV i u t.data.toList)
 | [], i, h, hi => by
  have := qfi_ h
  refine Ev.step (f := ?_) (fun k => by rw [qg_.l0, qbd_ (x := (i : Int) + (t.size : Int)) (by omega) (by omega), if_neg (by omega)]) (ev_eq (Ev.now _) ?_)
  unfold findV
  rw [if_pos (index_short (fun e => by have := qcg_ t; rw [e] at this; simp at this; omega) (by rw [qcg_]; simp; omega))]
 | c :: u, i, h, hi => by
  obtain ⟨hlt, hb, hu⟩ := qfh_ h
  have htn : t.data.toList ≠ [] := fun e => by have := qcg_ t; rw [e] at this; simp at this; omega
  have e1 : wrap64 ((i : Int) + 1) = ((i + 1 : Nat) : Int) := by rw [qbd_ (by omega) (by omega)]; omega
  have e2 : wrap64 ((i : Int) + (t.size : Int)) = ((i + t.size : Nat) : Int) := by rw [qbd_ (by omega) (by omega)]; omega
  have hlen : (c :: u).length = s.size - i := by rw [← h, List.length_drop, qcg_]
  by_cases hf : i + t.size ≤ s.size
  ·refine Ev.step (f := ?_) (fun k => by rw [qg_.l0, e2, if_pos (by omega), if_pos (by omega), if_pos (by omega), e1, Int.toNat_natCast, Int.toNat_natCast]) ?_
   have hd : (s.extract i (i + t.size)).toList = (c :: u).take t.data.toList.length := by
    rw [ByteArray.toList_eq, qfl_, h, qcg_]; congr 1; omega
   rw [hd, ByteArray.toList_eq]
   refine qm_ (fun g => ev_eq (Ev.now _) ?_) (fun g => ?_)
   ·unfold findV
    rw [qff_ ((pre_take _ _).2 g)]; simp
   ·have hm : t.data.toList.isPrefixOf (c :: u) = false := by
     rw [← Bool.not_eq_true, pre_take]; exact g
    refine ev_eq (find_l0 s t hs ht ht2 u (i + 1) hu (by omega)) ?_
    unfold findV
    rw [qes_ hm]
    by_cases h1 : Lib.index u t.data.toList = -1
    ·rw [if_pos h1, h1]; rfl
    ·have := Lib.index_ge u t.data.toList
     have e : (if (Lib.index u t.data.toList == -1) = true then (-1 : Int) else Lib.index u t.data.toList + 1) = Lib.index u t.data.toList + 1 := if_neg (by simpa using h1)
     rw [e, if_neg h1, if_neg (by omega)]; omega
  ·refine Ev.step (f := ?_) (fun k => by rw [qg_.l0, e2, if_neg (by omega)]) (ev_eq (Ev.now _) ?_)
   unfold findV
   rw [if_pos (index_short htn (by rw [qcg_, hlen]; omega))]
theorem find_ev (s t : ByteArray) (i : Nat) (x : Int) (hx : x = i) (hs : s.size ≤ 140737488351232) (ht : 1 ≤ t.size) (ht2 : t.size ≤ 1000) (hi : i ≤ s.size + 10) : Ev (fun k => qg_.f k s t x) (findV i (s.data.toList.drop i) t.data.toList) := by
 subst hx; exact find_l0 s t hs ht ht2 _ i rfl hi
theorem Cut_eq (s t : ByteArray) (hs : s.size < 4294967281) : qcf_.f s t = some (mk (Lib.cut s.data.toList t.data.toList).1, mk (Lib.cut s.data.toList t.data.toList).2.1, (Lib.cut s.data.toList t.data.toList).2.2) := by
 unfold qcf_.f; rw [if_pos hs]; rfl
theorem cut_len (l s : List UInt8) : (Lib.cut l s).1.length + (Lib.cut l s).2.1.length ≤ l.length := by
 by_cases h : 0 ≤ Lib.index l s
 ·rw [cut_of h]; simp only [List.length_take, List.length_drop]; omega
 ·rw [cut_no h]; simp
theorem qgy_ : ∀ l : List UInt8, Lib.containsAny l [60, 62] = true ↔ (60 ∈ l ∨ 62 ∈ l)
 | [] => by simp [Lib.containsAny, Lib.indexAny]
 | c :: l => by
  have ih := qgy_ l
  unfold Lib.containsAny at ih ⊢
  rw [decide_eq_true_iff] at ih ⊢
  rw [Lib.indexAny]
  by_cases h : ([60, 62] : List UInt8).contains c = true
  ·rw [if_pos h]
   simp at h
   rcases h with rfl | rfl <;> simp
  ·rw [if_neg h]
   have h60 : c ≠ 60 := by rintro rfl; simp at h
   have h62 : c ≠ 62 := by rintro rfl; simp at h
   have hge := Go.Lib.indexAny_ge [60, 62] l
   by_cases h1 : Lib.indexAny l [60, 62] = -1
   ·rw [h1] at ih ⊢
    simp at ih ⊢
    exact ⟨⟨fun e => h60 e.symm, ih.1⟩, fun e => h62 e.symm, ih.2⟩
   ·rw [if_neg (by simpa using h1)]
    have : 0 ≤ Lib.indexAny l [60, 62] := by omega
    have h2 := ih.1 this
    constructor
    ·intro _; rcases h2 with h2 | h2 <;> simp [h2]
    ·intro _; omega
theorem qhi_ (x : UInt8) : ∀ l : List UInt8, Lib.index l [x] = -1 ↔ x ∉ l
 | [] => by rw [Lib.index]; simp
 | c :: l => by
  by_cases h : c = x
  ·subst h
   rw [qff_ (by simp [List.isPrefixOf])]; simp
  ·rw [qes_ (by simp [List.isPrefixOf]; exact fun e => h e.symm)]
   have ih := qhi_ x l
   have hge := Lib.index_ge l [x]
   by_cases h1 : Lib.index l [x] = -1
   ·rw [if_pos (by simpa using h1)]
    simp only [List.mem_cons, not_or, true_iff]
    exact ⟨fun e => h e.symm, ih.1 h1⟩
   ·rw [if_neg (by simpa using h1)]
    constructor
    ·intro h2; omega
    ·intro h2; exact absurd (ih.2 (fun e => h2 (by simp [e]))) h1
def noA (l : List UInt8) : Prop := 60 ∉ l ∧ 62 ∉ l
instance (l : List UInt8) : Decidable (noA l) := by unfold noA; infer_instance
def finW (n m : ByteArray) (t z : Int) : ByteArray × ByteArray × Int × Int × Int := if qfo_ n m t z = true then (n, m, t, z, 0) else (⟨#[]⟩, ⟨#[]⟩, 0, 0, 1)
def c1 (s : ByteArray) : List UInt8 × List UInt8 × Bool := Lib.cut s.data.toList [32, 60]
def c2 (s : ByteArray) : List UInt8 × List UInt8 × Bool := Lib.cut (c1 s).2.1 [62, 32]
def c3 (s : ByteArray) : List UInt8 × List UInt8 × Bool := Lib.cut (c2 s).2.1 [32]
def wOk (s : ByteArray) : Prop := (c1 s).2.2 = true ∧ (c2 s).2.2 = true ∧ (c3 s).2.2 = true ∧ digOk (mk (c3 s).1) = true ∧ (zoneB (mk (c3 s).2.1)).2 = true ∧ noA (c1 s).1 ∧ noA (c2 s).1
instance (s : ByteArray) : Decidable (wOk s) := by unfold wOk; infer_instance
def qbv_ (s : ByteArray) : ByteArray × ByteArray × Int × Int × Int :=
 if wOk s then finW (mk (c1 s).1) (mk (c2 s).1) (valI (mk (c3 s).1)) (zoneB (mk (c3 s).2.1)).1 else (⟨#[]⟩, ⟨#[]⟩, 0, 0, 2)
theorem c_len (s : ByteArray) : (c1 s).1.length + (c1 s).2.1.length ≤ s.size ∧ (c2 s).1.length + (c2 s).2.1.length ≤ (c1 s).2.1.length ∧ (c3 s).1.length + (c3 s).2.1.length ≤ (c2 s).2.1.length := by
 have h1 := cut_len s.data.toList [32, 60]
 have h2 := cut_len (c1 s).2.1 [62, 32]
 have h3 := cut_len (c2 s).2.1 [32]
 rw [qcg_] at h1
 exact ⟨h1, h2, h3⟩
theorem ParseWho_ev (s : ByteArray) (hs : s.size ≤ 4294967000) : Ev (fun k => qao_.f k s) (qbv_ s) := by
 obtain ⟨l1, l2, l3⟩ := c_len s
 have E1 : qcf_.f s ⟨#[32, 60]⟩ = some (mk (c1 s).1, mk (c1 s).2.1, (c1 s).2.2) := Cut_eq _ _ (by omega)
 have E2 : qcf_.f (mk (c1 s).2.1) ⟨#[62, 32]⟩ = some (mk (c2 s).1, mk (c2 s).2.1, (c2 s).2.2) := by
  rw [Cut_eq _ _ (by rw [qco_]; omega), qdv_]; rfl
 have E3 : qcf_.f (mk (c2 s).2.1) ⟨#[32]⟩ = some (mk (c3 s).1, mk (c3 s).2.1, (c3 s).2.2) := by
  rw [Cut_eq _ _ (by rw [qco_]; omega), qdv_]; rfl
 have bad : ¬ wOk s → ∀ (n m : ByteArray) (t z : Int), Ev (fun k => qao_.j0 k n m t z true) (qbv_ s) := fun h n m t z => by
  unfold qbv_; rw [if_neg h]
  exact Ev.step (f := ?_) (fun k => by rw [qao_.j0, if_pos rfl]) (Ev.now _)
 unfold qao_.f
 rw [E1]
 simp only [Option.bind_some]
 rw [E2]
 simp only [Option.bind_some]
 rw [E3]
 simp only [Option.bind_some]
 refine Ev.bind (digits_ev _ (by rw [qco_]; omega)) (Ev.bind (zone_ev _) ?_)
 unfold wOk at bad
 refine qm_ (fun g1 => ?_) (fun g1 => bad (fun e => g1 e.1) _ _ _ _)
 refine qm_ (fun g2 => ?_) (fun g2 => bad (fun e => g2 e.2.1) _ _ _ _)
 refine qm_ (fun g3 => ?_) (fun g3 => bad (fun e => g3 e.2.2.1) _ _ _ _)
 refine qm_ (fun g4 => ?_) (fun g4 => bad (fun e => g4 (by rw [if_pos e.2.2.2.1])) _ _ _ _)
 have g4' : digOk (mk (c3 s).1) = true := by
  by_cases h : digOk (mk (c3 s).1) = true
  ·exact h
  ·rw [if_neg h] at g4; simp at g4
 rw [if_pos g4']
 refine qm_ (fun g5 => ?_) (fun g5 => bad (fun e => g5 e.2.2.2.2.1) _ _ _ _)
 refine qbi_ (by rw [qco_, qco_]; omega) ?_
 have E4 : qdj_.f (mk (c1 s).1 ++ mk (c2 s).1) ⟨#[60, 62]⟩ = some (Lib.containsAny ((c1 s).1 ++ (c2 s).1) [60, 62]) := by
  unfold qdj_.f
  rw [if_pos (by rw [size_app, qco_, qco_]; omega), if_pos (by decide), if_pos (by decide), append_data, qdv_, qdv_]
 rw [E4]
 simp only [Option.bind_some]
 by_cases g6 : Lib.containsAny ((c1 s).1 ++ (c2 s).1) [60, 62] = true
 ·rw [g6]
  refine bad (fun e => ?_) _ _ _ _
  rw [qgy_, List.mem_append, List.mem_append] at g6
  obtain ⟨_, _, _, _, _, ⟨a, b⟩, c, d⟩ := e
  rcases g6 with (h | h) | (h | h) <;> contradiction
 ·have hw : wOk s := by
   rw [qgy_, List.mem_append, List.mem_append] at g6
   simp only [not_or] at g6
   exact ⟨g1, g2, g3, g4', g5, ⟨g6.1.1, g6.2.1⟩, g6.1.2, g6.2.2⟩
  rw [Bool.not_eq_true] at g6
  rw [g6]
  refine Ev.step (f := ?_) (fun k => by rw [qao_.j0, if_neg (by decide)]) ?_
  unfold qbv_ finW
  rw [if_pos hw]
  refine Ev.bind (qgo_ _ _ _ _ (by rw [qco_]; omega) (by rw [qco_]; omega)) (qm_ (fun g => ?_) (fun g => ?_))
  ·rw [if_pos g]; exact Ev.now _
  ·rw [if_neg g]; exact Ev.now _
theorem qhb_ {α : Type} (a b : List α) (i : Nat) (h : a.length = i) : (a ++ b).drop i = b := by subst h; simp
theorem qhd_ {α : Type} (a b : List α) (i : Nat) (h : a.length = i) : (a ++ b).take i = a := by subst h; simp
theorem qeu_ (l : List UInt8) (x : UInt8) : findV 0 l [x] ≥ 0 ↔ x ∈ l := by
 unfold findV
 have hge := Lib.index_ge l [x]
 by_cases h : Lib.index l [x] = -1
 ·rw [if_pos h]
  have := (qhi_ x l).1 h
  constructor
  ·intro h2; omega
  ·intro h2; exact absurd h2 this
 ·rw [if_neg h]
  have : x ∈ l := by
   refine Classical.byContradiction fun h2 => h ((qhi_ x l).2 h2)
  constructor
  ·intro _; exact this
  ·intro _; simp; omega
theorem qgc_ (n : List UInt8) (x : UInt8) (hn : n.length ≤ 140737488351232) : Ev (fun k => qg_.f k (mk n) ⟨#[x]⟩ 0) (findV 0 n [x]) := by
 have := find_ev (mk n) ⟨#[x]⟩ 0 0 rfl (by rw [qco_]; exact hn) (Nat.le_refl 1) (show 1 ≤ 1000 by omega) (by omega)
 rw [List.drop_zero, qdv_] at this
 exact this
theorem app2 (P Q R : List UInt8) (a b c d : UInt8) : P ++ [a, b] ++ (Q ++ [c, d] ++ R) = (P ++ [a, b] ++ Q ++ [c, d]) ++ R := by simp only [List.append_assoc]
theorem one_lo : 1 ≤ (⟨#[(32 : UInt8)]⟩ : ByteArray).size := Nat.le_refl 1
theorem one_hi : (⟨#[(32 : UInt8)]⟩ : ByteArray).size ≤ 1000 := show 1 ≤ 1000 by omega
theorem w_two (n : Nat) (h : n ≤ 5000000000) : wrap64 ((n : Int) + 2) = ((n + 2 : Nat) : Int) := by rw [qbd_ (by omega) (by omega)]; omega
theorem w_one (n : Nat) (h : n ≤ 5000000000) : wrap64 ((n : Int) + 1) = ((n + 1 : Nat) : Int) := by rw [qbd_ (by omega) (by omega)]; omega
theorem refParseWho_ev (s : ByteArray) (hs : s.size ≤ 4294967000) : Ev (fun k => qi_.f k s) (qbv_ s) := by
 obtain ⟨l1, l2, l3⟩ := c_len s
 have hs' : s.size ≤ 140737488351232 := by omega
 have no : ¬ wOk s → Ev (fun _ => some ((⟨#[]⟩ : ByteArray), (⟨#[]⟩ : ByteArray), (0 : Int), (0 : Int), (2 : Int))) (qbv_ s) := fun h => by
  unfold qbv_; rw [if_neg h]; exact Ev.now _
 refine Ev.bind (find_ev s ⟨#[32, 60]⟩ 0 0 rfl (by omega) (by decide) (by decide) (by omega)) ?_
 rw [List.drop_zero]
 cases h1 : (c1 s).2.2 with
 | false =>
  have hi : Lib.index s.data.toList [32, 60] = -1 := (qhh_ (l := s.data.toList) (s := [32, 60]) (a := (c1 s).1) (b := (c1 s).2.1) (by rw [← h1]; rfl)).2.2
  have : findV 0 s.data.toList [32, 60] = -1 := by unfold findV; rw [if_pos hi]
  change Ev (fun k => if findV 0 s.data.toList [32, 60] < 0 then _ else _) _
  exact qbi_ (by omega) (no (fun e => by have := e.1; rw [h1] at this; simp at this))
 | true =>
 obtain ⟨t1, i1⟩ := qfr_ (l := s.data.toList) (s := [32, 60]) (a := (c1 s).1) (b := (c1 s).2.1) (by decide) (by rw [← h1]; rfl)
 generalize hP : (c1 s).1 = P at *
 generalize hR1 : (c1 s).2.1 = R1 at *
 have f1 : findV 0 s.data.toList [32, 60] = (P.length : Int) := by unfold findV; rw [i1, if_neg (by omega)]; simp
 change Ev (fun k => if findV 0 s.data.toList [32, 60] < 0 then _ else _) _
 rw [f1]
 clear f1 i1
 refine ev_no (by omega) ?_
 have d1 : s.data.toList.drop P.length = 32 :: 60 :: R1 := by rw [t1, List.append_assoc, qhb_ _ _ _ rfl]; rfl
 have hsz := congrArg List.length t1
 rw [qcg_] at hsz
 simp only [List.length_append, List.length_cons, List.length_nil] at hsz
 refine Ev.bind (find_ev s ⟨#[62, 32]⟩ P.length _ rfl (by omega) (by decide) (by decide) (by omega)) ?_
 rw [d1]
 have hx2 : Lib.index (32 :: 60 :: R1) [62, 32] = if Lib.index R1 [62, 32] = -1 then -1 else Lib.index R1 [62, 32] + 2 := by
  have q0 : Lib.index (32 :: 60 :: R1) [62, 32] = if Lib.index (60 :: R1) [62, 32] == -1 then -1 else Lib.index (60 :: R1) [62, 32] + 1 := qes_ rfl
  have q1 : Lib.index (60 :: R1) [62, 32] = if Lib.index R1 [62, 32] == -1 then -1 else Lib.index R1 [62, 32] + 1 := qes_ rfl
  have hge := Lib.index_ge R1 [62, 32]
  by_cases h : Lib.index R1 [62, 32] = -1
  ·rw [if_pos (by rw [h]; rfl)] at q1
   rw [if_pos (by rw [q1]; rfl)] at q0
   rw [q0, if_pos h]
  ·rw [if_neg (by simpa using h)] at q1
   rw [if_neg (by rw [q1, beq_iff_eq]; omega)] at q0
   rw [q0, q1, if_neg h]; omega
 have e2' : c2 s = Lib.cut R1 [62, 32] := by unfold c2; rw [hR1]
 cases h2 : (c2 s).2.2 with
 | false =>
  have hi : Lib.index R1 [62, 32] = -1 := (qhh_ (l := R1) (s := [62, 32]) (a := (c2 s).1) (b := (c2 s).2.1) (by rw [← h2, ← e2'])).2.2
  have : findV P.length (32 :: 60 :: R1) [62, 32] = -1 := by unfold findV; rw [hx2, if_pos hi, if_pos rfl]
  change Ev (fun k => if findV P.length (32 :: 60 :: R1) [62, 32] < 0 then _ else _) _
  exact qbi_ (by omega) (no (fun e => by have := e.2.1; rw [h2] at this; simp at this))
 | true =>
 obtain ⟨t2, i2⟩ := qfr_ (l := R1) (s := [62, 32]) (a := (c2 s).1) (b := (c2 s).2.1) (by decide) (by rw [← h2, ← e2'])
 generalize hQ : (c2 s).1 = Q at *
 generalize hR2 : (c2 s).2.1 = R2 at *
 have f2 : findV P.length (32 :: 60 :: R1) [62, 32] = ((P.length + 2 + Q.length : Nat) : Int) := by
  unfold findV; rw [hx2, i2, if_neg (by omega), if_neg (by omega)]; omega
 change Ev (fun k => if findV P.length (32 :: 60 :: R1) [62, 32] < 0 then _ else _) _
 rw [f2]
 clear f2 hx2 i2
 refine ev_no (by omega) ?_
 have hsz2 := congrArg List.length t2
 simp only [List.length_append, List.length_cons, List.length_nil] at hsz2
 have hi4 : P.length + 2 + Q.length + 2 ≤ s.size + 10 := by omega
 have hi5 : P.length + 2 + Q.length ≤ 5000000000 := by omega
 have d2 : s.data.toList.drop (P.length + 2 + Q.length + 2) = R2 := by
  rw [t1, t2, app2]
  refine qhb_ _ _ _ ?_
  simp only [List.length_append, List.length_cons, List.length_nil]
 refine Ev.bind (find_ev s ⟨#[32]⟩ (P.length + 2 + Q.length + 2) _ (w_two _ hi5) hs' one_lo one_hi hi4) ?_
 rw [d2]
 have e3' : c3 s = Lib.cut R2 [32] := by unfold c3; rw [hR2]
 cases h3 : (c3 s).2.2 with
 | false =>
  have hi : Lib.index R2 [32] = -1 := (qhh_ (l := R2) (s := [32]) (a := (c3 s).1) (b := (c3 s).2.1) (by rw [← h3, ← e3'])).2.2
  have : findV (P.length + 2 + Q.length + 2) R2 [32] = -1 := by unfold findV; rw [if_pos hi]
  change Ev (fun k => if findV (P.length + 2 + Q.length + 2) R2 [32] < 0 then _ else _) _
  exact qbi_ (by omega) (no (fun e => by have := e.2.2.1; rw [h3] at this; simp at this))
 | true =>
 obtain ⟨t3, i3⟩ := qfr_ (l := R2) (s := [32]) (a := (c3 s).1) (b := (c3 s).2.1) (by decide) (by rw [← h3, ← e3'])
 generalize hT : (c3 s).1 = U at *
 generalize hZ : (c3 s).2.1 = Z at *
 have f3 : findV (P.length + 2 + Q.length + 2) R2 [32] = ((P.length + 2 + Q.length + 2 + U.length : Nat) : Int) := by
  unfold findV; rw [i3, if_neg (by omega)]; omega
 change Ev (fun k => if findV (P.length + 2 + Q.length + 2) R2 [32] < 0 then _ else _) _
 rw [f3]
 clear f3 i3
 refine ev_no (by omega) ?_
 have hsz3 := congrArg List.length t3
 simp only [List.length_append, List.length_cons, List.length_nil] at hsz3
 have hi6 : P.length ≤ 5000000000 := by omega
 have hi7 : P.length + 2 + Q.length + 2 + U.length ≤ 5000000000 := by omega
 have x1 : s.extract 0 P.length = mk P := by
  rw [ext_mk]; congr 1; rw [List.drop_zero, t1, List.append_assoc, Nat.sub_zero, qhd_ _ _ _ rfl]
 have x2 : s.extract (P.length + 2) (P.length + 2 + Q.length) = mk Q := by
  rw [ext_mk]; congr 1
  rw [t1, t2, qhb_ _ _ _ (by simp), List.append_assoc, qhd_ _ _ _ (by omega)]
 have x3 : s.extract (P.length + 2 + Q.length + 2) (P.length + 2 + Q.length + 2 + U.length) = mk U := by
  rw [ext_mk]; congr 1
  rw [d2, t3, List.append_assoc, qhd_ _ _ _ (by omega)]
 have x4 : s.extract (P.length + 2 + Q.length + 2 + U.length + 1) s.size = mk Z := by
  rw [ext_mk]; congr 1
  rw [show P.length + 2 + Q.length + 2 + U.length + 1 = (P.length + 2 + Q.length + 2) + (U.length + 1) by omega, ← List.drop_drop, d2, t3, qhb_ _ _ _ (by simp), List.take_of_length_le (by omega)]
 simp only [w_two _ hi6, w_one _ hi7, w_two _ hi5, Int.toNat_natCast, x1, x2, x3, x4]
 have bad : ¬ wOk s → Ev (fun k => qi_.j0 k s ((P.length + 2 + Q.length : Nat) : Int) ((P.length + 2 + Q.length + 2 + U.length : Nat) : Int) (zoneB (mk Z)).1 true (mk P) (mk Q) 0 0) (qbv_ s) := fun h =>
  Ev.step (f := ?_) (fun k => by rw [qi_.j0, if_pos rfl]) (no h)
 have hOk : wOk s ↔ digOk (mk U) = true ∧ (zoneB (mk Z)).2 = true ∧ noA P ∧ noA Q := by
  unfold wOk
  rw [h1, h2, h3, hT, hZ, hP, hQ]
  simp
 refine qbi_ (by omega) (qbi_ (by omega) (qbi_ (by omega) (qbi_ (by omega) (qbi_ (by omega) (qbi_ (by omega) (qbi_ (by omega) ?_))))))
 refine Ev.bind (refZone_ev _) (qm_ (fun g1 => ?_) (fun g1 => bad (fun e => g1 (hOk.1 e).2.1)))
 refine qbi_ (by omega) (qbi_ (by omega) (qbi_ (by omega) ?_))
 refine Ev.bind (Digits_ev _ (by rw [qco_]; omega)) (qm_ (fun g2 => ?_) (fun g2 => bad (fun e => g2 (hOk.1 e).1)))
 refine Ev.bind (qgc_ P 60 (by omega)) (qm_ (fun g3 => bad (fun e => (hOk.1 e).2.2.1.1 ((qeu_ _ _).1 g3))) (fun g3 => ?_))
 refine Ev.bind (qgc_ P 62 (by omega)) (qm_ (fun g4 => bad (fun e => (hOk.1 e).2.2.1.2 ((qeu_ _ _).1 g4))) (fun g4 => ?_))
 refine Ev.bind (qgc_ Q 60 (by omega)) (qm_ (fun g5 => bad (fun e => (hOk.1 e).2.2.2.1 ((qeu_ _ _).1 g5))) (fun g5 => ?_))
 refine Ev.bind (qgc_ Q 62 (by omega)) ?_
 by_cases g6 : findV 0 Q [62] ≥ 0
 ·rw [decide_eq_true g6]
  exact bad (fun e => (hOk.1 e).2.2.2.2 ((qeu_ _ _).1 g6))
 ·rw [decide_eq_false g6]
  have hw : wOk s := hOk.2 ⟨g2, g1, ⟨fun h => g3 ((qeu_ _ _).2 h), fun h => g4 ((qeu_ _ _).2 h)⟩, fun h => g5 ((qeu_ _ _).2 h), fun h => g6 ((qeu_ _ _).2 h)⟩
  refine Ev.step (f := ?_) (fun k => by rw [qi_.j0, if_neg (by decide), w_two _ hi5, Int.toNat_natCast, Int.toNat_natCast, x3, if_pos (by omega), if_pos (by omega), if_pos (by omega)]) ?_
  have hd := g2
  unfold digOk at hd
  rw [Bool.and_eq_true, Bool.not_eq_true'] at hd
  have h18 : (mk U).size ≤ 18 := by
   have := hd.1
   unfold offD at this
   simp only [Bool.or_eq_false_iff, decide_eq_false_iff_not] at this
   omega
  refine Ev.bind (Value_ev _ h18 hd.2) (Ev.bind (qhl_ _ _ _ _ (by rw [qco_]; omega) (by rw [qco_]; omega)) ?_)
  unfold qbv_ finW
  rw [if_pos hw, hP, hQ, hT, hZ]
  refine qm_ (fun g => ?_) (fun g => ?_)
  ·rw [if_pos g]; exact Ev.now _
  ·rw [if_neg g]; exact Ev.now _
end
section
theorem qej_ (n : Nat) (h : n ≤ 140737488351232) : wrap64 ((n : Int) + 1) = ((n + 1 : Nat) : Int) := by rw [qbd_ (by omega) (by omega)]; omega
def zeroB (s : ByteArray) : Bool := s.data.toList.any fun c => decide (c.toNat = 0)
theorem zero_l0 (s : ByteArray) (hs : s.size ≤ 140737488351232) : ∀ (t : List UInt8) (i : Nat), s.data.toList.drop i = t → Ev (fun k => qbx_.l0 k s i) (t.any fun c => decide (c.toNat = 0))
 | [], i, h => by
  have := qfi_ h
  exact Ev.step (f := ?_) (fun k => by rw [qbx_.l0, if_neg (by omega)]) (Ev.now _)
 | c :: t, i, h => by
  obtain ⟨hlt, hb, ht⟩ := qfh_ h
  refine Ev.step (f := ?_) (fun k => by rw [qbx_.l0, if_pos (by omega), if_pos (by omega), hb, qej_ i (by omega)]) ?_
  refine qm_ (fun g => ev_eq (Ev.now _) ?_) (fun g => ev_eq (zero_l0 s hs t (i + 1) ht) ?_)
  ·rw [List.any_cons, decide_eq_true (by omega : c.toNat = 0), Bool.true_or]
  ·rw [List.any_cons, decide_eq_false (by omega : ¬ c.toNat = 0), Bool.false_or]
theorem zero_ev (s : ByteArray) (hs : s.size ≤ 140737488351232) : Ev (fun k => qbx_.f k s) (zeroB s) := zero_l0 s hs _ 0 rfl
theorem zeroB_iff (s : ByteArray) : zeroB s = true ↔ (0 : UInt8) ∈ s.data.toList := by
 unfold zeroB
 rw [List.any_eq_true]
 constructor
 ·rintro ⟨c, hc, h⟩
  rw [decide_eq_true_eq] at h
  rwa [← show c = 0 from UInt8.toNat_inj.1 h]
 ·intro h; exact ⟨0, h, rfl⟩
theorem qic_ (s : ByteArray) (hs : s.size < 4294967281) : qcu_.f s ⟨#[0]⟩ = some (zeroB s) := by
 unfold qcu_.f
 rw [if_pos hs]
 congr 1
 have h1 := qhi_ 0 s.data.toList
 have hge := Lib.index_ge s.data.toList [0]
 rw [Bool.eq_iff_iff, zeroB_iff]
 unfold Lib.contains
 rw [decide_eq_true_eq]
 show 0 ≤ Lib.index s.data.toList [0] ↔ _
 constructor
 ·intro h
  refine Classical.byContradiction fun h2 => ?_
  have := h1.2 h2
  omega
 ·intro h
  refine Classical.byContradiction fun h2 => ?_
  exact h1.1 (by omega) h
def above (c : UInt8) : Bool := decide (32 < c.toNat)
def qgk_ (s : ByteArray) : Bool := s.data.toList.all above && (decide (1 ≤ s.size) && decide (s.size ≤ 64))
theorem qhk_ (c : UInt8) (t : List UInt8) : (c :: t).all above = (above c && t.all above) := rfl
theorem tagged_l0 (s : ByteArray) (hs : s.size ≤ 140737488351232) : ∀ (t : List UInt8) (i : Nat), s.data.toList.drop i = t → Ev (fun k => qbn_.l0 k s (s.size : Int) i) (t.all above && (decide (1 ≤ s.size) && decide (s.size ≤ 64)))
 | [], i, h => by
  have := qfi_ h
  refine Ev.step (f := ?_) (fun k => by rw [qbn_.l0, if_neg (by omega)]) (qm_ (fun g => ev_eq (Ev.now _) ?_) (fun g => ev_eq (Ev.now _) ?_))
  ·rw [List.all_nil, Bool.true_and, decide_eq_true (by omega : 1 ≤ s.size), Bool.true_and]
   exact decide_eq_decide.2 (by omega)
  ·rw [decide_eq_false (by omega : ¬ 1 ≤ s.size)]; simp
 | c :: t, i, h => by
  obtain ⟨hlt, hb, ht⟩ := qfh_ h
  refine Ev.step (f := ?_) (fun k => by rw [qbn_.l0, if_pos (by omega), if_pos (by omega), if_pos (by omega), hb, qej_ i (by omega)]) ?_
  refine qm_ (fun g => ev_eq (Ev.now _) ?_) (fun g => ev_eq (tagged_l0 s hs t (i + 1) ht) ?_)
  ·rw [qhk_, show above c = false from decide_eq_false (by omega)]; rfl
  ·rw [qhk_, show above c = true from decide_eq_true (by omega), Bool.true_and]
theorem tagged_ev (s : ByteArray) (hs : s.size ≤ 140737488351232) : Ev (fun k => qbn_.f k s) (qgk_ s) := tagged_l0 s hs _ 0 rfl
def wordB (a : Int) : ByteArray := if a = 1 then ⟨#[98, 108, 111, 98]⟩ else if a = 2 then ⟨#[116, 114, 101, 101]⟩ else if a = 3 then ⟨#[99, 111, 109, 109, 105, 116]⟩ else if a = 4 then ⟨#[116, 97, 103]⟩ else ⟨#[]⟩
theorem wordF_eq (a : Int) : wordF a 4 0 = wordB a := by
 unfold wordB
 simp only [wordF, kindW]
 by_cases h1 : a = 1
 ·subst h1; rfl
 ·rw [if_neg (by omega), if_neg h1]
  by_cases h2 : a = 2
  ·subst h2; rfl
  ·rw [if_neg (by omega), if_neg h2]
   by_cases h3 : a = 3
   ·subst h3; rfl
   ·rw [if_neg (by omega), if_neg h3]
    by_cases h4 : a = 4
    ·subst h4; rfl
    ·rw [if_neg (by omega), if_neg h4]
theorem Word_eq (a : Int) : qdn_.f a = some (wordB a) := by unfold qdn_.f; rw [wordF_eq]
theorem qgu_ (a : Int) : qcm_.f a = some (wordB a) := by
 unfold qcm_.f wordB
 repeat' split
 all_goals rfl
theorem word_none (a : Int) : (wordB a).toList = ([] : List UInt8) ↔ ¬ (1 ≤ a ∧ a ≤ 4) := by
 unfold wordB
 by_cases h1 : a = 1
 ·rw [if_pos h1, ByteArray.toList_eq]; simp; omega
 rw [if_neg h1]
 by_cases h2 : a = 2
 ·rw [if_pos h2, ByteArray.toList_eq]; simp; omega
 rw [if_neg h2]
 by_cases h3 : a = 3
 ·rw [if_pos h3, ByteArray.toList_eq]; simp; omega
 rw [if_neg h3]
 by_cases h4 : a = 4
 ·rw [if_pos h4, ByteArray.toList_eq]; simp; omega
 rw [if_neg h4, ByteArray.toList_eq]; simp; omega
def tagOk (o : ByteArray) (a : Int) (g n m : ByteArray) (t z : Int) (x : ByteArray) : Prop := idOk o = true ∧ (1 ≤ a ∧ a ≤ 4) ∧ qgk_ g = true ∧ qfo_ n m t z = true ∧ zeroB x = false
instance (o : ByteArray) (a : Int) (g n m : ByteArray) (t z : Int) (x : ByteArray) : Decidable (tagOk o a g n m t z x) := by unfold tagOk; infer_instance
def qev_ (o : ByteArray) (a : Int) (g n m : ByteArray) (t z : Int) (x : ByteArray) : Int := if tagOk o a g n m t z x then (if x.size > 4096 then 4 else 0) else 1
theorem CheckTag_ev (o : ByteArray) (a : Int) (g n m : ByteArray) (t z : Int) (x : ByteArray) (hg : g.size ≤ 140737488351232) (hn : n.size ≤ 140737488351232) (hm : m.size ≤ 140737488351232) (hx : x.size < 4294967281) : Ev (fun k => qar_.f k o a g n m t z x) (qev_ o a g n m t z x) := by
 have bad : ¬ tagOk o a g n m t z x → Ev (fun k => qar_.j0 k true o a g n m t z x) (qev_ o a g n m t z x) := fun h => by
  unfold qev_; rw [if_neg h]
  exact Ev.step (f := ?_) (fun k => by rw [qar_.j0, if_pos rfl]) (Ev.now _)
 refine Ev.bind (qgn_ o) (qm_ (fun g1 => ?_) (fun g1 => bad (fun e => g1 e.1)))
 rw [Word_eq]
 simp only [Option.bind_some]
 refine qm_ (fun g2 => bad (fun e => (word_none a).1 g2 e.2.1)) (fun g2 => ?_)
 refine Ev.bind (tagged_ev g hg) (qm_ (fun g3 => ?_) (fun g3 => bad (fun e => g3 e.2.2.1)))
 refine Ev.bind (qgo_ n m t z hn hm) (qm_ (fun g4 => ?_) (fun g4 => bad (fun e => g4 e.2.2.2.1)))
 rw [qic_ x hx]
 simp only [Option.bind_some]
 cases g5 : zeroB x with
 | true => exact bad (fun e => by have := e.2.2.2.2; rw [g5] at this; cases this)
 | false =>
  have ok : tagOk o a g n m t z x := ⟨g1, Classical.byContradiction (fun h => g2 ((word_none a).2 h)), g3, g4, g5⟩
  unfold qev_
  rw [if_pos ok]
  refine Ev.step (f := ?_) (fun k => by rw [qar_.j0, if_neg (by decide)]) (qm_ (fun h => ?_) (fun h => ?_))
  ·rw [if_pos (by omega)]; exact Ev.now _
  ·rw [if_neg (by omega)]; exact Ev.now _
theorem qhs_ (o : ByteArray) (a : Int) (g n m : ByteArray) (t z : Int) (x : ByteArray) (hg : g.size ≤ 140737488351232) : ∀ (d i : Nat), i + d = g.size → Ev (fun k => qu_.l0 k true i o a g n m t z x) 1
 | 0, i, h => Ev.step (f := ?_) (fun k => by rw [qu_.l0, if_neg (by omega), if_pos rfl]) (Ev.now _)
 | d + 1, i, h => Ev.step (f := ?_) (fun k => by rw [qu_.l0, if_pos (by omega), if_pos rfl, qej_ i (by omega)]) (qhs_ o a g n m t z x hg d (i + 1) (by omega))
theorem refTag_good (o : ByteArray) (a : Int) (g n m : ByteArray) (t z : Int) (x : ByteArray) (hg : g.size ≤ 140737488351232) : ∀ (u : List UInt8) (i : Nat), g.data.toList.drop i = u → i ≤ g.size → Ev (fun k => qu_.l0 k false i o a g n m t z x) (if u.all above = true then (if x.size > 4096 then 4 else 0) else 1)
 | [], i, h, hi => by
  have := qfi_ h
  refine Ev.step (f := ?_) (fun k => by rw [qu_.l0, if_neg (by omega), if_neg (by decide)]) (qm_ (fun g1 => ?_) (fun g1 => ?_))
  ·rw [if_pos List.all_nil, if_pos (by omega)]; exact Ev.now _
  ·rw [if_pos List.all_nil, if_neg (by omega)]; exact Ev.now _
 | c :: u, i, h, hi => by
  obtain ⟨hlt, hb, hu⟩ := qfh_ h
  by_cases hc : above c = true
  ·have hc2 : 32 < c.toNat := by unfold above at hc; simpa using hc
   refine Ev.step (f := ?_) (fun k => by rw [qu_.l0, if_pos (by omega), if_neg (by decide), if_pos (by omega), hb, qej_ i (by omega), decide_eq_false (by omega : ¬ ((c.toNat : Int) ≤ 32))]) ?_
   rw [qhk_, hc, Bool.true_and]
   exact refTag_good o a g n m t z x hg u (i + 1) hu (by omega)
  ·have hc2 : c.toNat ≤ 32 := by unfold above at hc; simpa using hc
   refine Ev.step (f := ?_) (fun k => by rw [qu_.l0, if_pos (by omega), if_neg (by decide), if_pos (by omega), hb, qej_ i (by omega), decide_eq_true (by omega : (c.toNat : Int) ≤ 32)]) ?_
   rw [qhk_, Bool.not_eq_true _ |>.mp hc, Bool.false_and, if_neg (by decide)]
   exact qhs_ o a g n m t z x hg (g.size - (i + 1)) (i + 1) (by omega)
theorem refCheckTag_ev (o : ByteArray) (a : Int) (g n m : ByteArray) (t z : Int) (x : ByteArray) (hg : g.size ≤ 140737488351232) (hn : n.size ≤ 140737488351232) (hm : m.size ≤ 140737488351232) (hx : x.size < 4294967281) : Ev (fun k => qu_.f k o a g n m t z x) (qev_ o a g n m t z x) := by
 have bad : ¬ tagOk o a g n m t z x → Ev (fun k => qu_.j0 k true o a g n m t z x) (qev_ o a g n m t z x) := fun h => by
  unfold qev_; rw [if_neg h]
  exact Ev.step (f := ?_) (fun k => by rw [qu_.j0]) (qhs_ o a g n m t z x hg g.size 0 (by omega))
 have tg : qgk_ g = true → 1 ≤ g.size ∧ g.size ≤ 64 := fun h => by
  unfold qgk_ at h; simp only [Bool.and_eq_true, decide_eq_true_eq] at h; exact h.2
 refine Ev.bind (qfe_ o) (qm_ (fun g1 => ?_) (fun g1 => bad (fun e => g1 e.1)))
 refine qm_ (fun g2 => bad (fun e => by have := e.2.1; omega)) (fun g2 => ?_)
 refine qm_ (fun g3 => bad (fun e => by have := e.2.1; omega)) (fun g3 => ?_)
 refine qm_ (fun g4 => bad (fun e => by have := tg e.2.2.1; omega)) (fun g4 => ?_)
 refine qm_ (fun g5 => bad (fun e => by have := tg e.2.2.1; omega)) (fun g5 => ?_)
 refine Ev.bind (qhl_ n m t z hn hm) (qm_ (fun g6 => ?_) (fun g6 => bad (fun e => g6 e.2.2.2.1)))
 refine Ev.bind (zero_ev x (by omega)) ?_
 cases g7 : zeroB x with
 | true => exact bad (fun e => by have := e.2.2.2.2; rw [g7] at this; cases this)
 | false =>
  refine Ev.step (f := ?_) (fun k => by rw [qu_.j0]) (ev_eq (refTag_good o a g n m t z x hg _ 0 rfl (by omega)) ?_)
  unfold qev_
  by_cases h : g.data.toList.drop 0 |>.all above
  ·have ht : qgk_ g = true := by
    unfold qgk_
    rw [List.drop_zero] at h
    rw [h, decide_eq_true (by omega : 1 ≤ g.size), decide_eq_true (by omega : g.size ≤ 64)]; rfl
   have ok : tagOk o a g n m t z x := ⟨g1, ⟨by omega, by omega⟩, ht, g6, g7⟩
   rw [if_pos h, if_pos ok]
  ·have no : ¬ tagOk o a g n m t z x := fun e => by
    have := e.2.2.1
    unfold qgk_ at this
    rw [Bool.and_eq_true] at this
    exact h this.1
   rw [if_neg h, if_neg no]
end
section
def lineF (u p : List UInt8) : List UInt8 × List UInt8 × Bool := if (Lib.cut u [10]).2.2 = true ∧ (Lib.cut u [10]).1.take p.length = p then ((Lib.cut u [10]).1.drop p.length, (Lib.cut u [10]).2.1, true) else ([], u, false)
theorem qef_ (u p : List UInt8) : (lineF u p).1.length ≤ u.length ∧ (lineF u p).2.1.length ≤ u.length := by
 have h := cut_len u [10]
 unfold lineF
 split
 ·show (List.drop p.length (Lib.cut u [10]).1).length ≤ u.length ∧ (Lib.cut u [10]).2.1.length ≤ u.length
  rw [List.length_drop]; constructor <;> omega
 ·simp
theorem qgf_ (s : ByteArray) (e : Int) : qbt_.f s e 2 = some (s, 2) := by
 unfold qbt_.f
 by_cases h : e = 0
 ·rw [if_pos h]
 ·rw [if_neg h, if_pos rfl]
theorem qgz_ (s p : ByteArray) : qck_.f s p = some (if s.data.toList.take p.size = p.data.toList then (mk (s.data.toList.drop p.size), true) else (s, false)) := by
 have hx : (s.extract 0 p.size).toList = s.data.toList.take p.size := by rw [ByteArray.toList_eq, qfl_]; simp
 have hy : s.extract p.size s.size = mk (s.data.toList.drop p.size) := by
  rw [ext_mk, List.take_of_length_le]
  rw [List.length_drop, qcg_]; omega
 unfold qck_.f qde_.f qcc_.f
 by_cases h : (s.size : Int) ≥ (p.size : Int)
 ·rw [if_pos h, if_pos (by omega), if_pos (by omega), hx, ByteArray.toList_eq p]
  simp only [Option.bind_some]
  by_cases g : s.data.toList.take p.size = p.data.toList
  ·rw [if_pos g, if_pos (by rw [g]; simp), if_pos (by omega), if_pos (by omega), hy]; rfl
  ·rw [if_neg g, if_neg (by simpa using g)]; rfl
 ·rw [if_neg h]
  simp only [Option.bind_some]
  rw [if_neg (by decide), if_neg (fun e => ?_)]
  ·rfl
  ·have := congrArg List.length e
   rw [List.length_take, qcg_, qcg_] at this
   omega
theorem qgh_ (s : ByteArray) (e : Int) (p : ByteArray) (hs : s.size < 4294967281) : qbh_.f s e p = some (mk (lineF s.data.toList p.data.toList).1, mk (lineF s.data.toList p.data.toList).2.1, if (lineF s.data.toList p.data.toList).2.2 = true then e else 2) := by
 unfold qbh_.f
 rw [Cut_eq s ⟨#[10]⟩ hs]
 simp only [Option.bind_some]
 rw [qgz_, qdv_]
 simp only [Option.bind_some]
 rw [qgf_]
 simp only [Option.bind_some]
 generalize hl : lineF s.data.toList p.data.toList = L
 unfold lineF at hl
 rw [qcg_] at hl
 show (if (Lib.cut s.data.toList [10]).2.2 = true then (if (if (Lib.cut s.data.toList [10]).1.take p.size = p.data.toList then (mk ((Lib.cut s.data.toList [10]).1.drop p.size), true) else (mk (Lib.cut s.data.toList [10]).1, false)).2 = true then some ((if (Lib.cut s.data.toList [10]).1.take p.size = p.data.toList then (mk ((Lib.cut s.data.toList [10]).1.drop p.size), true) else (mk (Lib.cut s.data.toList [10]).1, false)).1, mk (Lib.cut s.data.toList [10]).2.1, e) else some ((⟨#[]⟩ : ByteArray), s, 2)) else some ((⟨#[]⟩ : ByteArray), s, 2)) = _
 by_cases g1 : (Lib.cut s.data.toList [10]).2.2 = true
 ·by_cases g2 : (Lib.cut s.data.toList [10]).1.take p.size = p.data.toList
  ·rw [if_pos ⟨g1, g2⟩] at hl
   subst hl
   rw [if_pos g1, if_pos g2, if_pos rfl, if_pos rfl]
  ·rw [if_neg (fun h => g2 h.2)] at hl
   subst hl
   rw [if_pos g1, if_neg g2, if_neg Bool.false_ne_true, if_neg Bool.false_ne_true, mk_of]; rfl
 ·rw [if_neg (fun h => g1 h.1)] at hl
  subst hl
  rw [if_neg g1, if_neg Bool.false_ne_true, mk_of]; rfl
def lineR (s : ByteArray) (i : Nat) (p : List UInt8) : ByteArray × Int × Bool :=
 (mk (lineF (s.data.toList.drop i) p).1, ((s.size - (lineF (s.data.toList.drop i) p).2.1.length : Nat) : Int), (lineF (s.data.toList.drop i) p).2.2)
theorem rest_at {s : ByteArray} {i : Nat} {p : List UInt8} (hi : i ≤ s.size) : s.data.toList.drop (s.size - (lineF (s.data.toList.drop i) p).2.1.length) = (lineF (s.data.toList.drop i) p).2.1 := by
 have key : ∀ (u : List UInt8), (∃ a, s.data.toList = a ++ u) → s.data.toList.drop (s.size - u.length) = u := fun u ⟨a, e⟩ => by
  have := congrArg List.length e
  rw [qcg_, List.length_append] at this
  rw [e]
  exact qhb_ _ _ _ (by omega)
 refine key _ ?_
 unfold lineF
 split
 ·rename_i h
  obtain ⟨t1, _⟩ := qfr_ (l := s.data.toList.drop i) (s := [10]) (a := (Lib.cut (s.data.toList.drop i) [10]).1) (b := (Lib.cut (s.data.toList.drop i) [10]).2.1) (by decide) (by rw [← h.1])
  refine ⟨s.data.toList.take i ++ ((Lib.cut (s.data.toList.drop i) [10]).1 ++ [10]), ?_⟩
  show _ = _ ++ (Lib.cut (s.data.toList.drop i) [10]).2.1
  rw [List.append_assoc, ← t1, List.take_append_drop]
 ·exact ⟨s.data.toList.take i, (List.take_append_drop _ _).symm⟩
theorem w_sub (i a : Nat) (h : i + a ≤ 5000000000) : wrap64 (((i + a : Nat) : Int) - (i : Int)) = (a : Int) := by rw [qbd_ (by omega) (by omega)]; omega
theorem w_add (i a : Nat) (h : i + a ≤ 5000000000) : wrap64 ((i : Int) + ((a : Nat) : Int)) = ((i + a : Nat) : Int) := by rw [qbd_ (by omega) (by omega)]; omega
theorem refLine_ev (s w : ByteArray) (x : Int) (i : Nat) (hx : x = i) (hi : i ≤ s.size) (hs : s.size ≤ 4294967000) (hw : w.size ≤ 1000) : Ev (fun k => qba_.f k s x w) (lineR s i (w.data.toList ++ [32])) := by
 subst hx
 have hs' : s.size ≤ 140737488351232 := by omega
 have hul : (s.data.toList.drop i).length = s.size - i := by rw [List.length_drop, qcg_]
 have no : ¬ ((Lib.cut (s.data.toList.drop i) [10]).2.2 = true ∧ (Lib.cut (s.data.toList.drop i) [10]).1.take (w.data.toList ++ [32]).length = w.data.toList ++ [32]) → Ev (fun _ => some ((⟨#[]⟩ : ByteArray), (i : Int), false)) (lineR s i (w.data.toList ++ [32])) := fun h => by
  unfold lineR lineF
  rw [if_neg h]
  refine ev_eq (Ev.now _) ?_
  rw [hul, show s.size - (s.size - i) = i by omega]; rfl
 refine Ev.bind (find_ev s ⟨#[10]⟩ i i rfl hs' (Nat.le_refl 1) (show 1 ≤ 1000 by omega) (by omega)) ?_
 generalize hu : s.data.toList.drop i = u at *
 cases h1 : (Lib.cut u [10]).2.2 with
 | false =>
  have hi1 : Lib.index u [10] = -1 := (qhh_ (l := u) (s := [10]) (a := (Lib.cut u [10]).1) (b := (Lib.cut u [10]).2.1) (by rw [← h1])).2.2
  have : findV i u [10] = -1 := by unfold findV; rw [if_pos hi1]
  refine qbi_ (show findV i u [10] < 0 by omega) (no (fun e => ?_))
  have := e.1; rw [h1] at this; cases this
 | true =>
  obtain ⟨t1, i1⟩ := qfr_ (l := u) (s := [10]) (a := (Lib.cut u [10]).1) (b := (Lib.cut u [10]).2.1) (by decide) (by rw [← h1])
  generalize hA : (Lib.cut u [10]).1 = A at *
  generalize hB : (Lib.cut u [10]).2.1 = B at *
  have f1 : findV i u [10] = ((i + A.length : Nat) : Int) := by unfold findV; rw [i1, if_neg (by omega)]; omega
  show Ev (fun k => if findV i u [10] < 0 then _ else _) _
  rw [f1]
  clear f1 i1
  refine ev_no (by omega) ?_
  have hlen := congrArg List.length t1
  simp only [List.length_append, List.length_cons, List.length_nil] at hlen
  have hwl : w.data.toList.length = w.size := qcg_ w
  have hAl : i + A.length ≤ 5000000000 := by omega
  have hiw : i + (w.size + 1) ≤ 5000000000 := by omega
  have e1 := w_sub i A.length hAl
  have e2 := w_one w.size (by omega)
  have e3 := w_add i (w.size + 1) hiw
  have e4 := w_one (i + A.length) hAl
  rw [e1, e2]
  simp only [e3, e4]
  clear e1 e2 e3 e4
  refine qm_ (fun g => no (fun e => ?_)) (fun g => ?_)
  ·have := congrArg List.length e.2
   rw [List.length_take, List.length_append, hwl] at this
   simp only [List.length_cons, List.length_nil] at this
   omega
  have b0 : (0 : Int) ≤ (i : Int) := Int.natCast_nonneg i
  have b1 : (i : Int) ≤ ((i + (w.size + 1) : Nat) : Int) := by omega
  have b2 : ((i + (w.size + 1) : Nat) : Int) ≤ (s.size : Int) := by omega
  have b3 : w.size + 1 ≤ 9223372036854775807 := by omega
  have b4 : (0 : Int) ≤ ((i + (w.size + 1) : Nat) : Int) := Int.natCast_nonneg _
  have b5 : ((i + (w.size + 1) : Nat) : Int) ≤ ((i + A.length : Nat) : Int) := by omega
  have b6 : ((i + A.length : Nat) : Int) ≤ (s.size : Int) := by omega
  have b7 : i + A.length + 1 = s.size - B.length := by omega
  refine qbi_ b0 (qbi_ b1 (qbi_ b2 (qbi_ b3 ?_)))
  have x1 : (s.extract i (i + (w.size + 1))).toList = A.take (w.size + 1) := by
   rw [ByteArray.toList_eq, qfl_, hu, t1, List.append_assoc, List.take_append_of_le_length (by omega)]
   congr 1; omega
  have x2 : (w ++ (⟨#[32]⟩ : ByteArray)).toList = w.data.toList ++ [32] := by rw [ByteArray.toList_eq, append_data]
  have x3 : s.extract (i + (w.size + 1)) (i + A.length) = mk (A.drop (w.size + 1)) := by
   rw [ext_mk, ← List.drop_drop, hu, t1, List.append_assoc, List.drop_append_of_le_length (by omega)]
   congr 1
   exact qhd_ _ _ _ (by rw [List.length_drop]; omega)
  simp only [Int.toNat_natCast, x1, x2, x3]
  have hpl : (w.data.toList ++ [32]).length = w.size + 1 := by rw [List.length_append, hwl]; rfl
  refine qm_ (fun g2 => ?_) (fun g2 => no (fun e => g2 (by rw [← hpl]; exact e.2)))
  refine qbi_ b4 (qbi_ b5 (qbi_ b6 ?_))
  refine ev_eq (Ev.now _) ?_
  unfold lineR lineF
  rw [hu, hA, hB, hpl, if_pos ⟨h1, g2⟩]
  show _ = (mk _, ((s.size - B.length : Nat) : Int), true)
  rw [b7]
theorem qgj_ (s : ByteArray) : (qbv_ s).2.2.2.2 = 0 ∨ (qbv_ s).2.2.2.2 = 1 ∨ (qbv_ s).2.2.2.2 = 2 := by
 unfold qbv_ finW
 repeat' split
 all_goals simp
theorem id_ev (s : ByteArray) (e : Int) (p : ByteArray) (hs : s.size < 4294967281) : Ev (fun k => qbq_.f k s e p) (mk (lineF s.data.toList p.data.toList).1, mk (lineF s.data.toList p.data.toList).2.1, if (lineF s.data.toList p.data.toList).2.2 = true ∧ idOk (mk (lineF s.data.toList p.data.toList).1) = true then e else 2) := by
 unfold qbq_.f
 rw [qgh_ s e p hs]
 simp only [Option.bind_some]
 generalize lineF s.data.toList p.data.toList = L
 refine Ev.bind (qgn_ _) (qm_ (fun g => ev_eq (Ev.now _) ?_) (fun g => ?_))
 ·by_cases h : L.2.2 = true
  ·rw [if_pos h, if_pos ⟨h, g⟩]
  ·rw [if_neg h, if_neg (fun q => h q.1)]
 ·rw [qgf_]
  simp only [Option.bind_some]
  rw [if_neg (fun q => g q.2)]
  exact Ev.now _
def errW2 (e c : Int) : Int := if c = 0 then e else if e = 0 then c else if c = 2 then 2 else e
theorem who_ev (s : ByteArray) (e : Int) (p : ByteArray) (hs : s.size ≤ 4294967000) : Ev (fun k => qbg_.f k s e p)
  ((qbv_ (mk (lineF s.data.toList p.data.toList).1)).1, (qbv_ (mk (lineF s.data.toList p.data.toList).1)).2.1, (qbv_ (mk (lineF s.data.toList p.data.toList).1)).2.2.1, (qbv_ (mk (lineF s.data.toList p.data.toList).1)).2.2.2.1, mk (lineF s.data.toList p.data.toList).2.1,
   errW2 (if (lineF s.data.toList p.data.toList).2.2 = true then e else 2) (qbv_ (mk (lineF s.data.toList p.data.toList).1)).2.2.2.2) := by
 have hl := (qef_ s.data.toList p.data.toList).1
 rw [qcg_] at hl
 unfold qbg_.f
 rw [qgh_ s e p (by omega)]
 simp only [Option.bind_some]
 generalize lineF s.data.toList p.data.toList = L at *
 refine Ev.bind (ParseWho_ev _ (by rw [qco_]; omega)) ?_
 generalize qbv_ (mk L.1) = W
 generalize (if L.2.2 = true then e else 2) = f
 refine qm_ (fun g => ev_eq (Ev.now _) ?_) (fun g => ?_)
 ·unfold errW2; rw [if_pos g]
 ·unfold errW2; rw [if_neg g]
  unfold qbt_.f
  by_cases h : f = 0
  ·rw [if_pos h, if_pos h]; exact Ev.now _
  ·rw [if_neg h, if_neg h]
   by_cases h2 : W.2.2.2.2 = 2
   ·rw [if_pos h2, if_pos h2, h2]; exact Ev.now _
   ·rw [if_neg h2, if_neg h2]; exact Ev.now _
def tL1 (s : ByteArray) := lineF s.data.toList [111, 98, 106, 101, 99, 116, 32]
def tL2 (s : ByteArray) := lineF (tL1 s).2.1 [116, 121, 112, 101, 32]
def tL3 (s : ByteArray) := lineF (tL2 s).2.1 [116, 97, 103, 32]
def tL4 (s : ByteArray) := lineF (tL3 s).2.1 [116, 97, 103, 103, 101, 114, 32]
def tL5 (s : ByteArray) := lineF (tL4 s).2.1 []
def tWho (s : ByteArray) := qbv_ (mk (tL4 s).1)
def tKind (s : ByteArray) : Int := kindF (mk (tL2 s).1) 4 0
def tGood (s : ByteArray) : Prop := (tL1 s).2.2 = true ∧ idOk (mk (tL1 s).1) = true ∧ (tL2 s).2.2 = true ∧ tKind s ≠ 0 ∧ (tL3 s).2.2 = true ∧ (tL4 s).2.2 = true ∧ (tWho s).2.2.2.2 ≠ 2 ∧ (tL5 s).2.2 = true ∧ (tL5 s).1 = []
instance (s : ByteArray) : Decidable (tGood s) := by unfold tGood; infer_instance
abbrev TagR := ByteArray × Int × ByteArray × ByteArray × ByteArray × Int × Int × ByteArray × Int
def noTag (c : Int) : TagR := (⟨#[]⟩, 0, ⟨#[]⟩, ⟨#[]⟩, ⟨#[]⟩, 0, 0, ⟨#[]⟩, c)
def tCheck (s : ByteArray) : Int := qev_ (mk (tL1 s).1) (tKind s) (mk (tL3 s).1) (tWho s).1 (tWho s).2.1 (tWho s).2.2.1 (tWho s).2.2.2.1 (mk (tL5 s).2.1)
def qer_ (s : ByteArray) : TagR :=
 if tGood s then (if (tWho s).2.2.2.2 = 1 then noTag 1 else if tCheck s = 0 then (mk (tL1 s).1, tKind s, mk (tL3 s).1, (tWho s).1, (tWho s).2.1, (tWho s).2.2.1, (tWho s).2.2.2.1, mk (tL5 s).2.1, 0) else noTag (tCheck s)) else noTag 2
theorem who_len (s : ByteArray) : (qbv_ s).1.size ≤ s.size ∧ (qbv_ s).2.1.size ≤ s.size := by
 obtain ⟨l1, l2, l3⟩ := c_len s
 unfold qbv_ finW
 repeat' split
 all_goals (try simp only [qco_]); (try constructor) <;> (first | omega | exact Nat.zero_le _)
theorem t_len (s : ByteArray) : (tL1 s).1.length ≤ s.size ∧ (tL1 s).2.1.length ≤ s.size ∧ (tL2 s).1.length ≤ s.size ∧ (tL2 s).2.1.length ≤ s.size ∧ (tL3 s).1.length ≤ s.size ∧ (tL3 s).2.1.length ≤ s.size ∧ (tL4 s).1.length ≤ s.size ∧ (tL4 s).2.1.length ≤ s.size ∧ (tL5 s).1.length ≤ s.size ∧ (tL5 s).2.1.length ≤ s.size := by
 have h1 := qef_ s.data.toList [111, 98, 106, 101, 99, 116, 32]
 have h2 := qef_ (tL1 s).2.1 [116, 121, 112, 101, 32]
 have h3 := qef_ (tL2 s).2.1 [116, 97, 103, 32]
 have h4 := qef_ (tL3 s).2.1 [116, 97, 103, 103, 101, 114, 32]
 have h5 := qef_ (tL4 s).2.1 []
 rw [qcg_] at h1
 change (tL1 s).1.length ≤ _ ∧ (tL1 s).2.1.length ≤ _ at h1
 change (tL2 s).1.length ≤ _ ∧ (tL2 s).2.1.length ≤ _ at h2
 change (tL3 s).1.length ≤ _ ∧ (tL3 s).2.1.length ≤ _ at h3
 change (tL4 s).1.length ≤ _ ∧ (tL4 s).2.1.length ≤ _ at h4
 change (tL5 s).1.length ≤ _ ∧ (tL5 s).2.1.length ≤ _ at h5
 omega
theorem tag_j1 (s : ByteArray) (hs : s.size ≤ 4294967000) (e : Int) (x : ByteArray) (he : e = if tGood s then (tWho s).2.2.2.2 else 2) : Ev (fun k => qae_.j1 k (mk (tL5 s).2.1) e (mk (tL1 s).1) (tKind s) (mk (tL3 s).1) (tWho s).1 (tWho s).2.1 (tWho s).2.2.1 (tWho s).2.2.2.1 x) (qer_ s) := by
 obtain ⟨l1, l2, l3, l4, l5, l6, l7, l8, l9, l10⟩ := t_len s
 have hw := who_len (mk (tL4 s).1)
 rw [qco_] at hw
 change (tWho s).1.size ≤ _ ∧ (tWho s).2.1.size ≤ _ at hw
 refine Ev.step (f := ?_) (fun k => by rw [qae_.j1]) ?_
 unfold qer_
 by_cases hg : tGood s
 ·rw [if_pos hg] at he ⊢
  rcases qgj_ (mk (tL4 s).1) with h | h | h
  ·have h' : (tWho s).2.2.2.2 = 0 := h
   rw [h'] at he
   rw [h', if_neg (by decide)]
   refine qbi_ he (Ev.bind (CheckTag_ev _ _ _ _ _ _ _ _ (by rw [qco_]; omega) (by omega) (by omega) (by rw [qco_]; omega)) ?_)
   refine qm_ (fun g => ?_) (fun g => ?_)
   ·rw [if_pos (show tCheck s = 0 from g)]; exact Ev.now _
   ·rw [if_neg (show ¬ tCheck s = 0 from g)]; exact Ev.now _
  ·have h' : (tWho s).2.2.2.2 = 1 := h
   rw [h'] at he
   rw [h', if_pos rfl]
   refine ev_no (by omega) ?_
   rw [he]; exact Ev.now _
  ·exact absurd h hg.2.2.2.2.2.2.1
 ·rw [if_neg hg] at he ⊢
  refine ev_no (by omega) ?_
  rw [he]; exact Ev.now _
theorem tag_j0 (s : ByteArray) (hs : s.size ≤ 4294967000) (e : Int) (x y z w : ByteArray) (a b : Int) (he : e = if (tL1 s).2.2 = true ∧ idOk (mk (tL1 s).1) = true ∧ (tL2 s).2.2 = true ∧ tKind s ≠ 0 then 0 else 2) : Ev (fun k => qae_.j0 k (mk (tL2 s).2.1) e (mk (tL1 s).1) (tKind s) x y z a b w) (qer_ s) := by
 obtain ⟨l1, l2, l3, l4, l5, l6, l7, l8, l9, l10⟩ := t_len s
 refine Ev.step (f := ?_) (fun k => by rw [qae_.j0]) ?_
 rw [qgh_ _ _ _ (by rw [qco_]; omega)]
 simp only [Option.bind_some]
 rw [qdv_]
 change Ev (fun k => (qbg_.f k (mk (tL3 s).2.1) (if (tL3 s).2.2 = true then e else 2) ⟨#[116, 97, 103, 103, 101, 114, 32]⟩).bind _) _
 refine Ev.bind (who_ev _ _ _ (by rw [qco_]; omega)) ?_
 rw [qdv_]
 change Ev (fun k => (qbh_.f (mk (tL4 s).2.1) (errW2 (if (tL4 s).2.2 = true then (if (tL3 s).2.2 = true then e else 2) else 2) (tWho s).2.2.2.2) ⟨#[]⟩).bind _) _
 rw [qgh_ _ _ _ (by rw [qco_]; omega)]
 simp only [Option.bind_some]
 rw [qdv_]
 change Ev (fun k => if (mk (tL5 s).1).toList = ([] : List UInt8) then qae_.j1 k (mk (tL5 s).2.1) (if (tL5 s).2.2 = true then errW2 (if (tL4 s).2.2 = true then (if (tL3 s).2.2 = true then e else 2) else 2) (tWho s).2.2.2.2 else 2) (mk (tL1 s).1) (tKind s) (mk (tL3 s).1) (tWho s).1 (tWho s).2.1 (tWho s).2.2.1 (tWho s).2.2.2.1 w else _) _
 have hwc := qgj_ (mk (tL4 s).1)
 change (tWho s).2.2.2.2 = 0 ∨ (tWho s).2.2.2.2 = 1 ∨ (tWho s).2.2.2.2 = 2 at hwc
 refine qm_ (fun g => ?_) (fun g => ?_)
 ·rw [qhm_] at g
  refine tag_j1 s hs _ _ ?_
  by_cases hg : tGood s
  ·rw [if_pos hg]
   obtain ⟨g1, g2, g3, g4, g5, g6, g7, g8, g9⟩ := hg
   rw [if_pos g8, if_pos g6, if_pos g5, he, if_pos ⟨g1, g2, g3, g4⟩]
   unfold errW2
   rcases hwc with h | h | h
   ·rw [h]; rfl
   ·rw [h]; rfl
   ·exact absurd h g7
  ·rw [if_neg hg]
   by_cases g8 : (tL5 s).2.2 = true
   ·rw [if_pos g8]
    have : (if (tL4 s).2.2 = true then (if (tL3 s).2.2 = true then e else 2) else 2) = 0 → (tWho s).2.2.2.2 = 2 := fun h0 => by
     rcases hwc with h | h | h
     ·exfalso
      refine hg ?_
      by_cases a4 : (tL4 s).2.2 = true
      ·rw [if_pos a4] at h0
       by_cases a3 : (tL3 s).2.2 = true
       ·rw [if_pos a3, he] at h0
        by_cases a1 : (tL1 s).2.2 = true ∧ idOk (mk (tL1 s).1) = true ∧ (tL2 s).2.2 = true ∧ tKind s ≠ 0
        ·exact ⟨a1.1, a1.2.1, a1.2.2.1, a1.2.2.2, a3, a4, by rw [h]; decide, g8, g⟩
        ·rw [if_neg a1] at h0; cases h0
       ·rw [if_neg a3] at h0; cases h0
      ·rw [if_neg a4] at h0; cases h0
     ·exfalso
      refine hg ?_
      by_cases a4 : (tL4 s).2.2 = true
      ·rw [if_pos a4] at h0
       by_cases a3 : (tL3 s).2.2 = true
       ·rw [if_pos a3, he] at h0
        by_cases a1 : (tL1 s).2.2 = true ∧ idOk (mk (tL1 s).1) = true ∧ (tL2 s).2.2 = true ∧ tKind s ≠ 0
        ·exact ⟨a1.1, a1.2.1, a1.2.2.1, a1.2.2.2, a3, a4, by rw [h]; decide, g8, g⟩
        ·rw [if_neg a1] at h0; cases h0
       ·rw [if_neg a3] at h0; cases h0
      ·rw [if_neg a4] at h0; cases h0
     ·exact h
    have two : (if (tL4 s).2.2 = true then (if (tL3 s).2.2 = true then e else 2) else 2) = 0 ∨ (if (tL4 s).2.2 = true then (if (tL3 s).2.2 = true then e else 2) else 2) = 2 := by
     rw [he]
     repeat' split
     all_goals simp
    generalize (if (tL4 s).2.2 = true then (if (tL3 s).2.2 = true then e else 2) else 2) = f at *
    unfold errW2
    rcases two with h | h
    ·rw [this h, h]; rfl
    ·subst h
     rcases hwc with h | h | h <;> rw [h] <;> rfl
   ·rw [if_neg g8]
 ·rw [qgf_]
  simp only [Option.bind_some]
  refine tag_j1 s hs 2 _ ?_
  rw [if_neg (fun hg => g (by rw [qhm_]; exact hg.2.2.2.2.2.2.2.2))]
theorem ParseTag_ev (s : ByteArray) (hs : s.size ≤ 4294967000) : Ev (fun k => qae_.f k s) (qer_ s) := by
 obtain ⟨l1, l2, l3, l4, l5, l6, l7, l8, l9, l10⟩ := t_len s
 refine Ev.bind (id_ev s 0 _ (by omega)) ?_
 change Ev (fun k => (qbh_.f (mk (tL1 s).2.1) (if (tL1 s).2.2 = true ∧ idOk (mk (tL1 s).1) = true then 0 else 2) ⟨#[116, 121, 112, 101, 32]⟩).bind _) _
 rw [qgh_ _ _ _ (by rw [qco_]; omega)]
 simp only [Option.bind_some]
 rw [qdv_]
 change Ev (fun k => (qfn_.f (mk (tL2 s).1)).bind _) _
 unfold qfn_.f
 simp only [Option.bind_some]
 refine qm_ (fun g => ?_) (fun g => ?_)
 ·rw [qgf_]
  simp only [Option.bind_some]
  exact tag_j0 s hs 2 _ _ _ _ _ _ (by rw [if_neg (fun h => h.2.2.2 g)])
 ·refine tag_j0 s hs _ _ _ _ _ _ _ ?_
  change (if (tL2 s).2.2 = true then (if (tL1 s).2.2 = true ∧ idOk (mk (tL1 s).1) = true then (0 : Int) else 2) else 2) = if (tL1 s).2.2 = true ∧ idOk (mk (tL1 s).1) = true ∧ (tL2 s).2.2 = true ∧ tKind s ≠ 0 then 0 else 2
  have g' : tKind s ≠ 0 := g
  by_cases a1 : (tL1 s).2.2 = true <;> by_cases a2 : idOk (mk (tL1 s).1) = true <;> by_cases b : (tL2 s).2.2 = true <;> simp [a1, a2, b, g']
theorem refKind_l0 (s : ByteArray) : ∀ (d i : Nat), i + d = 4 → Ev (fun k => qci_.l0 k s ((i : Int) + 1)) (kindF s d i)
 | 0, i, h => Ev.step (f := ?_) (fun k => by rw [qci_.l0, if_neg (by omega)]) (Ev.now _)
 | d + 1, i, h => by
  have hw : qcm_.f ((i : Int) + 1) = some (kindW i) := by
   rw [qgu_]
   have : i = 0 ∨ i = 1 ∨ i = 2 ∨ i = 3 := by omega
   rcases this with rfl | rfl | rfl | rfl <;> rfl
  refine Ev.step (f := ?_) (fun k => by rw [qci_.l0, if_pos (by omega), hw, Option.bind_some]) ?_
  rw [kindF]
  refine qm_ (fun g => ?_) (fun g => ?_)
  ·rw [if_pos g]; exact Ev.now _
  ·rw [if_neg g]
   have e : wrap64 ((i : Int) + 1 + 1) = ((i + 1 : Nat) : Int) + 1 := by rw [qbd_ (by omega) (by omega)]; omega
   rw [e]
   exact refKind_l0 s d (i + 1) (by omega)
theorem refKind_ev (s : ByteArray) : Ev (fun k => qci_.f k s) (kindF s 4 0) := refKind_l0 s 4 0 rfl
def howF (s : ByteArray) (b : Bool) : Int := if b = true ∧ (qbv_ s).2.2.2.2 ≠ 2 then (if (qbv_ s).2.2.2.2 = 0 then 2 else 1) else 0
theorem refwho_ev (s : ByteArray) (b : Bool) (hs : s.size ≤ 4294967000) : Ev (fun k => qca_.f k s b) ((qbv_ s).1, (qbv_ s).2.1, (qbv_ s).2.2.1, (qbv_ s).2.2.2.1, howF s b) := by
 refine Ev.bind (refParseWho_ev s hs) ?_
 unfold howF
 generalize qbv_ s = W
 refine qm_ (fun g => ?_) (fun g => ?_)
 ·refine Ev.step (f := ?_) (fun k => by rw [qca_.j0]) ?_
  by_cases h : W.2.2.2.2 = 2
  ·exact qbi_ (beq_iff_eq.2 h) (ev_eq (Ev.now _) (by rw [if_neg (fun e => e.2 h)]))
  ·refine ev_no (fun e => h (beq_iff_eq.1 e)) (qm_ (fun g2 => ev_eq (Ev.now _) ?_) (fun g2 => ev_eq (Ev.now _) ?_))
   ·rw [if_pos ⟨g, h⟩, if_pos g2]
   ·rw [if_pos ⟨g, h⟩, if_neg g2]
 ·rw [if_neg (fun e => g e.1)]
  exact Ev.step (f := ?_) (fun k => by rw [qca_.j0, if_pos rfl]) (Ev.now _)
theorem qge_ (s w : ByteArray) (x : Int) (u : List UInt8) (hx : x = ((s.size - u.length : Nat) : Int)) (hu : s.data.toList.drop (s.size - u.length) = u) (hs : s.size ≤ 4294967000) (hw : w.size ≤ 1000) :
  Ev (fun k => qba_.f k s x w) (mk (lineF u (w.data.toList ++ [32])).1, ((s.size - (lineF u (w.data.toList ++ [32])).2.1.length : Nat) : Int), (lineF u (w.data.toList ++ [32])).2.2) ∧ s.data.toList.drop (s.size - (lineF u (w.data.toList ++ [32])).2.1.length) = (lineF u (w.data.toList ++ [32])).2.1 := by
 have h1 := refLine_ev s w x (s.size - u.length) hx (Nat.sub_le _ _) hs hw
 have h2 := rest_at (s := s) (i := s.size - u.length) (p := w.data.toList ++ [32]) (Nat.sub_le _ _)
 unfold lineR at h1
 rw [hu] at h1 h2
 exact ⟨h1, h2⟩
theorem qgg_ (u : List UInt8) : (lineF u []).2.2 = true ∧ (lineF u []).1 = [] → u = 10 :: (lineF u []).2.1 := by
 rintro ⟨h1, h2⟩
 unfold lineF at h1 h2 ⊢
 split at h1
 ·rename_i g
  rw [if_pos g] at h2 ⊢
  have e := qfr_ (l := u) (s := [10]) (a := (Lib.cut u [10]).1) (b := (Lib.cut u [10]).2.1) (by decide) (by rw [← g.1])
  have h3 : (Lib.cut u [10]).1 = [] := by simpa using h2
  have e1 := e.1
  rw [h3] at e1
  simpa using e1
 ·cases h1
theorem lineF_cons (r : List UInt8) : lineF (10 :: r) [] = ([], r, true) := by
 unfold lineF
 have : Lib.cut (10 :: r) [10] = ([], r, true) := cut_one 10 [] r (by simp)
 rw [this]; simp
theorem empty_no (z t : Int) (m : ByteArray) : qfo_ ⟨#[]⟩ m t z = false := by
 unfold qfo_ qfq_ edge
 rw [decide_eq_true (show (⟨#[]⟩ : ByteArray).size < 1 by decide)]
 simp
theorem tag_end (s : ByteArray) (hs : s.size ≤ 4294967000) (y : ByteArray) (x : Int) (hx : x = ((s.size - (tL4 s).2.1.length : Nat) : Int)) (bad : Bool) (hu : s.data.toList.drop (s.size - (tL4 s).2.1.length) = (tL4 s).2.1) (hb : bad = !decide (tGood s)) :
  Ev (fun k => qab_.j0 k s x bad (mk (tL1 s).1) (tKind s) (mk (tL3 s).1) (tWho s).1 (tWho s).2.1 (tWho s).2.2.1 (tWho s).2.2.2.1 y) (qer_ s) := by
 obtain ⟨l1, l2, l3, l4, l5, l6, l7, l8, l9, l10⟩ := t_len s
 have hw := who_len (mk (tL4 s).1)
 rw [qco_] at hw
 change (tWho s).1.size ≤ _ ∧ (tWho s).2.1.size ≤ _ at hw
 refine Ev.step (f := ?_) (fun k => by rw [qab_.j0]) ?_
 by_cases hg : tGood s
 ·rw [decide_eq_true hg] at hb
  subst hb
  refine ev_no (by decide) ?_
  have h10 := qgg_ (tL4 s).2.1 ⟨hg.2.2.2.2.2.2.2.1, hg.2.2.2.2.2.2.2.2⟩
  change (tL4 s).2.1 = 10 :: (tL5 s).2.1 at h10
  have hlen := congrArg List.length h10
  rw [List.length_cons] at hlen
  have e1 : wrap64 (x + 1) = ((s.size - (tL5 s).2.1.length : Nat) : Int) := by rw [hx, qbd_ (by omega) (by omega)]; omega
  have e2 : s.extract (s.size - (tL5 s).2.1.length) s.size = mk (tL5 s).2.1 := by
   have q : s.data.toList.drop (s.size - (tL5 s).2.1.length) = (tL5 s).2.1 := by
    rw [show s.size - (tL5 s).2.1.length = s.size - (tL4 s).2.1.length + 1 by omega, ← List.drop_drop, hu, h10]; rfl
   rw [ext_mk, q, List.take_of_length_le (by omega)]
  rw [e1]
  refine qbi_ (by omega) (qbi_ (by omega) ?_)
  simp only [Int.toNat_natCast, e2]
  refine Ev.bind (refCheckTag_ev _ _ _ _ _ _ _ _ (by rw [qco_]; omega) (by omega) (by omega) (by rw [qco_]; omega)) ?_
  change Ev (fun k => if tCheck s = 0 then _ else _) _
  unfold qer_
  rw [if_pos hg]
  rcases qgj_ (mk (tL4 s).1) with h | h | h
  ·have h' : (tWho s).2.2.2.2 = 0 := h
   rw [h', if_neg (show ¬ (0 : Int) = 1 by decide)]
   refine qm_ (fun g => ?_) (fun g => ?_)
   ·rw [if_pos g]; exact Ev.now _
   ·rw [if_neg g]; exact Ev.now _
  ·have h' : (tWho s).2.2.2.2 = 1 := h
   rw [if_pos h']
   have : tCheck s = 1 := by
    have hp : (tWho s).1 = ⟨#[]⟩ := by
     change (qbv_ (mk (tL4 s).1)).1 = _
     change (qbv_ (mk (tL4 s).1)).2.2.2.2 = 1 at h'
     unfold qbv_ finW at h' ⊢
     split at h'
     ·rename_i a
      rw [if_pos a]
      split at h'
      ·cases h'
      ·rename_i b; rw [if_neg b]
     ·cases h'
    unfold tCheck qev_
    rw [hp]
    refine if_neg (fun e => ?_)
    have := e.2.2.2.1
    rw [empty_no] at this; cases this
   refine ev_no (by omega) ?_
   change Ev (fun _ => some (noTag (tCheck s))) _
   rw [this]; exact Ev.now _
  ·exact absurd h hg.2.2.2.2.2.2.1
 ·rw [decide_eq_false hg] at hb
  subst hb
  refine qbi_ rfl ?_
  unfold qer_
  rw [if_neg hg]
  exact Ev.now _
theorem qhr_ (s : ByteArray) (hs : s.size ≤ 4294967000) : Ev (fun k => qab_.f k s) (qer_ s) := by
 obtain ⟨l1, l2, l3, l4, l5, l6, l7, l8, l9, l10⟩ := t_len s
 have d0 : s.data.toList.drop (s.size - s.data.toList.length) = s.data.toList := by rw [qcg_, Nat.sub_self, List.drop_zero]
 have q0 : (0 : Int) = ((s.size - s.data.toList.length : Nat) : Int) := by rw [qcg_, Nat.sub_self]; rfl
 obtain ⟨r1, d1⟩ := qge_ s ⟨#[111, 98, 106, 101, 99, 116]⟩ 0 s.data.toList q0 d0 hs (show 6 ≤ 1000 by omega)
 change Ev _ (mk (tL1 s).1, ((s.size - (tL1 s).2.1.length : Nat) : Int), (tL1 s).2.2) at r1
 change s.data.toList.drop (s.size - (tL1 s).2.1.length) = (tL1 s).2.1 at d1
 obtain ⟨r2, d2⟩ := qge_ s ⟨#[116, 121, 112, 101]⟩ _ (tL1 s).2.1 rfl d1 hs (show 4 ≤ 1000 by omega)
 change Ev _ (mk (tL2 s).1, ((s.size - (tL2 s).2.1.length : Nat) : Int), (tL2 s).2.2) at r2
 change s.data.toList.drop (s.size - (tL2 s).2.1.length) = (tL2 s).2.1 at d2
 obtain ⟨r3, d3⟩ := qge_ s ⟨#[116, 97, 103]⟩ _ (tL2 s).2.1 rfl d2 hs (show 3 ≤ 1000 by omega)
 change Ev _ (mk (tL3 s).1, ((s.size - (tL3 s).2.1.length : Nat) : Int), (tL3 s).2.2) at r3
 change s.data.toList.drop (s.size - (tL3 s).2.1.length) = (tL3 s).2.1 at d3
 obtain ⟨r4, d4⟩ := qge_ s ⟨#[116, 97, 103, 103, 101, 114]⟩ _ (tL3 s).2.1 rfl d3 hs (show 6 ≤ 1000 by omega)
 change Ev _ (mk (tL4 s).1, ((s.size - (tL4 s).2.1.length : Nat) : Int), (tL4 s).2.2) at r4
 change s.data.toList.drop (s.size - (tL4 s).2.1.length) = (tL4 s).2.1 at d4
 refine Ev.bind r1 (Ev.bind r2 (Ev.bind r3 (Ev.bind r4 (Ev.bind (refwho_ev (mk (tL4 s).1) (tL4 s).2.2 (by rw [qco_]; omega)) (Ev.bind (refKind_ev (mk (tL2 s).1)) ?_)))))
 change Ev (fun k => if (tL1 s).2.2 = true then (if (tL2 s).2.2 = true then (if (tL3 s).2.2 = true then (if howF (mk (tL4 s).1) (tL4 s).2.2 = 0 then _ else (qac_.f k (mk (tL1 s).1)).bind _) else _) else _) else _) _
 have bad : ¬ tGood s → Ev (fun k => qab_.j0 k s ((s.size - (tL4 s).2.1.length : Nat) : Int) true (mk (tL1 s).1) (tKind s) (mk (tL3 s).1) (tWho s).1 (tWho s).2.1 (tWho s).2.2.1 (tWho s).2.2.2.1 ⟨#[]⟩) (qer_ s) := fun h => tag_end s hs _ _ rfl true d4 (by rw [decide_eq_false h]; rfl)
 refine qm_ (fun g1 => ?_) (fun g1 => bad (fun e => g1 e.1))
 refine qm_ (fun g2 => ?_) (fun g2 => bad (fun e => g2 e.2.2.1))
 refine qm_ (fun g3 => ?_) (fun g3 => bad (fun e => g3 e.2.2.2.2.1))
 refine qm_ (fun g4 => bad (fun e => ?_)) (fun g4 => ?_)
 ·have q : howF (mk (tL4 s).1) (tL4 s).2.2 ≠ 0 := by
   unfold howF
   rw [if_pos ⟨e.2.2.2.2.2.1, e.2.2.2.2.2.2.1⟩]
   split <;> decide
  exact q g4
 have g5 : (tL4 s).2.2 = true ∧ (tWho s).2.2.2.2 ≠ 2 := by
  refine Classical.byContradiction fun h => g4 ?_
  unfold howF
  exact if_neg h
 refine Ev.bind (qfe_ _) (qm_ (fun g6 => ?_) (fun g6 => bad (fun e => g6 e.2.1)))
 refine qm_ (fun g7 => bad (fun e => e.2.2.2.1 g7)) (fun g7 => ?_)
 have hub : (tL4 s).2.1.length ≤ s.size := l8
 refine qm_ (fun g8 => bad (fun e => ?_)) (fun g8 => ?_)
 ·have h10 := congrArg List.length (qgg_ (tL4 s).2.1 ⟨e.2.2.2.2.2.2.2.1, e.2.2.2.2.2.2.2.2⟩)
  rw [List.length_cons] at h10
  have g8' : ((s.size - (tL4 s).2.1.length : Nat) : Int) ≥ (s.size : Int) := g8
  omega
 have g8' : ¬ ((s.size - (tL4 s).2.1.length : Nat) : Int) ≥ (s.size : Int) := g8
 clear g8
 refine qbi_ (Int.natCast_nonneg _) (qbi_ (Int.not_le.1 g8') (tag_end s hs _ _ rfl _ d4 ?_))
 cases hr : (tL4 s).2.1 with
 | nil => rw [hr] at g8'; exact absurd (by simp) g8'
 | cons c r =>
  rw [hr] at d4
  have hb := (qfh_ d4).2.1
  rw [hb]
  by_cases hc : c = 10
  ·subst hc
   have e5 : tL5 s = ([], r, true) := by unfold tL5; rw [hr]; exact lineF_cons r
   rw [decide_eq_true (show tGood s from ⟨g1, g6, g2, g7, g3, g5.1, g5.2, by rw [e5], by rw [e5]⟩)]
   rfl
  ·have : ¬ tGood s := fun e => by
    have h10 := qgg_ (tL4 s).2.1 ⟨e.2.2.2.2.2.2.2.1, e.2.2.2.2.2.2.2.2⟩
    rw [hr] at h10
    exact hc (List.cons.inj h10).1
   rw [decide_eq_false this]
   have hn : c.toNat ≠ 10 := fun h => hc (UInt8.toNat_inj.1 h)
   rw [bne_iff_ne.2 (by omega)]
   rfl
attribute [local go_sem] qen_ qem_ qey_ qex_ qee_ qeg_ qel_ qek_
def qdx_.T4 : Bool × List (List Nat × List Nat) := (true, [([], []), ([0], [0]), ([1], [1]), ([2], [2]), ([], []), ([4], [4]), ([5], [5]), ([3, 6], [3, 6]), ([7], [7]), ([], []), ([9], [9]), ([8, 10], [8, 10]), ([11], [11]), ([], []), ([13], [13]), ([14, 6], [14]), ([12, 15], [12, 15]), ([16], [16]), ([], []), ([18], [18]), ([17, 19], [17, 19]), ([20, 15, 0, 1, 2, 3, 4, 5, 6, 7, 8, 9, 10, 11, 12, 13, 14, 15, 16, 17, 18, 19, 20], [20]), ([21, 0, 1, 2, 3, 4, 5, 6, 7, 8, 9, 10, 11, 12, 13, 14, 15, 16, 17, 18, 19, 20, 21], [])])
def qdx_.B4 : List Nat := [0, 1, 3, 7, 0, 16, 48, 127, 255, 0, 512, 2047, 4095, 0, 8192, 24688, 65535, 131071, 0, 262144, 1048575, 2097151, 4194303]
theorem qdx_.tab4 : rtab .any (opsOf Tryz.f26 4) = qdx_.T4 := by kernel_rfl
theorem qdx_.bits4 : qdu_ qdx_.T4.2 qdx_.B4 = true := by kernel_rfl
theorem lineF_text {u p : List UInt8} (h : (lineF u p).2.2 = true) : u = p ++ ((lineF u p).1 ++ 10 :: (lineF u p).2.1) := by
 unfold lineF at h ⊢
 split at h
 ·rename_i g
  rw [if_pos g]
  have e := (qfr_ (l := u) (s := [10]) (a := (Lib.cut u [10]).1) (b := (Lib.cut u [10]).2.1) (by decide) (by rw [← g.1])).1
  show u = p ++ ((Lib.cut u [10]).1.drop p.length ++ 10 :: (Lib.cut u [10]).2.1)
  have q := List.take_append_drop p.length (Lib.cut u [10]).1
  rw [g.2] at q
  rw [← List.append_assoc, q]
  simpa using e
 ·cases h
theorem word_size (a : Int) : (wordB a).size ≤ 6 := by
 unfold wordB
 repeat' split
 all_goals decide
theorem id_size {o : ByteArray} (h : idOk o = true) : o.size = 40 := by
 unfold idOk at h
 rw [Bool.and_eq_true, decide_eq_true_eq] at h
 exact h.1
theorem idxF_ev (l : List ByteArray) (hl : l.length ≤ 140737488351232) (g : ByteArray → Option Bool) (p : ByteArray → Bool) (hg : ∀ z, g z = some (p z)) : ∀ (d i : Nat), i + d = l.length → ∃ r : Int, Ev (fun k => qs_.l0 k l g (l.length : Int) i) r ∧ decide (r ≥ 0) = (l.drop i).any p
 | 0, i, h => ⟨-1, Ev.step (f := ?_) (fun k => by rw [qs_.l0, if_neg (by omega)]) (Ev.now _), by rw [List.drop_of_length_le (by omega)]; rfl⟩
 | d + 1, i, h => by
  have hi : i < l.length := by omega
  rw [List.drop_eq_getElem_cons hi, List.any_cons]
  cases hp : p l[i] with
  | true => exact ⟨(i : Int), Ev.step (f := ?_) (fun k => by rw [qs_.l0, if_pos (by omega), if_pos (by omega), if_pos (by omega), qfa_ l i hi, hg, Option.bind_some]) (qbi_ hp (Ev.now _)), by simp⟩
  | false =>
   obtain ⟨r, h1, h2⟩ := idxF_ev l hl g p hg d (i + 1) (by omega)
   exact ⟨r, Ev.step (f := ?_) (fun k => by rw [qs_.l0, if_pos (by omega), if_pos (by omega), if_pos (by omega), qfa_ l i hi, hg, Option.bind_some, qej_ i (by omega)]) (ev_no (show ¬ p l[i] = true by rw [hp]; decide) h1), by simpa using h2⟩
theorem containsF_ev (l : List ByteArray) (hl : l.length ≤ 140737488351232) (g : ByteArray → Option Bool) (p : ByteArray → Bool) (hg : ∀ z, g z = some (p z)) : Ev (fun k => qam_.f k l g) (l.any p) := by
 obtain ⟨r, h1, h2⟩ := idxF_ev l hl g p hg l.length 0 (by omega)
 refine Ev.bind h1 (ev_eq (Ev.now _) ?_)
 rw [h2, List.drop_zero]
def dupL : List (List UInt8) → List ByteArray → Bool
 | _, [] => false
 | seen, p :: r => decide (p.data.toList ∈ seen) || dupL (seen ++ [p.data.toList]) r
theorem chk_l0 (l : List ByteArray) (hl : l.length ≤ 140737488351232) (hs : ∀ p ∈ l, p.size ≤ 140737488351232) : ∀ (u : List ByteArray) (i : Nat) (seen : List (List UInt8)) (m : MSB), l.drop i = u → i ≤ l.length → m.n ≤ i → (∀ y, m.f y = if y ∈ seen then some true else none) → Ev (fun k => qv_.l0 k l (l.length : Int) i m) (if dupL seen u = true then 6 else 0)
 | [], i, seen, m, h, hi, hm, hf => by
  have : l.length ≤ i := by have := congrArg List.length h; rw [List.length_drop] at this; simp at this; omega
  exact Ev.step (f := ?_) (fun k => by rw [qv_.l0, if_neg (by omega)]) (Ev.now _)
 | p :: r, i, seen, m, h, hi, hm, hf => by
  have hlt : i < l.length := by have := congrArg List.length h; rw [List.length_drop, List.length_cons] at this; omega
  rw [List.drop_eq_getElem_cons hlt] at h
  obtain ⟨h1, h2⟩ := List.cons.inj h
  have hsz := hs l[i] (List.getElem_mem hlt)
  refine Ev.step (f := ?_) (fun k => by rw [qv_.l0, if_pos (by omega), if_pos (by omega), if_pos (by omega), qfa_ l i hlt, if_pos (by omega), qej_ i (by omega)]) ?_
  rw [h1] at hsz ⊢
  have hget : MSB.get m p = decide (p.data.toList ∈ seen) := by
   unfold MSB.get
   rw [hf]
   by_cases q : p.data.toList ∈ seen
   ·rw [if_pos q, decide_eq_true q]; rfl
   ·rw [if_neg q, decide_eq_false q]; rfl
  rw [dupL]
  refine qm_ (fun g => ?_) (fun g => ?_)
  ·rw [hget] at g
   rw [g, Bool.true_or, if_pos rfl]; exact Ev.now _
  ·rw [hget, Bool.not_eq_true] at g
   rw [g, Bool.false_or]
   refine qbi_ (by omega) (chk_l0 l hl hs r (i + 1) (seen ++ [p.data.toList]) (MSB.put m p true) h2 (by omega) (show m.n + 1 ≤ i + 1 by omega) (fun y => ?_))
   show (if y = p.data.toList then some true else m.f y) = _
   rw [hf]
   by_cases q : y = p.data.toList
   ·rw [if_pos q, if_pos (by rw [List.mem_append]; exact Or.inr (by simp [q]))]
   ·rw [if_neg q]
    by_cases q2 : y ∈ seen
    ·rw [if_pos q2, if_pos (by rw [List.mem_append]; exact Or.inl q2)]
    ·rw [if_neg q2, if_neg (by rw [List.mem_append]; simp [q, q2])]
section
variable (t : ByteArray) (l : List ByteArray) (an am : ByteArray) (aq az : Int) (cn cm : ByteArray) (cq cz : Int) (x : ByteArray)
theorem dup_l2 (hl : l.length ≤ 140737488351232) (i : Nat) (hi : i < l.length) (R : Int) (hR : Ev (fun k => qf_.l1 k ((i + 1 : Nat) : Int) t l an am aq az cn cm cq cz x) R) : ∀ (e j : Nat), j + e = i →
  Ev (fun k => qf_.l2 k i j t l an am aq az cn cm cq cz x) (if l[i].data.toList ∈ ((l.take i).drop j).map (fun p => p.data.toList) then 6 else R)
 | 0, j, h => by
  have : (l.take i).drop j = [] := List.drop_of_length_le (by rw [List.length_take]; omega)
  rw [this, if_neg (by simp)]
  exact Ev.step (f := ?_) (fun k => by rw [qf_.l2, if_neg (by omega), qej_ i (by omega)]) hR
 | e + 1, j, h => by
  have hj : j < l.length := by omega
  have hd : (l.take i).drop j = l[j] :: (l.take i).drop (j + 1) := by
   rw [List.drop_eq_getElem_cons (by rw [List.length_take]; omega), List.getElem_take]
  rw [hd, List.map_cons]
  refine Ev.step (f := ?_) (fun k => by rw [qf_.l2, if_pos (by omega), if_pos (by omega), if_pos (by omega), if_pos (by omega), if_pos (by omega), qfa_ l i hi, qfa_ l j hj, qej_ j (by omega)]) ?_
  refine qm_ (fun g => ?_) (fun g => ?_)
  ·rw [ByteArray.toList_eq, ByteArray.toList_eq] at g
   rw [if_pos (List.mem_cons.2 (Or.inl g))]; exact Ev.now _
  ·rw [ByteArray.toList_eq, ByteArray.toList_eq] at g
   refine ev_eq (dup_l2 hl i hi R hR e (j + 1) (by omega)) ?_
   by_cases q : l[i].data.toList ∈ ((l.take i).drop (j + 1)).map (fun p => p.data.toList)
   ·rw [if_pos q, if_pos (List.mem_cons.2 (Or.inr q))]
   ·rw [if_neg q, if_neg (fun z => (List.mem_cons.1 z).elim g q)]
theorem dup_l1 (hl : l.length ≤ 140737488351232) : ∀ (d i : Nat), i + d = l.length → Ev (fun k => qf_.l1 k i t l an am aq az cn cm cq cz x) (if dupL ((l.take i).map (fun p => p.data.toList)) (l.drop i) = true then 6 else 0)
 | 0, i, h => by
  rw [List.drop_of_length_le (by omega)]
  exact Ev.step (f := ?_) (fun k => by rw [qf_.l1, if_neg (by omega)]) (Ev.now _)
 | d + 1, i, h => by
  have hi : i < l.length := by omega
  have ih := dup_l1 hl d (i + 1) (by omega)
  refine Ev.step (f := ?_) (fun k => by rw [qf_.l1, if_pos (by omega)]) (ev_eq (dup_l2 t l an am aq az cn cm cq cz x hl i hi _ ih i 0 (by omega)) ?_)
  rw [List.drop_zero, List.drop_eq_getElem_cons hi, dupL, List.take_succ_eq_append_getElem hi, List.map_append]
  by_cases q : l[i].data.toList ∈ (l.take i).map (fun p => p.data.toList)
  ·rw [if_pos q, decide_eq_true q, Bool.true_or, if_pos rfl]
  ·rw [if_neg q, decide_eq_false q, Bool.false_or]; rfl
def comOk : Prop := idOk t = true ∧ (∀ p ∈ l, idOk p = true) ∧ qfo_ an am aq az = true ∧ qfo_ cn cm cq cz = true ∧ zeroB x = false
instance : Decidable (comOk t l an am aq az cn cm cq cz x) := by unfold comOk; infer_instance
def qet_ : Int := if comOk t l an am aq az cn cm cq cz x then (if x.size > 4096 ∨ l.length > 8 then 4 else if dupL [] l = true then 6 else 0) else 1
theorem qgx_ : l.any (fun p => !idOk p) = true ↔ ¬ ∀ p ∈ l, idOk p = true := by
 rw [List.any_eq_true]
 constructor
 ·rintro ⟨p, hp, h⟩ q
  rw [q p hp] at h; cases h
 ·intro h
  refine Classical.byContradiction fun g => h (fun p hp => ?_)
  cases e : idOk p with
  | true => rfl
  | false => exact absurd ⟨p, hp, by rw [e]; rfl⟩ g
theorem Check_ev (hl : l.length ≤ 140737488351232) (hn : an.size ≤ 140737488351232) (hm : am.size ≤ 140737488351232) (hcn : cn.size ≤ 140737488351232) (hcm : cm.size ≤ 140737488351232) (hx : x.size < 4294967281) : Ev (fun k => qv_.f k t l an am aq az cn cm cq cz x) (qet_ t l an am aq az cn cm cq cz x) := by
 have bad : ¬ comOk t l an am aq az cn cm cq cz x → Ev (fun k => qv_.j0 k true t l an am aq az cn cm cq cz x) (qet_ t l an am aq az cn cm cq cz x) := fun h => by
  unfold qet_; rw [if_neg h]
  exact Ev.step (f := ?_) (fun k => by rw [qv_.j0, if_pos rfl]) (Ev.now _)
 refine Ev.bind (Ev.now (!idOk t)) (qm_ (fun g1 => bad (fun e => by rw [e.1] at g1; cases g1)) (fun g1 => ?_))
 refine Ev.bind (containsF_ev l hl _ (fun p => !idOk p) (fun z => rfl)) (qm_ (fun g2 => bad (fun e => (qgx_ l).1 g2 e.2.1)) (fun g2 => ?_))
 refine Ev.bind (qgo_ an am aq az hn hm) (qm_ (fun g3 => ?_) (fun g3 => bad (fun e => g3 e.2.2.1)))
 refine Ev.bind (qgo_ cn cm cq cz hcn hcm) (qm_ (fun g4 => ?_) (fun g4 => bad (fun e => g4 e.2.2.2.1)))
 rw [qic_ x hx]
 simp only [Option.bind_some]
 cases g5 : zeroB x with
 | true => exact bad (fun e => by have := e.2.2.2.2; rw [g5] at this; cases this)
 | false =>
  have hid : ∀ p ∈ l, idOk p = true := Classical.byContradiction fun h => g2 ((qgx_ l).2 h)
  have ok : comOk t l an am aq az cn cm cq cz x := ⟨by simpa using g1, hid, g3, g4, g5⟩
  unfold qet_
  rw [if_pos ok]
  refine Ev.step (f := ?_) (fun k => by rw [qv_.j0, if_neg (by decide)]) (qm_ (fun h => ?_) (fun h => ?_))
  ·rw [if_pos (Or.inl (by omega))]
   exact Ev.step (f := ?_) (fun k => by rw [qv_.j1, if_pos rfl]) (Ev.now _)
  ·by_cases h2 : (l.length : Int) > 8
   ·rw [if_pos (Or.inr (by omega)), decide_eq_true h2]
    exact Ev.step (f := ?_) (fun k => by rw [qv_.j1, if_pos rfl]) (Ev.now _)
   ·rw [if_neg (fun z => z.elim (fun q => h (by omega)) (fun q => h2 (by omega))), decide_eq_false h2]
    refine Ev.step (f := ?_) (fun k => by rw [qv_.j1, if_neg (by decide)]) ?_
    exact chk_l0 l hl (fun p hp => by have := id_size (hid p hp); omega) l 0 [] MSB.nil (List.drop_zero) (Nat.zero_le _) (Nat.zero_le _) (fun y => by simp [MSB.nil])
theorem qhe_ (hl : l.length ≤ 140737488351232) : ∀ (d i : Nat), i + d = l.length → Ev (fun k => qf_.l0 k true i t l an am aq az cn cm cq cz x) 1
 | 0, i, h => Ev.step (f := ?_) (fun k => by rw [qf_.l0, if_neg (by omega), if_pos rfl]) (Ev.now _)
 | d + 1, i, h => Ev.step (f := ?_) (fun k => by rw [qf_.l0, if_pos (by omega), if_pos rfl, qej_ i (by omega)]) (qhe_ hl d (i + 1) (by omega))
theorem qib_ (hl : l.length ≤ 140737488351232) (R : Int) (hR : Ev (fun k => if (x.size : Int) > 4096 then qf_.j2 k true t l an am aq az cn cm cq cz x else qf_.j2 k (decide ((l.length : Int) > 8)) t l an am aq az cn cm cq cz x) R) : ∀ (d i : Nat), i + d = l.length →
  Ev (fun k => qf_.l0 k false i t l an am aq az cn cm cq cz x) (if (l.drop i).any (fun p => !idOk p) = true then 1 else R)
 | 0, i, h => by
  rw [List.drop_of_length_le (by omega)]
  exact Ev.step (f := ?_) (fun k => by rw [qf_.l0, if_neg (by omega), if_neg (by decide)]) hR
 | d + 1, i, h => by
  have hi : i < l.length := by omega
  rw [List.drop_eq_getElem_cons hi, List.any_cons]
  refine Ev.step (f := ?_) (fun k => by rw [qf_.l0, if_pos (by omega), if_neg (by decide), if_pos (by omega), qfa_ l i hi, qej_ i (by omega)]) ?_
  refine Ev.bind (qfe_ l[i]) ?_
  cases e : idOk l[i] with
  | true => exact qib_ hl R hR d (i + 1) (by omega)
  | false => exact qhe_ t l an am aq az cn cm cq cz x hl d (i + 1) (by omega)
theorem qho_ (hl : l.length ≤ 140737488351232) (hn : an.size ≤ 140737488351232) (hm : am.size ≤ 140737488351232) (hcn : cn.size ≤ 140737488351232) (hcm : cm.size ≤ 140737488351232) (hx : x.size < 4294967281) : Ev (fun k => qf_.f k t l an am aq az cn cm cq cz x) (qet_ t l an am aq az cn cm cq cz x) := by
 have bad : ¬ comOk t l an am aq az cn cm cq cz x → Ev (fun k => qf_.j0 k true t l an am aq az cn cm cq cz x) (qet_ t l an am aq az cn cm cq cz x) := fun h => by
  unfold qet_; rw [if_neg h]
  exact Ev.step (f := ?_) (fun k => by rw [qf_.j0]) (qhe_ t l an am aq az cn cm cq cz x hl l.length 0 (by omega))
 refine Ev.bind (qfe_ t) (qm_ (fun g1 => ?_) (fun g1 => bad (fun e => g1 e.1)))
 refine Ev.bind (qhl_ an am aq az hn hm) (qm_ (fun g3 => ?_) (fun g3 => bad (fun e => g3 e.2.2.1)))
 refine Ev.bind (qhl_ cn cm cq cz hcn hcm) (qm_ (fun g4 => ?_) (fun g4 => bad (fun e => g4 e.2.2.2.1)))
 refine Ev.bind (zero_ev x (by omega)) ?_
 cases g5 : zeroB x with
 | true => exact bad (fun e => by have := e.2.2.2.2; rw [g5] at this; cases this)
 | false =>
  have tail : Ev (fun k => if (x.size : Int) > 4096 then qf_.j2 k true t l an am aq az cn cm cq cz x else qf_.j2 k (decide ((l.length : Int) > 8)) t l an am aq az cn cm cq cz x) (if x.size > 4096 ∨ l.length > 8 then 4 else if dupL [] l = true then 6 else 0) := by
   refine qm_ (fun h => ?_) (fun h => ?_)
   ·rw [if_pos (Or.inl (by omega))]
    exact Ev.step (f := ?_) (fun k => by rw [qf_.j2, if_pos rfl]) (Ev.now _)
   ·by_cases h2 : (l.length : Int) > 8
    ·rw [if_pos (Or.inr (by omega)), decide_eq_true h2]
     exact Ev.step (f := ?_) (fun k => by rw [qf_.j2, if_pos rfl]) (Ev.now _)
    ·rw [if_neg (fun z => z.elim (fun q => h (by omega)) (fun q => h2 (by omega))), decide_eq_false h2]
     exact Ev.step (f := ?_) (fun k => by rw [qf_.j2, if_neg (by decide)]) (dup_l1 t l an am aq az cn cm cq cz x hl l.length 0 (by omega))
  refine Ev.step (f := ?_) (fun k => by rw [qf_.j0]) (ev_eq (qib_ t l an am aq az cn cm cq cz x hl _ tail l.length 0 (by omega)) ?_)
  rw [List.drop_zero]
  unfold qet_
  by_cases h : l.any (fun p => !idOk p) = true
  ·rw [if_pos h, if_neg (fun e : comOk t l an am aq az cn cm cq cz x => (qgx_ l).1 h e.2.1)]
  ·rw [if_neg h, if_pos (show comOk t l an am aq az cn cm cq cz x from ⟨g1, Classical.byContradiction fun q => h ((qgx_ l).2 q), g3, g4, g5⟩)]
end
end
section
def PAR : List UInt8 := [112, 97, 114, 101, 110, 116, 32]
section
variable (t : ByteArray) (l : List ByteArray) (an am : ByteArray) (aq az : Int) (cn cm : ByteArray) (cq cz : Int) (x : ByteArray)
end
end
section
def TRE : List UInt8 := [116, 114, 101, 101, 32]
def AUT : List UInt8 := [97, 117, 116, 104, 111, 114, 32]
def COM : List UInt8 := [99, 111, 109, 109, 105, 116, 116, 101, 114, 32]
theorem qgb_ (s p : ByteArray) : qcs_.f s p = some (decide (s.data.toList.take p.size = p.data.toList)) := by
 have hx : (s.extract 0 p.size).toList = s.data.toList.take p.size := by rw [ByteArray.toList_eq, qfl_]; simp
 unfold qcs_.f qcc_.f
 by_cases h : (s.size : Int) ≥ (p.size : Int)
 ·rw [if_pos h, if_pos (by omega), if_pos (by omega), hx, ByteArray.toList_eq p]
  simp only [Option.bind_some]
  by_cases g : s.data.toList.take p.size = p.data.toList
  ·rw [decide_eq_true g, g]; simp
  ·rw [decide_eq_false g]; simp [g]
 ·rw [if_neg h]
  simp only [Option.bind_some]
  rw [decide_eq_false (fun e => ?_)]
  have := congrArg List.length e
  rw [List.length_take, qcg_, qcg_] at this
  omega
def parF : Nat → List UInt8 → List ByteArray × List UInt8 × Bool
 | 0, u => ([], u, true)
 | n + 1, u => if (lineF u PAR).2.2 = true then (if idOk (mk (lineF u PAR).1) = true then (mk (lineF u PAR).1 :: (parF n (lineF u PAR).2.1).1, (parF n (lineF u PAR).2.1).2) else ([], u, false)) else ([], u, true)
theorem qhx_ {u p : List UInt8} (h : (lineF u p).2.2 = true) : (lineF u p).2.1.length < u.length := by
 have := congrArg List.length (lineF_text h)
 simp only [List.length_append, List.length_cons] at this
 omega
theorem parF_len : ∀ (n : Nat) (u : List UInt8), (parF n u).2.1.length ≤ u.length
 | 0, u => Nat.le_refl _
 | n + 1, u => by
  rw [parF]
  split
  ·rename_i h
   split
   ·exact Nat.le_trans (parF_len n _) (Nat.le_of_lt (qhx_ h))
   ·exact Nat.le_refl _
  ·exact Nat.le_refl _
theorem no_line {u : List UInt8} (h : u.take PAR.length = PAR) (hl : (lineF u PAR).2.2 = false) (p : List UInt8) : (lineF u p).2.2 = false := by
 have hc : (Lib.cut u [10]).2.2 = false := by
  cases e : (Lib.cut u [10]).2.2 with
  | false => rfl
  | true =>
   exfalso
   have t := (qfr_ (l := u) (s := [10]) (a := (Lib.cut u [10]).1) (b := (Lib.cut u [10]).2.1) (by decide) (by rw [← e])).1
   generalize hA : (Lib.cut u [10]).1 = A at *
   generalize hB : (Lib.cut u [10]).2.1 = B at *
   have hA7 : A.take PAR.length = PAR := by
    by_cases q : PAR.length ≤ A.length
    ·rw [t, List.append_assoc, List.take_append_of_le_length q] at h; exact h
    ·exfalso
     have hlt : A.length < PAR.length := Nat.lt_of_not_le q
     have h10 : (u.take PAR.length)[A.length]? = some 10 := by
      rw [List.getElem?_take_of_lt hlt, t, List.append_assoc, List.getElem?_append_right (Nat.le_refl _), Nat.sub_self]; rfl
     rw [h] at h10
     have : ∀ i : Fin 7, PAR[i.val]? ≠ some 10 := by decide
     exact this ⟨A.length, hlt⟩ h10
   unfold lineF at hl
   rw [hA, if_pos ⟨e, hA7⟩] at hl
   cases hl
 unfold lineF
 rw [if_neg]
 rintro ⟨g, -⟩
 rw [hc] at g; cases g
def k1 (s : ByteArray) := lineF s.data.toList TRE
def kp (s : ByteArray) := parF s.size (k1 s).2.1
def kA (s : ByteArray) := lineF (kp s).2.1 AUT
def kC (s : ByteArray) := lineF (kA s).2.1 COM
def kE (s : ByteArray) := lineF (kC s).2.1 []
def kWA (s : ByteArray) := qbv_ (mk (kA s).1)
def kWC (s : ByteArray) := qbv_ (mk (kC s).1)
def kGood (s : ByteArray) : Prop := (k1 s).2.2 = true ∧ idOk (mk (k1 s).1) = true ∧ (kp s).2.2 = true ∧ (kA s).2.2 = true ∧ (kWA s).2.2.2.2 ≠ 2 ∧ (kC s).2.2 = true ∧ (kWC s).2.2.2.2 ≠ 2 ∧ (kE s).2.2 = true ∧ (kE s).1 = []
instance (s : ByteArray) : Decidable (kGood s) := by unfold kGood; infer_instance
abbrev ComR := ByteArray × List ByteArray × ByteArray × ByteArray × Int × Int × ByteArray × ByteArray × Int × Int × ByteArray × Int
def noCom (c : Int) : ComR := (⟨#[]⟩, [], ⟨#[]⟩, ⟨#[]⟩, 0, 0, ⟨#[]⟩, ⟨#[]⟩, 0, 0, ⟨#[]⟩, c)
def kCheck (s : ByteArray) : Int := qet_ (mk (k1 s).1) (kp s).1 (kWA s).1 (kWA s).2.1 (kWA s).2.2.1 (kWA s).2.2.2.1 (kWC s).1 (kWC s).2.1 (kWC s).2.2.1 (kWC s).2.2.2.1 (mk (kE s).2.1)
def qdq_ (s : ByteArray) : ComR :=
 if kGood s then (if (kWA s).2.2.2.2 = 1 ∨ (kWC s).2.2.2.2 = 1 then noCom 1 else if kCheck s = 0 then (mk (k1 s).1, (kp s).1, (kWA s).1, (kWA s).2.1, (kWA s).2.2.1, (kWA s).2.2.2.1, (kWC s).1, (kWC s).2.1, (kWC s).2.2.1, (kWC s).2.2.2.1, mk (kE s).2.1, 0) else noCom (kCheck s)) else noCom 2
theorem parF_num : ∀ (n : Nat) (u : List UInt8), (parF n u).1.length ≤ n
 | 0, u => Nat.le_refl _
 | n + 1, u => by
  rw [parF]
  split
  ·split
   ·exact Nat.succ_le_succ (parF_num n _)
   ·exact Nat.zero_le _
  ·exact Nat.zero_le _
theorem k_len (s : ByteArray) : (k1 s).1.length ≤ s.size ∧ (k1 s).2.1.length ≤ s.size ∧ (kp s).2.1.length ≤ s.size ∧ (kA s).1.length ≤ s.size ∧ (kA s).2.1.length ≤ s.size ∧ (kC s).1.length ≤ s.size ∧ (kC s).2.1.length ≤ s.size ∧ (kE s).1.length ≤ s.size ∧ (kE s).2.1.length ≤ s.size := by
 have h1 := qef_ s.data.toList TRE
 have h2 := parF_len s.size (k1 s).2.1
 have h3 := qef_ (kp s).2.1 AUT
 have h4 := qef_ (kA s).2.1 COM
 have h5 := qef_ (kC s).2.1 []
 rw [qcg_] at h1
 change (k1 s).1.length ≤ _ ∧ (k1 s).2.1.length ≤ _ at h1
 change (kp s).2.1.length ≤ _ at h2
 change (kA s).1.length ≤ _ ∧ (kA s).2.1.length ≤ _ at h3
 change (kC s).1.length ≤ _ ∧ (kC s).2.1.length ≤ _ at h4
 change (kE s).1.length ≤ _ ∧ (kE s).2.1.length ≤ _ at h5
 omega
theorem k_who_len (s : ByteArray) : (kWA s).1.size ≤ s.size ∧ (kWA s).2.1.size ≤ s.size ∧ (kWC s).1.size ≤ s.size ∧ (kWC s).2.1.size ≤ s.size := by
 obtain ⟨l1, l2, l3, l4, l5, l6, l7, l8, l9⟩ := k_len s
 have ha := who_len (mk (kA s).1)
 have hc := who_len (mk (kC s).1)
 rw [qco_] at ha hc
 change (kWA s).1.size ≤ _ ∧ (kWA s).2.1.size ≤ _ at ha
 change (kWC s).1.size ≤ _ ∧ (kWC s).2.1.size ≤ _ at hc
 omega
theorem errW2_two (c : Int) : errW2 2 c = 2 := by
 unfold errW2
 by_cases h : c = 0
 ·rw [if_pos h]
 ·rw [if_neg h, if_neg (by decide)]
  by_cases g : c = 2
  ·rw [if_pos g]
  ·rw [if_neg g]
section
variable (t : ByteArray) (l : List ByteArray) (an am : ByteArray) (aq az : Int) (cn cm : ByteArray) (cq cz : Int) (x : ByteArray)
theorem qhv_ (a : ByteArray) : Ev (fun k => ql_.j2 k a 2 t l an am aq az cn cm cq cz x) (noCom 2) :=
 Ev.step (f := ?_) (fun k => by rw [ql_.j2, if_neg (by decide)]) (Ev.now _)
theorem com_j1_two (a : ByteArray) (ha : a.size ≤ 4294967000) : Ev (fun k => ql_.j1 k a 2 t l an am aq az cn cm cq cz x) (noCom 2) := by
 refine Ev.step (f := ?_) (fun k => by rw [ql_.j1]) ?_
 have h1 := qef_ a.data.toList AUT
 rw [qcg_] at h1
 refine Ev.bind (who_ev a 2 ⟨#[97, 117, 116, 104, 111, 114, 32]⟩ ha) ?_
 change Ev (fun k => (qbg_.f k (mk (lineF a.data.toList AUT).2.1) (errW2 (if (lineF a.data.toList AUT).2.2 = true then 2 else 2) (qbv_ (mk (lineF a.data.toList AUT).1)).2.2.2.2) ⟨#[99, 111, 109, 109, 105, 116, 116, 101, 114, 32]⟩).bind _) _
 rw [ite_self, errW2_two]
 generalize (lineF a.data.toList AUT).2.1 = u at *
 have h2 := qef_ u COM
 refine Ev.bind (who_ev (mk u) 2 ⟨#[99, 111, 109, 109, 105, 116, 116, 101, 114, 32]⟩ (by rw [qco_]; omega)) ?_
 rw [qdv_]
 change Ev (fun k => (qbh_.f (mk (lineF u COM).2.1) (errW2 (if (lineF u COM).2.2 = true then 2 else 2) (qbv_ (mk (lineF u COM).1)).2.2.2.2) ⟨#[]⟩).bind _) _
 rw [ite_self, errW2_two]
 generalize (lineF u COM).2.1 = v at *
 rw [qgh_ _ _ _ (by rw [qco_]; omega)]
 simp only [Option.bind_some]
 rw [qdv_]
 refine qm_ (fun g => ?_) (fun g => ?_)
 ·rw [ite_self]; exact qhv_ ..
 ·rw [qgf_]
  simp only [Option.bind_some]
  exact qhv_ ..
end
theorem com_j2 (s : ByteArray) (hs : s.size ≤ 4294967000) (e : Int) (x : ByteArray) (he : e = if kGood s then (if (kWA s).2.2.2.2 = 1 ∨ (kWC s).2.2.2.2 = 1 then 1 else 0) else 2) (hp : (kp s).1.length ≤ 140737488351232) :
  Ev (fun k => ql_.j2 k (mk (kE s).2.1) e (mk (k1 s).1) (kp s).1 (kWA s).1 (kWA s).2.1 (kWA s).2.2.1 (kWA s).2.2.2.1 (kWC s).1 (kWC s).2.1 (kWC s).2.2.1 (kWC s).2.2.2.1 x) (qdq_ s) := by
 obtain ⟨l1, l2, l3, l4, l5, l6, l7, l8, l9⟩ := k_len s
 obtain ⟨w1, w2, w3, w4⟩ := k_who_len s
 unfold qdq_
 by_cases hg : kGood s
 ·rw [if_pos hg] at he ⊢
  by_cases h1 : (kWA s).2.2.2.2 = 1 ∨ (kWC s).2.2.2.2 = 1
  ·rw [if_pos h1] at he ⊢
   subst he
   exact Ev.step (f := ?_) (fun k => by rw [ql_.j2, if_neg (by decide)]) (Ev.now _)
  ·rw [if_neg h1] at he ⊢
   subst he
   refine Ev.step (f := ?_) (fun k => by rw [ql_.j2, if_pos rfl]) ?_
   refine Ev.bind (Check_ev _ _ _ _ _ _ _ _ _ _ _ hp (by omega) (by omega) (by omega) (by omega) (by rw [qco_]; omega)) ?_
   refine qm_ (fun g => ?_) (fun g => ?_)
   ·rw [if_pos (show kCheck s = 0 from g)]; exact Ev.now _
   ·rw [if_neg (show ¬ kCheck s = 0 from g)]; exact Ev.now _
 ·rw [if_neg hg] at he ⊢
  subst he
  exact qhv_ ..
theorem com_err (a b c : Prop) [Decidable a] [Decidable b] [Decidable c] (x y : Int) (hx : x = 0 ∨ x = 1 ∨ x = 2) (hy : y = 0 ∨ y = 1 ∨ y = 2) :
  (if c then errW2 (if b then errW2 (if a then (0 : Int) else 2) x else 2) y else 2) = if a ∧ x ≠ 2 ∧ b ∧ y ≠ 2 ∧ c then (if x = 1 ∨ y = 1 then 1 else 0) else 2 := by
 by_cases ha : a <;> by_cases hb : b <;> by_cases hc : c <;> simp only [ha, hb, hc, if_true, if_false, true_and, false_and, and_true, and_false, errW2_two]
 all_goals (rcases hx with rfl | rfl | rfl <;> rcases hy with rfl | rfl | rfl <;> decide)
theorem com_j1 (s : ByteArray) (hs : s.size ≤ 4294967000) (g1 : (k1 s).2.2 = true) (g2 : idOk (mk (k1 s).1) = true) (g3 : (kp s).2.2 = true) (hp : (kp s).1.length ≤ 140737488351232) (an am : ByteArray) (aq az : Int) (cn cm : ByteArray) (cq cz : Int) (x : ByteArray) :
  Ev (fun k => ql_.j1 k (mk (kp s).2.1) 0 (mk (k1 s).1) (kp s).1 an am aq az cn cm cq cz x) (qdq_ s) := by
 obtain ⟨l1, l2, l3, l4, l5, l6, l7, l8, l9⟩ := k_len s
 refine Ev.step (f := ?_) (fun k => by rw [ql_.j1]) ?_
 refine Ev.bind (who_ev (mk (kp s).2.1) 0 ⟨#[97, 117, 116, 104, 111, 114, 32]⟩ (by rw [qco_]; omega)) ?_
 rw [qdv_]
 change Ev (fun k => (qbg_.f k (mk (kA s).2.1) (errW2 (if (kA s).2.2 = true then 0 else 2) (kWA s).2.2.2.2) ⟨#[99, 111, 109, 109, 105, 116, 116, 101, 114, 32]⟩).bind _) _
 refine Ev.bind (who_ev (mk (kA s).2.1) _ ⟨#[99, 111, 109, 109, 105, 116, 116, 101, 114, 32]⟩ (by rw [qco_]; omega)) ?_
 rw [qdv_]
 change Ev (fun k => (qbh_.f (mk (kC s).2.1) (errW2 (if (kC s).2.2 = true then (errW2 (if (kA s).2.2 = true then 0 else 2) (kWA s).2.2.2.2) else 2) (kWC s).2.2.2.2) ⟨#[]⟩).bind _) _
 rw [qgh_ _ _ _ (by rw [qco_]; omega)]
 simp only [Option.bind_some]
 rw [qdv_]
 change Ev (fun k => if (mk (kE s).1).toList = ([] : List UInt8) then ql_.j2 k (mk (kE s).2.1) (if (kE s).2.2 = true then errW2 (if (kC s).2.2 = true then (errW2 (if (kA s).2.2 = true then 0 else 2) (kWA s).2.2.2.2) else 2) (kWC s).2.2.2.2 else 2) (mk (k1 s).1) (kp s).1 (kWA s).1 (kWA s).2.1 (kWA s).2.2.1 (kWA s).2.2.2.1 (kWC s).1 (kWC s).2.1 (kWC s).2.2.1 (kWC s).2.2.2.1 x else _) _
 rw [com_err ((kA s).2.2 = true) ((kC s).2.2 = true) ((kE s).2.2 = true) (kWA s).2.2.2.2 (kWC s).2.2.2.2 (qgj_ (mk (kA s).1)) (qgj_ (mk (kC s).1))]
 refine qm_ (fun g => ?_) (fun g => ?_)
 ·rw [qhm_] at g
  refine com_j2 s hs _ x ?_ hp
  by_cases h : (kA s).2.2 = true ∧ (kWA s).2.2.2.2 ≠ 2 ∧ (kC s).2.2 = true ∧ (kWC s).2.2.2.2 ≠ 2 ∧ (kE s).2.2 = true
  ·rw [if_pos h, if_pos (show kGood s from ⟨g1, g2, g3, h.1, h.2.1, h.2.2.1, h.2.2.2.1, h.2.2.2.2, g⟩)]
  ·rw [if_neg h, if_neg (fun q : kGood s => h ⟨q.2.2.2.1, q.2.2.2.2.1, q.2.2.2.2.2.1, q.2.2.2.2.2.2.1, q.2.2.2.2.2.2.2.1⟩)]
 ·rw [qgf_]
  simp only [Option.bind_some]
  refine com_j2 s hs _ x ?_ hp
  rw [if_neg (fun q : kGood s => g (by rw [qhm_]; exact q.2.2.2.2.2.2.2.2))]
theorem lineF_take {u p : List UInt8} (h : (lineF u p).2.2 = true) : u.take p.length = p := by
 rw [lineF_text h]
 exact qhd_ _ _ _ rfl
theorem com_l0 (s : ByteArray) (hs : s.size ≤ 4294967000) (g1 : (k1 s).2.2 = true) (g2 : idOk (mk (k1 s).1) = true) (an am : ByteArray) (aq az : Int) (cn cm : ByteArray) (cq cz : Int) (x : ByteArray) : ∀ (n : Nat) (u : List UInt8) (acc : List ByteArray), u.length ≤ n → acc.length + n ≤ 4294967000 →
  (parF n u).2.2 = (kp s).2.2 → ((parF n u).2.2 = true → (parF n u).2.1 = (kp s).2.1 ∧ acc ++ (parF n u).1 = (kp s).1) → Ev (fun k => ql_.l0 k (mk u) 0 (mk (k1 s).1) acc an am aq az cn cm cq cz x) (qdq_ s)
 | n, u, acc, hu, ha, q1, q2 => by
  have hp : (kp s).1.length ≤ 140737488351232 := by
   have := parF_num s.size (k1 s).2.1
   change (kp s).1.length ≤ _ at this
   omega
  have two : ¬ kGood s → qdq_ s = noCom 2 := fun h => by unfold qdq_; rw [if_neg h]
  refine Ev.step (f := ?_) (fun k => by rw [ql_.l0, if_pos rfl, qgb_, Option.bind_some, qdv_]) ?_
  change Ev (fun k => if decide (u.take PAR.length = PAR) = true then (qbq_.f k (mk u) 0 ⟨#[112, 97, 114, 101, 110, 116, 32]⟩).bind _ else _) _
  by_cases hpre : u.take PAR.length = PAR
  ·rw [decide_eq_true hpre]
   refine qbi_ rfl ?_
   refine Ev.bind (id_ev (mk u) 0 ⟨#[112, 97, 114, 101, 110, 116, 32]⟩ (by rw [qco_]; omega)) ?_
   rw [qdv_]
   change Ev (fun k => if acc.length < 8796093022208 then ql_.l0 k (mk (lineF u PAR).2.1) (if (lineF u PAR).2.2 = true ∧ idOk (mk (lineF u PAR).1) = true then 0 else 2) (mk (k1 s).1) (acc ++ [mk (lineF u PAR).1]) an am aq az cn cm cq cz x else _) _
   refine qbi_ (by omega) ?_
   have hlen := qef_ u PAR
   have bad : ∀ (l : List ByteArray), Ev (fun k => ql_.l0 k (mk (lineF u PAR).2.1) 2 (mk (k1 s).1) l an am aq az cn cm cq cz x) (noCom 2) := fun l =>
    Ev.step (f := ?_) (fun k => by rw [ql_.l0, if_neg (by decide)]) (com_j1_two _ _ _ _ _ _ _ _ _ _ _ (mk (lineF u PAR).2.1) (by rw [qco_]; omega))
   cases n with
   | zero =>
    exfalso
    have : u = [] := List.length_eq_zero_iff.1 (by omega)
    rw [this] at hpre
    exact absurd hpre (by decide)
   | succ n =>
    rw [parF] at q1 q2
    cases ok : (lineF u PAR).2.2 with
    | false =>
     rw [if_neg (fun h : false = true ∧ _ => by cases h.1)]
     rw [ok, if_neg (by decide)] at q1 q2
     refine ev_eq (bad _) (two (fun hg => ?_)).symm
     have := (q2 rfl).1
     have h4 := hg.2.2.2.1
     unfold kA at h4
     rw [← this] at h4
     change (lineF u AUT).2.2 = true at h4
     rw [no_line hpre ok AUT] at h4
     cases h4
    | true =>
     rw [ok, if_pos rfl] at q1 q2
     by_cases hid : idOk (mk (lineF u PAR).1) = true
     ·rw [if_pos ⟨rfl, hid⟩]
      rw [if_pos hid] at q1 q2
      have := qhx_ ok
      refine com_l0 s hs g1 g2 an am aq az cn cm cq cz x n _ _ (by omega) (by rw [List.length_append]; simp only [List.length_cons, List.length_nil]; omega) q1 (fun z => ?_)
      obtain ⟨y1, y2⟩ := q2 z
      refine ⟨y1, ?_⟩
      rw [← y2, List.append_assoc]; rfl
     ·rw [if_neg (fun h => hid h.2)]
      rw [if_neg hid] at q1
      refine ev_eq (bad _) (two (fun hg => ?_)).symm
      have h3 := hg.2.2.1
      rw [← q1] at h3
      cases h3
  ·rw [decide_eq_false hpre]
   refine ev_no (by decide) ?_
   have no : (lineF u PAR).2.2 = false := by
    cases ok : (lineF u PAR).2.2 with
    | false => rfl
    | true => exact absurd (lineF_take ok) hpre
   have e : parF n u = ([], u, true) := by
    cases n with
    | zero => rfl
    | succ n => rw [parF, no, if_neg (by decide)]
   rw [e] at q1 q2
   obtain ⟨y1, y2⟩ := q2 rfl
   change u = _ at y1
   rw [List.append_nil] at y2
   rw [y1, y2]
   exact com_j1 s hs g1 g2 q1.symm hp an am aq az cn cm cq cz x
theorem Parse_ev (s : ByteArray) (hs : s.size ≤ 4294967000) : Ev (fun k => ql_.f k s) (qdq_ s) := by
 obtain ⟨l1, l2, l3, l4, l5, l6, l7, l8, l9⟩ := k_len s
 refine Ev.bind (id_ev s 0 ⟨#[116, 114, 101, 101, 32]⟩ (by omega)) ?_
 change Ev (fun k => ql_.l0 k (mk (k1 s).2.1) (if (k1 s).2.2 = true ∧ idOk (mk (k1 s).1) = true then 0 else 2) (mk (k1 s).1) [] ⟨#[]⟩ ⟨#[]⟩ 0 0 ⟨#[]⟩ ⟨#[]⟩ 0 0 ⟨#[]⟩) _
 by_cases h : (k1 s).2.2 = true ∧ idOk (mk (k1 s).1) = true
 ·rw [if_pos h]
  exact com_l0 s hs h.1 h.2 _ _ _ _ _ _ _ _ _ s.size (k1 s).2.1 [] l2 (by simpa using hs) rfl (fun _ => ⟨rfl, rfl⟩)
 ·rw [if_neg h]
  have : qdq_ s = noCom 2 := by unfold qdq_; rw [if_neg (fun g : kGood s => h ⟨g.1, g.2.1⟩)]
  rw [this]
  exact Ev.step (f := ?_) (fun k => by rw [ql_.l0, if_neg (by decide)]) (com_j1_two _ _ _ _ _ _ _ _ _ _ _ (mk (k1 s).2.1) (by rw [qco_]; omega))
theorem refK_at (s w : ByteArray) (p : List UInt8) (hwp : w.data.toList ++ [32] = p) (u : List UInt8) (hu : s.data.toList.drop (s.size - u.length) = u) (hs : s.size ≤ 4294967000) (hw : w.size ≤ 1000) :
  Ev (fun k => qba_.f k s ((s.size - u.length : Nat) : Int) w) (mk (lineF u p).1, ((s.size - (lineF u p).2.1.length : Nat) : Int), (lineF u p).2.2) ∧ s.data.toList.drop (s.size - (lineF u p).2.1.length) = (lineF u p).2.1 := by
 subst hwp
 exact qge_ s w _ u rfl hu hs hw
theorem qgm_ (s : ByteArray) (b : Bool) : howF s b = 0 ↔ ¬ (b = true ∧ (qbv_ s).2.2.2.2 ≠ 2) := by
 unfold howF
 constructor
 ·intro h g
  rw [if_pos g] at h
  split at h <;> cases h
 ·intro h
  rw [if_neg h]
theorem how_one (s : ByteArray) (b : Bool) (h : howF s b ≠ 0) : howF s b = 1 ↔ (qbv_ s).2.2.2.2 = 1 := by
 have g : b = true ∧ (qbv_ s).2.2.2.2 ≠ 2 := Classical.byContradiction fun q => h ((qgm_ s b).2 q)
 unfold howF
 rw [if_pos g]
 rcases qgj_ s with w | w | w
 ·rw [w]; decide
 ·rw [w]; decide
 ·exact absurd w g.2
section
variable (s : ByteArray) (hs : s.size ≤ 4294967000) (an am : ByteArray) (aq az : Int) (cn cm : ByteArray) (cq cz : Int) (x : ByteArray)
include hs
theorem refcom_j3 (y : Int) (hy : y = ((s.size - (kC s).2.1.length : Nat) : Int)) (hu : s.data.toList.drop (s.size - (kC s).2.1.length) = (kC s).2.1) (hg : kGood s) (b : Bool) (hb : b = decide ((kWA s).2.2.2.2 = 1 ∨ (kWC s).2.2.2.2 = 1)) :
  Ev (fun k => qk_.j3 k s y b (mk (k1 s).1) (kp s).1 an am aq az cn cm cq cz x (kWA s).1 (kWA s).2.1 (kWA s).2.2.1 (kWA s).2.2.2.1 (kWC s).1 (kWC s).2.1 (kWC s).2.2.1 (kWC s).2.2.2.1) (qdq_ s) := by
 obtain ⟨l1, l2, l3, l4, l5, l6, l7, l8, l9⟩ := k_len s
 obtain ⟨w1, w2, w3, w4⟩ := k_who_len s
 have hp : (kp s).1.length ≤ 140737488351232 := by
  have := parF_num s.size (k1 s).2.1
  change (kp s).1.length ≤ _ at this
  omega
 refine Ev.step (f := ?_) (fun k => by rw [qk_.j3]) ?_
 unfold qdq_
 rw [if_pos hg]
 by_cases h1 : (kWA s).2.2.2.2 = 1 ∨ (kWC s).2.2.2.2 = 1
 ·rw [decide_eq_true h1] at hb
  subst hb
  rw [if_pos h1]
  exact qbi_ rfl (Ev.now _)
 ·rw [decide_eq_false h1] at hb
  subst hb
  rw [if_neg h1]
  refine ev_no (by decide) ?_
  have h10 := qgg_ (kC s).2.1 ⟨hg.2.2.2.2.2.2.2.1, hg.2.2.2.2.2.2.2.2⟩
  change (kC s).2.1 = 10 :: (kE s).2.1 at h10
  have hlen := congrArg List.length h10
  rw [List.length_cons] at hlen
  have e1 : wrap64 (y + 1) = ((s.size - (kE s).2.1.length : Nat) : Int) := by rw [hy, qbd_ (by omega) (by omega)]; omega
  have e2 : s.extract (s.size - (kE s).2.1.length) s.size = mk (kE s).2.1 := by
   have q : s.data.toList.drop (s.size - (kE s).2.1.length) = (kE s).2.1 := by
    rw [show s.size - (kE s).2.1.length = s.size - (kC s).2.1.length + 1 by omega, ← List.drop_drop, hu, h10]; rfl
   rw [ext_mk, q, List.take_of_length_le (by omega)]
  rw [e1]
  refine qbi_ (by omega) (qbi_ (by omega) ?_)
  simp only [Int.toNat_natCast, e2]
  refine Ev.bind (qho_ _ _ _ _ _ _ _ _ _ _ _ hp (by omega) (by omega) (by omega) (by omega) (by rw [qco_]; omega)) ?_
  change Ev (fun k => if kCheck s = 0 then _ else _) _
  refine qm_ (fun g => ?_) (fun g => ?_)
  ·rw [if_pos g]; exact Ev.now _
  ·rw [if_neg g]; exact Ev.now _
theorem refcom_j2 (m n y : Int) (hy : y = ((s.size - (kC s).2.1.length : Nat) : Int)) (hu : s.data.toList.drop (s.size - (kC s).2.1.length) = (kC s).2.1) (hg : kGood s) (hm : m = howF (mk (kA s).1) (kA s).2.2) (hn : n = howF (mk (kC s).1) (kC s).2.2) :
  Ev (fun k => qk_.j2 k s m y n false (mk (k1 s).1) (kp s).1 an am aq az cn cm cq cz x (kWA s).1 (kWA s).2.1 (kWA s).2.2.1 (kWA s).2.2.2.1 (kWC s).1 (kWC s).2.1 (kWC s).2.2.1 (kWC s).2.2.2.1) (qdq_ s) := by
 have a0 : howF (mk (kA s).1) (kA s).2.2 ≠ 0 := fun h => (qgm_ _ _).1 h ⟨hg.2.2.2.1, hg.2.2.2.2.1⟩
 have c0 : howF (mk (kC s).1) (kC s).2.2 ≠ 0 := fun h => (qgm_ _ _).1 h ⟨hg.2.2.2.2.2.1, hg.2.2.2.2.2.2.1⟩
 have a1 : m = 1 ↔ (kWA s).2.2.2.2 = 1 := by rw [hm]; exact how_one _ _ a0
 have c1 : n = 1 ↔ (kWC s).2.2.2.2 = 1 := by rw [hn]; exact how_one _ _ c0
 refine Ev.step (f := ?_) (fun k => by rw [qk_.j2, if_neg (by decide)]) (qm_ (fun g => ?_) (fun g => ?_))
 ·exact refcom_j3 s hs an am aq az cn cm cq cz x y hy hu hg true (decide_eq_true (Or.inl (a1.1 g))).symm
 ·refine refcom_j3 s hs an am aq az cn cm cq cz x y hy hu hg _ ?_
  by_cases q : n = 1
  ·rw [decide_eq_true (Or.inr (c1.1 q))]; exact beq_iff_eq.2 q
  ·rw [decide_eq_false (fun z => z.elim (fun z => g (a1.2 z)) (fun z => q (c1.2 z)))]; exact beq_eq_false_iff_ne.2 q
theorem refcom_end (hu : s.data.toList.drop (s.size - (kp s).2.1.length) = (kp s).2.1) (g1 : (k1 s).2.2 = true) (g2 : idOk (mk (k1 s).1) = true) (g3 : (kp s).2.2 = true) (z : ByteArray) (y : Int) :
  Ev (fun k => qk_.l0 k s ((s.size - (kp s).2.1.length : Nat) : Int) z y false (mk (k1 s).1) (kp s).1 an am aq az cn cm cq cz x) (qdq_ s) := by
 obtain ⟨l1, l2, l3, l4, l5, l6, l7, l8, l9⟩ := k_len s
 have two : ¬ kGood s → qdq_ s = noCom 2 := fun h => by unfold qdq_; rw [if_neg h]
 obtain ⟨r1, d1⟩ := refK_at s ⟨#[97, 117, 116, 104, 111, 114]⟩ AUT rfl (kp s).2.1 hu hs (show 6 ≤ 1000 by omega)
 change Ev _ (mk (kA s).1, ((s.size - (kA s).2.1.length : Nat) : Int), (kA s).2.2) at r1
 change s.data.toList.drop (s.size - (kA s).2.1.length) = (kA s).2.1 at d1
 obtain ⟨r2, d2⟩ := refK_at s ⟨#[99, 111, 109, 109, 105, 116, 116, 101, 114]⟩ COM rfl (kA s).2.1 d1 hs (show 9 ≤ 1000 by omega)
 change Ev _ (mk (kC s).1, ((s.size - (kC s).2.1.length : Nat) : Int), (kC s).2.2) at r2
 change s.data.toList.drop (s.size - (kC s).2.1.length) = (kC s).2.1 at d2
 refine Ev.step (f := ?_) (fun k => by rw [qk_.l0, if_neg (by decide)]) ?_
 refine Ev.bind r1 (Ev.bind (refwho_ev (mk (kA s).1) (kA s).2.2 (by rw [qco_]; omega)) (Ev.bind r2 (Ev.bind (refwho_ev (mk (kC s).1) (kC s).2.2 (by rw [qco_]; omega)) ?_)))
 change Ev (fun k => if howF (mk (kA s).1) (kA s).2.2 = 0 then qk_.j2 k s (howF (mk (kA s).1) (kA s).2.2) ((s.size - (kC s).2.1.length : Nat) : Int) (howF (mk (kC s).1) (kC s).2.2) true _ _ _ _ _ _ _ _ _ _ _ _ _ _ _ _ _ _ _ else _) _
 have badj : ∀ (m n y : Int) (a : ByteArray) (l : List ByteArray) (b c : ByteArray) (o r : Int) (d e : ByteArray) (t u : Int) (f g h : ByteArray) (v w : Int) (i j : ByteArray) (p q : Int), Ev (fun k => qk_.j2 k s m y n true a l b c o r d e t u f g h v w i j p q) (noCom 2) :=
  fun _ _ _ _ _ _ _ _ _ _ _ _ _ _ _ _ _ _ _ _ _ _ => Ev.step (f := ?_) (fun k => by rw [qk_.j2, if_pos rfl]) (Ev.now _)
 refine qm_ (fun h => ev_eq (badj ..) (two (fun hg => (qgm_ _ _).1 h ⟨hg.2.2.2.1, hg.2.2.2.2.1⟩)).symm) (fun ha => ?_)
 refine qm_ (fun h => ev_eq (badj ..) (two (fun hg => (qgm_ _ _).1 h ⟨hg.2.2.2.2.2.1, hg.2.2.2.2.2.2.1⟩)).symm) (fun hc => ?_)
 have ga : (kA s).2.2 = true ∧ (kWA s).2.2.2.2 ≠ 2 := Classical.byContradiction fun q => ha ((qgm_ _ _).2 q)
 have gc : (kC s).2.2 = true ∧ (kWC s).2.2.2.2 ≠ 2 := Classical.byContradiction fun q => hc ((qgm_ _ _).2 q)
 refine qm_ (fun h => ev_eq (badj ..) (two (fun hg => ?_)).symm) (fun hd => ?_)
 ·have h' : ((s.size - (kC s).2.1.length : Nat) : Int) ≥ (s.size : Int) := h
  have h10 := congrArg List.length (qgg_ (kC s).2.1 ⟨hg.2.2.2.2.2.2.2.1, hg.2.2.2.2.2.2.2.2⟩)
  rw [List.length_cons] at h10
  omega
 have hd' : ¬ ((s.size - (kC s).2.1.length : Nat) : Int) ≥ (s.size : Int) := hd
 clear hd
 refine qbi_ (Int.natCast_nonneg _) (qbi_ (Int.not_le.1 hd') ?_)
 cases hr : (kC s).2.1 with
 | nil => rw [hr] at hd'; exact absurd (by simp) hd'
 | cons c r =>
  have d3 := d2
  rw [hr] at d3
  have hb : bt s ((s.size - (c :: r).length : Nat) : Int) = (c.toNat : Int) := (qfh_ d3).2.1
  by_cases h10 : c = 10
  ·subst h10
   have eE : kE s = ([], r, true) := by unfold kE; rw [hr]; exact lineF_cons r
   have hg : kGood s := ⟨g1, g2, g3, ga.1, ga.2, gc.1, gc.2, by rw [eE], by rw [eE]⟩
   have := refcom_j2 s hs an am aq az cn cm cq cz x _ _ _ rfl d2 hg rfl rfl
   rw [hr] at this
   rw [hb]
   exact this
  ·have hn : c.toNat ≠ 10 := fun h => h10 (UInt8.toNat_inj.1 h)
   rw [hb, bne_iff_ne.2 (by omega)]
   refine ev_eq (badj ..) (two (fun hg => ?_)).symm
   have q := qgg_ (kC s).2.1 ⟨hg.2.2.2.2.2.2.2.1, hg.2.2.2.2.2.2.2.2⟩
   rw [hr] at q
   exact h10 (List.cons.inj q).1
theorem refcom_l0 (g1 : (k1 s).2.2 = true) (g2 : idOk (mk (k1 s).1) = true) : ∀ (n : Nat) (u : List UInt8) (acc : List ByteArray), u.length ≤ n → acc.length + n ≤ 4294967000 → s.data.toList.drop (s.size - u.length) = u →
  (parF n u).2.2 = (kp s).2.2 → ((parF n u).2.2 = true → (parF n u).2.1 = (kp s).2.1 ∧ acc ++ (parF n u).1 = (kp s).1) →
  Ev (fun k => qk_.l0 k s ((s.size - u.length : Nat) : Int) (mk (lineF u PAR).1) ((s.size - (lineF u PAR).2.1.length : Nat) : Int) (lineF u PAR).2.2 (mk (k1 s).1) acc an am aq az cn cm cq cz x) (qdq_ s)
 | n, u, acc, hl, ha, hu, q1, q2 => by
  have two : ¬ kGood s → qdq_ s = noCom 2 := fun h => by unfold qdq_; rw [if_neg h]
  cases ok : (lineF u PAR).2.2 with
  | false =>
   have e : parF n u = ([], u, true) := by
    cases n with
    | zero => rfl
    | succ n => rw [parF, ok, if_neg (by decide)]
   rw [e] at q1 q2
   obtain ⟨y1, y2⟩ := q2 rfl
   change u = _ at y1
   rw [List.append_nil] at y2
   rw [y1] at hu
   rw [y1, y2]
   exact refcom_end s hs an am aq az cn cm cq cz x hu g1 g2 q1.symm _ _
  | true =>
   have less := qhx_ ok
   cases n with
   | zero => exfalso; omega
   | succ n =>
    rw [parF, ok, if_pos rfl] at q1 q2
    refine Ev.step (f := ?_) (fun k => by rw [qk_.l0, if_pos rfl]) ?_
    refine Ev.bind (qfe_ _) (qm_ (fun hid => ?_) (fun hid => ?_))
    ·rw [if_pos hid] at q1 q2
     refine qbi_ (by omega) ?_
     obtain ⟨r1, d1⟩ := refK_at s ⟨#[112, 97, 114, 101, 110, 116]⟩ PAR rfl u hu hs (show 6 ≤ 1000 by omega)
     obtain ⟨r2, d2⟩ := refK_at s ⟨#[112, 97, 114, 101, 110, 116]⟩ PAR rfl (lineF u PAR).2.1 d1 hs (show 6 ≤ 1000 by omega)
     refine Ev.bind r2 ?_
     refine refcom_l0 g1 g2 n (lineF u PAR).2.1 _ (by omega) (by rw [List.length_append]; simp only [List.length_cons, List.length_nil]; omega) d1 q1 (fun z => ?_)
     obtain ⟨y1, y2⟩ := q2 z
     refine ⟨y1, ?_⟩
     rw [← y2, List.append_assoc]; rfl
    ·rw [if_neg hid] at q1
     refine ev_eq (Ev.now _) (two (fun hg => ?_)).symm
     have h3 := hg.2.2.1
     rw [← q1] at h3
     cases h3
theorem refParse_ev : Ev (fun k => qk_.f k s) (qdq_ s) := by
 obtain ⟨l1, l2, l3, l4, l5, l6, l7, l8, l9⟩ := k_len s
 have d0 : s.data.toList.drop (s.size - s.data.toList.length) = s.data.toList := by rw [qcg_, Nat.sub_self, List.drop_zero]
 obtain ⟨r1, d1⟩ := refK_at s ⟨#[116, 114, 101, 101]⟩ TRE rfl s.data.toList d0 hs (show 4 ≤ 1000 by omega)
 rw [qcg_, Nat.sub_self] at r1
 change Ev _ (mk (k1 s).1, ((s.size - (k1 s).2.1.length : Nat) : Int), (k1 s).2.2) at r1
 change s.data.toList.drop (s.size - (k1 s).2.1.length) = (k1 s).2.1 at d1
 refine Ev.bind r1 ?_
 have bad : ¬ ((k1 s).2.2 = true ∧ idOk (mk (k1 s).1) = true) → ∀ (y : Int) (z : ByteArray), Ev (fun k => qk_.j0 k s z y true ⟨#[]⟩ ⟨#[]⟩ ⟨#[]⟩ 0 0 ⟨#[]⟩ ⟨#[]⟩ 0 0 ⟨#[]⟩) (qdq_ s) := fun h y z => by
  have : qdq_ s = noCom 2 := by unfold qdq_; rw [if_neg (fun g : kGood s => h ⟨g.1, g.2.1⟩)]
  rw [this]
  exact Ev.step (f := ?_) (fun k => by rw [qk_.j0, if_pos rfl]) (Ev.now _)
 refine qm_ (fun g1 => ?_) (fun g1 => bad (fun h => g1 h.1) _ _)
 refine Ev.bind (qfe_ _) ?_
 cases g2 : idOk (mk (k1 s).1) with
 | false => exact bad (fun h => by have := h.2; rw [g2] at this; cases this) _ _
 | true =>
  refine Ev.step (f := ?_) (fun k => by rw [qk_.j0, if_neg (by decide)]) ?_
  obtain ⟨r2, d2⟩ := refK_at s ⟨#[112, 97, 114, 101, 110, 116]⟩ PAR rfl (k1 s).2.1 d1 hs (show 6 ≤ 1000 by omega)
  refine Ev.bind r2 ?_
  exact refcom_l0 s hs ⟨#[]⟩ ⟨#[]⟩ 0 0 ⟨#[]⟩ ⟨#[]⟩ 0 0 ⟨#[]⟩ g1 g2 s.size (k1 s).2.1 [] l2 (by simpa using hs) d1 rfl (fun _ => ⟨rfl, rfl⟩)
end
attribute [local go_sem] qen_ qem_ qey_ qex_ qee_ qeg_ qel_ qek_
attribute [local go_sem high] eqA24
section
variable (t : ByteArray) (l : List ByteArray) (an am : ByteArray) (aq az : Int) (cn cm : ByteArray) (cq cz : Int) (x : ByteArray)
end
theorem same_l0 (a b : List ByteArray) (hl : a.length = b.length) (hb : a.length ≤ 140737488351232) : ∀ (d i : Nat), i + d = a.length → Ev (fun k => qch_.l0 k a b i) (decide (a.drop i = b.drop i))
 | 0, i, h => by
  rw [List.drop_of_length_le (by omega), List.drop_of_length_le (by omega)]
  exact Ev.step (f := ?_) (fun k => by rw [qch_.l0, if_neg (by omega)]) (Ev.now _)
 | d + 1, i, h => by
  have hi : i < a.length := by omega
  have hj : i < b.length := by omega
  refine Ev.step (f := ?_) (fun k => by rw [qch_.l0, if_pos (by omega), if_pos (by omega), if_pos (by omega), qfa_ a i hi, qfa_ b i hj, qej_ i (by omega)]) ?_
  rw [List.drop_eq_getElem_cons hi, List.drop_eq_getElem_cons hj]
  refine qm_ (fun g => ev_eq (same_l0 a b hl hb d (i + 1) (by omega)) ?_) (fun g => ev_eq (Ev.now _) ?_)
  ·have e : a[i] = b[i] := ba_ext (by rw [← ByteArray.toList_eq, ← ByteArray.toList_eq]; exact g)
   rw [e]
   exact decide_eq_decide.2 ⟨fun z => by rw [z], fun z => (List.cons.inj z).2⟩
  ·exact (decide_eq_false (fun z => g (by rw [(List.cons.inj z).1]))).symm
theorem same_ev (a b : List ByteArray) (hb : a.length ≤ 140737488351232) : Ev (fun k => qch_.f k a b) (decide (a = b)) := by
 refine qm_ (fun g => ?_) (fun g => ev_eq (Ev.now _) ?_)
 ·exact same_l0 a b (by omega) hb a.length 0 (by omega)
 ·exact (decide_eq_false (fun z => g (by rw [z]))).symm
end
end Go.Proofs.YtbhfbbfjdklfgaaGreatDoor.Q
namespace Go.Proofs.YtbhfbbfjdklfgaaGreatDoor.Q.Tr
open Go.RowKit Go.Proofs.YtbhfbbfjdklfgaaGreatDoor.Q YtbhfbbfjdklfgaaGreatDoorW.PrintWords YtbhfbbfjdklfgaaGreatDoorW.PrintLast YtbhfbbfjdklfgaaGreatDoorW.PrintMore
theorem qm_ {α : Type} {c : Prop} [Decidable c] {f g : Nat → Option α} {r : α} (h1 : c → Ev f r) (h2 : ¬ c → Ev g r) : Ev (fun k => if c then f k else g k) r := by
  by_cases h : c
  · simp only [if_pos h]; exact h1 h
  · simp only [if_neg h]; exact h2 h
theorem rd108_get (l : List S108) (i : Nat) (h : i < l.length) : qd_ l i = l[i] := by
  simp [qd_, List.getD, List.getElem?_eq_getElem h]
def ixF (l : List UInt8) (c : UInt8) (i : Nat) : Int := if Lib.indexByte (l.drop i) c = -1 then -1 else Lib.indexByte (l.drop i) c + i
theorem ix_step (x c : UInt8) (q : Int) (i : Nat) (hge : -1 ≤ q) (T : Option Int) (hT : T = some (if q = -1 then -1 else q + ((i + 1 : Nat) : Int))) :
    (if (x.toNat : Int) = (c.toNat : Int) then some (i : Int) else T) = some (if (if (x == c) = true then 0 else if (q == -1) = true then -1 else q + 1) = -1 then -1 else (if (x == c) = true then 0 else if (q == -1) = true then -1 else q + 1) + (i : Int)) := by
  by_cases h : x = c
  · rw [if_pos (by rw [h])]
    simp [h]
  · rw [if_neg (fun e => h (UInt8.toNat_inj.1 (by exact_mod_cast e))), hT]
    have hb : (x == c) = false := by simpa using h
    simp only [hb, Bool.false_eq_true, if_false, beq_iff_eq]
    by_cases h2 : q = -1
    · simp [h2]
    · simp only [h2, if_false]
      rw [if_neg (by omega)]
      congr 1; omega
theorem Find_l0 (s : ByteArray) (hs : s.size ≤ 140737488351232) (c : UInt8) : ∀ (d k i : Nat), i + d = s.size → d < k → qak_.l0 k s (c.toNat : Int) i = some (ixF s.data.toList c i) := by
  intro d
  induction d with
  | zero =>
    intro k i hi hk
    obtain ⟨k, rfl⟩ : ∃ m, k = m + 1 := ⟨k - 1, by omega⟩
    simp only [qak_.l0]
    rw [if_neg (by omega)]
    have : s.data.toList.drop i = [] := List.drop_of_length_le (by rw [← Lib.size_eq]; omega)
    unfold ixF; rw [this]; rfl
  | succ d ih =>
    intro k i hi hk
    obtain ⟨k, rfl⟩ : ∃ m, k = m + 1 := ⟨k - 1, by omega⟩
    have := ih k (i + 1) (by omega) (by omega)
    have hl : i < s.data.toList.length := by rw [← Lib.size_eq]; omega
    have hd : s.data.toList.drop i = s.data.toList[i] :: s.data.toList.drop (i + 1) := List.drop_eq_getElem_cons hl
    have hge := Lib.indexByte_ge (s.data.toList.drop (i + 1)) c
    simp only [qak_.l0]
    rw [if_pos (by omega), if_pos (by omega), bt_get s i (by omega), qbd_ (by omega) (by omega)]
    unfold ixF at this ⊢
    rw [hd]
    simp only [Lib.indexByte]
    exact ix_step _ _ _ i hge _ (by exact_mod_cast this)
theorem Find_ev (s : ByteArray) (hs : s.size ≤ 140737488351232) (c : UInt8) (i : Nat) (hi : i ≤ s.size) : Ev (fun k => qak_.f k s (c.toNat : Int) i) (ixF s.data.toList c i) := by
  refine Ev.of (fun k => qak_.mono s _ _ k) (k := s.size + 1) ?_
  exact Find_l0 s hs c (s.size - i) _ i (by omega) (by omega)
theorem qgd_ (c : UInt8) : ∀ l : List UInt8, Lib.index l [c] = Lib.indexByte l c
  | [] => rfl
  | b :: l => by
    have ih := qgd_ c l
    by_cases h : b = c
    · subst h
      rw [qff_ (by simp [List.isPrefixOf])]
      simp [Lib.indexByte]
    · rw [qhz_ b c l h, ih]
      simp [Lib.indexByte, h]
theorem path_size0 {s : ByteArray} (h : isPath s = true) : s.size ≤ 255 := by
  unfold isPath at h
  simp only [Bool.and_eq_true, decide_eq_true_eq] at h
  exact h.1.2
def no47 (s : ByteArray) : Bool := decide (Lib.indexByte s.data.toList 47 < 0)
def mayB (e : S108) : Bool := decide (1 ≤ e.f0) && (decide (e.f0 ≤ 4) && (isPath e.f1 && (no47 e.f1 && idOk e.f2)))
theorem may_ev (e : S108) : Ev (fun k => qed_.f k e.f0 e.f1 e.f2) (mayB e) := by
  unfold mayB
  refine qm_ (fun h1 => qm_ (fun h2 => ?_) (fun h2 => ?_)) (fun h1 => ?_)
  · rw [decide_eq_true (show 1 ≤ e.f0 from h1), decide_eq_true h2, Bool.true_and, Bool.true_and]
    refine Ev.bind (path_Is_ev e.f1) (qm_ (fun h3 => ?_) (fun h3 => ?_))
    · rw [h3, Bool.true_and]
      have hc : qcu_.f e.f1 ⟨#[47]⟩ = some (!no47 e.f1) := by
        unfold qcu_.f Lib.contains
        rw [if_pos (by have := path_size0 h3; omega)]
        unfold no47
        show some (decide (0 ≤ Lib.index e.f1.data.toList [47])) = _
        rw [qgd_]
        congr 1
        rw [← decide_not]
        apply decide_eq_decide.2
        omega
      rw [hc]
      simp only [Option.bind_some]
      by_cases h4 : no47 e.f1 = true
      · simp only [h4, Bool.not_true, Bool.false_eq_true, if_false, Bool.true_and]
        exact Ev.bind (qgn_ e.f2) (Ev.now _)
      · rw [Bool.not_eq_true] at h4
        simp only [h4, Bool.not_false, if_true, Bool.false_and]
        exact Ev.now _
    · rw [Bool.not_eq_true] at h3
      rw [h3, Bool.false_and]; exact Ev.now _
  · rw [decide_eq_false (show ¬ e.f0 ≤ 4 from h2), Bool.false_and, Bool.and_false]; exact Ev.now _
  · rw [decide_eq_false (show ¬ 1 ≤ e.f0 from h1), Bool.false_and]; exact Ev.now _
theorem May_ev (e : S108) (hs : e.f1.size ≤ 4294967280) : Ev (fun k => qdw_.f k e.f0 e.f1 e.f2) (mayB e) := by
  unfold mayB
  refine qm_ (fun h1 => qm_ (fun h2 => ?_) (fun h2 => ?_)) (fun h1 => ?_)
  · rw [decide_eq_true (show 1 ≤ e.f0 from h1), decide_eq_true h2, Bool.true_and, Bool.true_and]
    refine Ev.bind (ref_Is_ev e.f1 hs) (qm_ (fun h3 => ?_) (fun h3 => ?_))
    · rw [h3, Bool.true_and]
      refine Ev.bind (Find_ev e.f1 (by omega) 47 0 (by omega)) ?_
      have hix : (ixF e.f1.data.toList 47 0 < 0) ↔ (no47 e.f1 = true) := by
        unfold ixF no47
        rw [List.drop_zero, decide_eq_true_eq]
        have := Lib.indexByte_ge e.f1.data.toList 47
        split
        · rename_i h; simp [h]
        · simp
      by_cases h4 : no47 e.f1 = true
      · simp only [if_pos (hix.2 h4), h4, Bool.true_and]
        exact Ev.bind (qfe_ e.f2) (Ev.now _)
      · simp only [if_neg (fun h => h4 (hix.1 h))]
        rw [Bool.not_eq_true] at h4
        rw [h4, Bool.false_and]
        exact Ev.now _
    · rw [Bool.not_eq_true] at h3
      rw [h3, Bool.false_and]; exact Ev.now _
  · rw [decide_eq_false (show ¬ e.f0 ≤ 4 from h2), Bool.false_and, Bool.and_false]; exact Ev.now _
  · rw [decide_eq_false (show ¬ 1 ≤ e.f0 from h1), Bool.false_and]; exact Ev.now _
def keyB (m : Int) (s : ByteArray) : ByteArray := if m = 4 then s ++ ⟨#[47]⟩ else s
def lessB (a b : S108) : Bool := Op.bytesLess (keyB a.f0 a.f1).toList (keyB b.f0 b.f1).toList
theorem key_eq (m : Int) (s i : ByteArray) (hs : s.size ≤ 140737488351232) : qfk_.f m s i = some (keyB m s) := by
  unfold qfk_.f keyB
  by_cases h : m = 4
  · rw [if_pos h, if_pos h, if_pos (by omega)]
  · rw [if_neg h, if_neg h]
theorem Less_eq (a b : S108) (ha : a.f1.size ≤ 140737488351232) (hb : b.f1.size ≤ 140737488351232) : qfc_.f a.f0 a.f1 a.f2 b.f0 b.f1 b.f2 = some (lessB a b) := by
  unfold qfc_.f lessB
  rw [key_eq _ _ _ ha]
  simp only [Option.bind_some]
  rw [key_eq _ _ _ hb]
  rfl
theorem ref_Less_eq (a b : S108) (ha : a.f1.size ≤ 140737488351232) (hb : b.f1.size ≤ 140737488351232) : qds_.f a.f0 a.f1 a.f2 b.f0 b.f1 b.f2 = some (lessB a b) := Less_eq a b ha hb
def z108' : S108 := ⟨0, ⟨#[]⟩, ⟨#[]⟩⟩
def at108 (l : List S108) (i : Nat) : S108 := qd_ l i
def cnt (l : List S108) (x : List UInt8) : Nat → Int
  | 0 => 0
  | n + 1 => cnt l x n + (if (at108 l n).f1.data.toList = x then 1 else 0)
theorem cnt_ge (l : List S108) (x : List UInt8) : ∀ n, 0 ≤ cnt l x n ∧ cnt l x n ≤ n
  | 0 => by simp [cnt]
  | n + 1 => by
    have := cnt_ge l x n
    unfold cnt
    split <;> omega
def dupF (l : List S108) (x : List UInt8) : Nat → Bool
  | 0 => false
  | n + 1 => dupF l x n || decide ((at108 l n).f1.data.toList = x)
theorem cnt_dup (l : List S108) (x : List UInt8) : ∀ n, decide (0 < cnt l x n) = dupF l x n
  | 0 => by simp [cnt, dupF]
  | n + 1 => by
    have ih := cnt_dup l x n
    have := cnt_ge l x n
    rw [cnt, dupF, ← ih]
    by_cases h : (at108 l n).f1.data.toList = x
    · rw [if_pos h, decide_eq_true h, Bool.or_true, decide_eq_true (by omega)]
    · rw [if_neg h, decide_eq_false h, Bool.or_false, Int.add_zero]
def cF (l : List S108) : Nat → Nat → Int
  | 0, _ => 0
  | d + 1, i => if mayB (at108 l i) = false then 1 else if (decide (0 < i) && !lessB (at108 l (i - 1)) (at108 l i)) = true then 150 else if dupF l (at108 l i).f1.data.toList i = true then 6 else cF l d (i + 1)
def qet_ (l : List S108) : Int := if l.length > 1024 then 4 else cF l l.length 0
structure MetI (l : List S108) (N : Nat) (m : MSI) : Prop where
  hn : m.n = N
  hf : ∀ x, (m.f x).getD 0 = cnt l x N
theorem MetI.put {l : List S108} {n : Nat} {m : MSI} (h : MetI l n m) (hn : n ≤ 1024) : MetI l (n + 1) (MSI.put m (at108 l n).f1 (wrap64 (MSI.get m (at108 l n).f1 + 1))) := by
  refine ⟨by simp [MSI.put, h.hn], fun x => ?_⟩
  have hc := cnt_ge l x n
  have hg : MSI.get m (at108 l n).f1 = cnt l (at108 l n).f1.data.toList n := h.hf _
  have hc2 := cnt_ge l (at108 l n).f1.data.toList n
  rw [hg, qbd_ (by omega) (by omega)]
  simp only [MSI.put]
  by_cases e : x = (at108 l n).f1.data.toList
  · rw [if_pos e, cnt, if_pos e.symm, e]; rfl
  · rw [if_neg e, cnt, if_neg (fun h => e h.symm), Int.add_zero]; exact h.hf x
theorem at_size (l : List S108) (hs : ∀ x ∈ l, x.f1.size ≤ 4294967280) (hn : l.length ≤ 1024) (i : Nat) (h : i < l.length) : (at108 l i).f1.size ≤ 4294967280 := by
  unfold at108; rw [rd108_get l i h]; exact hs _ (List.getElem_mem h)
section
variable (l : List S108) (hs : ∀ x ∈ l, x.f1.size ≤ 4294967280) (hn : l.length ≤ 1024)
include hs hn
theorem Check_l0 : ∀ (d i : Nat) (m : MSI), i + d = l.length → MetI l i m → Ev (fun k => qal_.l0 k l l l.length i m) (cF l d i) := by
  intro d
  induction d with
  | zero =>
    intro i m hi hm
    exact Ev.step (f := fun _ => some 0) (fun k => by rw [qal_.l0, if_neg (by omega)]) (Ev.now _)
  | succ d ih =>
    intro i m hi hm
    have hsz := at_size l hs hn i (by omega)
    have e0 : qd_ l (i : Int) = at108 l i := rfl
    refine Ev.step (f := fun k => (qed_.f k (at108 l i).f0 (at108 l i).f1 (at108 l i).f2).bind fun t104 => (if t104 = true then (if (i : Int) > 0 then (if 0 ≤ (wrap64 ((i : Int) - 1)) then (if (wrap64 ((i : Int) - 1)) < (l.length : Int) then ((qfc_.f ((qd_ l (wrap64 ((i : Int) - 1))).f0) ((qd_ l (wrap64 ((i : Int) - 1))).f1) ((qd_ l (wrap64 ((i : Int) - 1))).f2) (at108 l i).f0 (at108 l i).f1 (at108 l i).f2).bind fun t106 => (qal_.j1 k l l l.length i (!t106) (MSI.put m (at108 l i).f1 (wrap64 (MSI.get m (at108 l i).f1 + 1))) (at108 l i).f0 (at108 l i).f1 (at108 l i).f2)) else none) else none) else (qal_.j1 k l l l.length i false (MSI.put m (at108 l i).f1 (wrap64 (MSI.get m (at108 l i).f1 + 1))) (at108 l i).f0 (at108 l i).f1 (at108 l i).f2)) else (some 1))) (fun k => ?_) ?_
    · rw [qal_.l0, if_pos (by omega), if_pos (by omega), if_pos (by omega), e0, if_pos (by omega), if_pos (by rw [hm.hn]; omega)]
    · refine Ev.bind (may_ev (at108 l i)) ?_
      rw [cF]
      by_cases hmay : mayB (at108 l i) = true
      · simp only [hmay, if_true, Bool.true_eq_false, if_false]
        have hput := hm.put (by omega)
        have hJ : ∀ b : Bool, Ev (fun k => qal_.j1 k l l l.length i b (MSI.put m (at108 l i).f1 (wrap64 (MSI.get m (at108 l i).f1 + 1))) (at108 l i).f0 (at108 l i).f1 (at108 l i).f2) (if b = true then 150 else if dupF l (at108 l i).f1.data.toList i = true then 6 else cF l d (i + 1)) := by
          intro b
          refine Ev.step (f := fun k => if b = true then some 150 else (if MSI.get (MSI.put m (at108 l i).f1 (wrap64 (MSI.get m (at108 l i).f1 + 1))) (at108 l i).f1 > 1 then some 6 else qal_.l0 k l l l.length ((i : Int) + 1) (MSI.put m (at108 l i).f1 (wrap64 (MSI.get m (at108 l i).f1 + 1))))) (fun k => ?_) ?_
          · rw [qal_.j1, if_pos (show (at108 l i).f1.size ≤ 9223372036854775807 by omega), qbd_ (x := (i : Int) + 1) (by omega) (by omega)]
          · have hg : MSI.get (MSI.put m (at108 l i).f1 (wrap64 (MSI.get m (at108 l i).f1 + 1))) (at108 l i).f1 = cnt l (at108 l i).f1.data.toList (i + 1) := hput.hf _
            rw [hg, cnt, if_pos rfl, ← cnt_dup]
            refine qm_ (fun hb => ?_) (fun hb => ?_)
            · rw [if_pos hb]; exact Ev.now _
            · rw [if_neg hb]
              refine qm_ (fun hc => ?_) (fun hc => ?_)
              · rw [if_pos (decide_eq_true (by omega))]; exact Ev.now _
              · rw [if_neg (by rw [decide_eq_true_eq]; omega)]
                exact_mod_cast ih (i + 1) _ (by omega) hput
        refine qm_ (fun h0 => ?_) (fun h0 => ?_)
        · have e1 : wrap64 ((i : Int) - 1) = ((i - 1 : Nat) : Int) := by rw [qbd_ (by omega) (by omega)]; omega
          have hsz1 := at_size l hs hn (i - 1) (by omega)
          rw [e1]
          refine Ev.congr (f := fun k => qal_.j1 k l l l.length i (!lessB (at108 l (i - 1)) (at108 l i)) (MSI.put m (at108 l i).f1 (wrap64 (MSI.get m (at108 l i).f1 + 1))) (at108 l i).f0 (at108 l i).f1 (at108 l i).f2) (fun k => ?_) ?_
          · rw [if_pos (by omega), if_pos (by omega)]
            have := Less_eq (at108 l (i - 1)) (at108 l i) (by omega) (by omega)
            unfold at108 at this ⊢
            rw [this]; rfl
          · have := hJ (!lessB (at108 l (i - 1)) (at108 l i))
            rw [decide_eq_true (show 0 < i by omega), Bool.true_and]
            exact this
        · have := hJ false
          rw [decide_eq_false (show ¬ 0 < i by omega), Bool.false_and]
          exact this
      · rw [Bool.not_eq_true] at hmay
        simp only [hmay, Bool.false_eq_true, if_false, if_true]
        exact Ev.now _
end
theorem metI0 (l : List S108) : MetI l 0 MSI.nil := ⟨rfl, fun x => rfl⟩
theorem Check_ev (l : List S108) (hs : ∀ x ∈ l, x.f1.size ≤ 4294967280) : Ev (fun k => qal_.f k l) (qet_ l) := by
  unfold qet_
  refine qm_ (fun h => ?_) (fun h => ?_)
  · rw [if_pos (by omega)]; exact Ev.now _
  · rw [if_neg (by omega)]
    exact_mod_cast Check_l0 l hs (by omega) l.length 0 MSI.nil (by omega) (metI0 l)
theorem refDup_l1 (l : List S108) (hs : ∀ x ∈ l, x.f1.size ≤ 4294967280) (hn : l.length ≤ 1024) (i : Nat) (hi : i < l.length) (r : Int) (hr : Ev (fun k => qe_.l0 k l l.length ((i : Int) + 1)) r) : ∀ (d j : Nat), j + d = i → dupF l (at108 l i).f1.data.toList j = false →
    Ev (fun k => qe_.l1 k l i l.length i i j) (if dupF l (at108 l i).f1.data.toList i = true then 6 else r) := by
  intro d
  induction d with
  | zero =>
    intro j hj hd
    obtain rfl : j = i := by omega
    rw [hd]
    refine Ev.step (f := fun k => qe_.l0 k l l.length ((j : Int) + 1)) (fun k => by rw [qe_.l1, if_neg (by omega), qbd_ (by omega) (by omega)]) ?_
    simpa using hr
  | succ d ih =>
    intro j hj hd
    have e0 : qd_ l (i : Int) = at108 l i := rfl
    have e1 : qd_ l (j : Int) = at108 l j := rfl
    have mono : ∀ (n m : Nat), n ≤ m → dupF l (at108 l i).f1.data.toList n = true → dupF l (at108 l i).f1.data.toList m = true := by
      intro n m hnm h
      induction m with
      | zero =>
        obtain rfl : n = 0 := by omega
        exact h
      | succ m ih2 =>
        by_cases e : n = m + 1
        · rw [← e]; exact h
        · rw [dupF, ih2 (by omega), Bool.true_or]
    refine Ev.step (f := fun k => if (at108 l j).f1.toList = (at108 l i).f1.toList then some 6 else qe_.l1 k l i l.length i i ((j : Int) + 1)) (fun k => by rw [qe_.l1, if_pos (by omega), if_pos (by omega), if_pos (by omega), if_pos (by omega), if_pos (by omega), e0, e1, qbd_ (by omega) (by omega)]) ?_
    refine qm_ (fun h => ?_) (fun h => ?_)
    · rw [if_pos (mono (j + 1) i (by omega) (by rw [dupF, decide_eq_true (by rw [Lib.toList_data, Lib.toList_data] at h; exact h), Bool.or_true]))]
      exact Ev.now _
    · exact_mod_cast ih (j + 1) (by omega) (by rw [dupF, hd, decide_eq_false (by rw [Lib.toList_data, Lib.toList_data] at h; exact h)]; rfl)
section
variable (l : List S108) (hs : ∀ x ∈ l, x.f1.size ≤ 4294967280) (hn : l.length ≤ 1024)
include hs hn
theorem refCheck_l0 : ∀ (d i : Nat), i + d = l.length → Ev (fun k => qe_.l0 k l l.length i) (cF l d i) := by
  intro d
  induction d with
  | zero =>
    intro i hi
    exact Ev.step (f := fun _ => some 0) (fun k => by rw [qe_.l0, if_neg (by omega)]) (Ev.now _)
  | succ d ih =>
    intro i hi
    have hsz := at_size l hs hn i (by omega)
    have e0 : qd_ l (i : Int) = at108 l i := rfl
    refine Ev.step (f := fun k => (qdw_.f k (at108 l i).f0 (at108 l i).f1 (at108 l i).f2).bind fun t104 => (if t104 = true then (if (i : Int) > 0 then (if 0 ≤ (wrap64 ((i : Int) - 1)) then (if (wrap64 ((i : Int) - 1)) < (l.length : Int) then ((qds_.f ((qd_ l (wrap64 ((i : Int) - 1))).f0) ((qd_ l (wrap64 ((i : Int) - 1))).f1) ((qd_ l (wrap64 ((i : Int) - 1))).f2) (at108 l i).f0 (at108 l i).f1 (at108 l i).f2).bind fun t106 => (qe_.j1 k l i l.length i (!t106))) else none) else none) else (qe_.j1 k l i l.length i false)) else (some 1))) (fun k => ?_) ?_
    · rw [qe_.l0, if_pos (by omega), if_pos (by omega), if_pos (by omega), e0]
    · refine Ev.bind (May_ev (at108 l i) hsz) ?_
      rw [cF]
      by_cases hmay : mayB (at108 l i) = true
      · simp only [hmay, if_true, Bool.true_eq_false, if_false]
        have hJ : ∀ b : Bool, Ev (fun k => qe_.j1 k l i l.length i b) (if b = true then 150 else if dupF l (at108 l i).f1.data.toList i = true then 6 else cF l d (i + 1)) := by
          intro b
          refine Ev.step (f := fun k => if b = true then some 150 else qe_.l1 k l i l.length i i 0) (fun k => by rw [qe_.j1]) ?_
          refine qm_ (fun hb => ?_) (fun hb => ?_)
          · rw [if_pos hb]; exact Ev.now _
          · rw [if_neg hb]
            exact_mod_cast refDup_l1 l hs hn i (by omega) _ (by exact_mod_cast ih (i + 1) (by omega)) i 0 (by omega) rfl
        refine qm_ (fun h0 => ?_) (fun h0 => ?_)
        · have e1 : wrap64 ((i : Int) - 1) = ((i - 1 : Nat) : Int) := by rw [qbd_ (by omega) (by omega)]; omega
          have hsz1 := at_size l hs hn (i - 1) (by omega)
          rw [e1]
          refine Ev.congr (f := fun k => qe_.j1 k l i l.length i (!lessB (at108 l (i - 1)) (at108 l i))) (fun k => ?_) ?_
          · rw [if_pos (by omega), if_pos (by omega)]
            have := ref_Less_eq (at108 l (i - 1)) (at108 l i) (by omega) (by omega)
            unfold at108 at this ⊢
            rw [this]; rfl
          · have := hJ (!lessB (at108 l (i - 1)) (at108 l i))
            rw [decide_eq_true (show 0 < i by omega), Bool.true_and]
            exact this
        · have := hJ false
          rw [decide_eq_false (show ¬ 0 < i by omega), Bool.false_and]
          exact this
      · rw [Bool.not_eq_true] at hmay
        simp only [hmay, Bool.false_eq_true, if_false, if_true]
        exact Ev.now _
end
theorem qho_ (l : List S108) (hs : l.length ≤ 1024 → ∀ x ∈ l, x.f1.size ≤ 4294967280) : Ev (fun k => qe_.f k l) (qet_ l) := by
  unfold qet_
  refine qm_ (fun h => ?_) (fun h => ?_)
  · rw [if_pos (by omega)]; exact Ev.now _
  · rw [if_neg (by omega)]
    exact_mod_cast refCheck_l0 l (hs (by omega)) (by omega) l.length 0 (by omega)
def dgB (m : Int) : ByteArray := if m = 1 then ⟨#[49, 48, 48, 54, 52, 52, 32]⟩ else if m = 2 then ⟨#[49, 48, 48, 55, 53, 53, 32]⟩ else if m = 3 then ⟨#[49, 50, 48, 48, 48, 48, 32]⟩ else if m = 4 then ⟨#[52, 48, 48, 48, 48, 32]⟩ else ⟨#[]⟩
theorem digits_eq (m : Int) : qeb_.f m = some (dgB m) := by
  unfold qeb_.f dgB
  by_cases h1 : m = 1
  · rw [if_pos h1, if_pos h1]
  rw [if_neg h1, if_neg h1]
  by_cases h2 : m = 2
  · rw [if_pos h2, if_pos h2]
  rw [if_neg h2, if_neg h2]
  by_cases h3 : m = 3
  · rw [if_pos h3, if_pos h3]
  rw [if_neg h3, if_neg h3]
  by_cases h4 : m = 4
  · rw [if_pos h4, if_pos h4]
  rw [if_neg h4, if_neg h4]
theorem qgt_ (m : Int) (h1 : 1 ≤ m) (h4 : m ≤ 4) : qcb_.f m = some (dgB m) := by
  unfold qcb_.f dgB
  by_cases h1 : m = 1
  · rw [if_pos h1, if_pos h1]
  rw [if_neg h1, if_neg h1]
  by_cases h2 : m = 2
  · rw [if_pos h2, if_pos h2]
  rw [if_neg h2, if_neg h2]
  by_cases h3 : m = 3
  · rw [if_pos h3, if_pos h3]
  rw [if_neg h3, if_neg h3, if_pos (by omega)]
theorem dgB_size (m : Int) : (dgB m).size ≤ 7 := by
  unfold dgB
  split
  · decide
  · split
    · decide
    · split
      · decide
      · split <;> decide
def pre (a b : ByteArray) : Bool := decide (b.size ≤ a.size) && ((a.extract 0 b.size).toList == b.toList)
theorem qgb_ (a b : ByteArray) : qcs_.f a b = some (pre a b) := by
  unfold qcs_.f qcc_.f pre
  by_cases h : b.size ≤ a.size
  · rw [if_pos (by omega), if_pos (by omega), if_pos (by omega), decide_eq_true h, Bool.true_and]; rfl
  · rw [if_neg (by omega), decide_eq_false h, Bool.false_and]; rfl
theorem begins_eq (a b : ByteArray) : qcx_.f a b = some (pre a b) := by
  unfold qcx_.f pre
  by_cases h : b.size ≤ a.size
  · rw [if_pos (by omega), if_pos (by omega), if_pos (by omega), decide_eq_true h, Bool.true_and]
  · rw [if_neg (by omega), decide_eq_false h, Bool.false_and]
theorem pre_size {a b : ByteArray} (h : pre a b = true) : b.size ≤ a.size := by
  unfold pre at h
  rw [Bool.and_eq_true, decide_eq_true_eq] at h
  exact h.1
theorem qgz_ (a b : ByteArray) : qck_.f a b = some (if pre a b = true then (a.extract b.size a.size, true) else (a, false)) := by
  unfold qck_.f qde_.f
  have := qgb_ a b
  unfold qcs_.f at this
  have h2 : qcc_.f a b = some (pre a b) := by simpa using this
  rw [h2]
  simp only [Option.bind_some]
  by_cases h : pre a b = true
  · have := pre_size h
    rw [if_pos h, if_pos h, if_pos (by omega), if_pos (by omega)]; rfl
  · rw [if_neg h, if_neg h]; rfl
def modeB (s : ByteArray) : Int × Int :=
  if pre s (dgB 1) = true then (1, 0) else if pre s (dgB 2) = true then (2, 0) else if pre s (dgB 3) = true then (3, 0) else if pre s (dgB 4) = true then (4, 0)
  else if (pre (dgB 1) s || pre (dgB 2) s || pre (dgB 3) s || pre (dgB 4) s) = true then (0, 3) else (0, 2)
def modeR (s : ByteArray) : Int × ByteArray × Int := if (modeB s).2 = 0 then ((modeB s).1, s.extract (dgB (modeB s).1).size s.size, 0) else (0, ⟨#[]⟩, (modeB s).2)
theorem mode_ev (s : ByteArray) : Ev (fun k => qbz_.f k s) (modeR s) := by
  refine Ev.of (fun k => qbz_.mono s k) (k := 6) ?_
  have w1 : wrap64 (1 + 1) = 2 := qbd_ (by omega) (by omega)
  have w2 : wrap64 (2 + 1) = 3 := qbd_ (by omega) (by omega)
  have w3 : wrap64 (3 + 1) = 4 := qbd_ (by omega) (by omega)
  have w4 : wrap64 (4 + 1) = 5 := qbd_ (by omega) (by omega)
  have step : ∀ (k : Nat) (b : Bool) (m : Int), m ≤ 4 → qbz_.l0 (k + 1) s b m = if pre s (dgB m) = true then some (m, s.extract (dgB m).size s.size, 0) else qbz_.l0 k s (b || pre (dgB m) s) (wrap64 (m + 1)) := by
    intro k b m hm
    rw [qbz_.l0, if_pos hm, digits_eq]
    simp only [Option.bind_some, qgz_]
    by_cases h : pre s (dgB m) = true
    · simp only [if_pos h, if_true]
    · simp only [if_neg h, Bool.false_eq_true, if_false, qgb_, Option.bind_some]
      cases b with
      | true => rw [if_pos rfl, Bool.true_or]
      | false => rw [if_neg (by decide), Bool.false_or]
  unfold qbz_.f
  rw [step 5 _ 1 (by omega), w1, step 4 _ 2 (by omega), w2, step 3 _ 3 (by omega), w3, step 2 _ 4 (by omega), w4, qbz_.l0, if_neg (show ¬ (5 : Int) ≤ 4 by omega)]
  unfold modeR modeB
  simp only [Bool.false_or]
  by_cases h1 : pre s (dgB 1) = true
  · simp only [if_pos h1, if_true]
  by_cases h2 : pre s (dgB 2) = true
  · simp only [if_neg h1, if_pos h2, if_true]
  by_cases h3 : pre s (dgB 3) = true
  · simp only [if_neg h1, if_neg h2, if_pos h3, if_true]
  by_cases h4 : pre s (dgB 4) = true
  · simp only [if_neg h1, if_neg h2, if_neg h3, if_pos h4, if_true]
  simp only [if_neg h1, if_neg h2, if_neg h3, if_neg h4]
  by_cases h5 : (pre (dgB 1) s || pre (dgB 2) s || pre (dgB 3) s || pre (dgB 4) s) = true
  · simp only [if_pos h5]; rfl
  · simp only [if_neg h5]; rfl
theorem ref_mode_ev (s : ByteArray) : Ev (fun k => qr_.f k s) (if (modeB s).2 = 0 then (modeB s).1 else if (modeB s).2 = 3 then -1 else 0) := by
  refine Ev.of (fun k => qr_.mono s k) (k := 12) ?_
  have w1 : wrap64 (1 + 1) = 2 := qbd_ (by omega) (by omega)
  have w2 : wrap64 (2 + 1) = 3 := qbd_ (by omega) (by omega)
  have w3 : wrap64 (3 + 1) = 4 := qbd_ (by omega) (by omega)
  have w4 : wrap64 (4 + 1) = 5 := qbd_ (by omega) (by omega)
  have step0 : ∀ (k : Nat) (m : Int), 1 ≤ m → m ≤ 4 → qr_.l0 (k + 1) s m = if pre s (dgB m) = true then some m else qr_.l0 k s (wrap64 (m + 1)) := by
    intro k m h1 hm
    rw [qr_.l0, if_pos hm, qgt_ _ h1 hm]
    simp only [Option.bind_some, begins_eq]
  have step1 : ∀ (k : Nat) (m : Int), 1 ≤ m → m ≤ 4 → qr_.l1 (k + 1) s m = if pre (dgB m) s = true then some (-1) else qr_.l1 k s (wrap64 (m + 1)) := by
    intro k m h1 hm
    rw [qr_.l1, if_pos hm, qgt_ _ h1 hm]
    simp only [Option.bind_some, begins_eq]
  unfold qr_.f
  rw [step0 11 1 (by omega) (by omega), w1, step0 10 2 (by omega) (by omega), w2, step0 9 3 (by omega) (by omega), w3, step0 8 4 (by omega) (by omega), w4, qr_.l0, if_neg (show ¬ (5 : Int) ≤ 4 by omega),
    step1 6 1 (by omega) (by omega), w1, step1 5 2 (by omega) (by omega), w2, step1 4 3 (by omega) (by omega), w3, step1 3 4 (by omega) (by omega), w4, qr_.l1, if_neg (show ¬ (5 : Int) ≤ 4 by omega)]
  unfold modeB
  by_cases h1 : pre s (dgB 1) = true
  · simp only [if_pos h1, if_true]
  by_cases h2 : pre s (dgB 2) = true
  · simp only [if_neg h1, if_pos h2, if_true]
  by_cases h3 : pre s (dgB 3) = true
  · simp only [if_neg h1, if_neg h2, if_pos h3, if_true]
  by_cases h4 : pre s (dgB 4) = true
  · simp only [if_neg h1, if_neg h2, if_neg h3, if_pos h4, if_true]
  simp only [if_neg h1, if_neg h2, if_neg h3, if_neg h4]
  by_cases g1 : pre (dgB 1) s = true
  · simp [g1]
  by_cases g2 : pre (dgB 2) s = true
  · simp [g1, g2]
  by_cases g3 : pre (dgB 3) s = true
  · simp [g1, g2, g3]
  by_cases g4 : pre (dgB 4) s = true
  · simp [g1, g2, g3, g4]
  simp [g1, g2, g3, g4]
theorem modeB_ok {s : ByteArray} (h : (modeB s).2 = 0) : 1 ≤ (modeB s).1 ∧ (modeB s).1 ≤ 4 ∧ pre s (dgB (modeB s).1) = true := by
  unfold modeB at h ⊢
  by_cases h1 : pre s (dgB 1) = true
  · simp [h1]
  by_cases h2 : pre s (dgB 2) = true
  · simp [h1, h2]
  by_cases h3 : pre s (dgB 3) = true
  · simp [h1, h2, h3]
  by_cases h4 : pre s (dgB 4) = true
  · simp [h1, h2, h3, h4]
  simp only [if_neg h1, if_neg h2, if_neg h3, if_neg h4] at h
  split at h <;> simp at h
theorem modeB_bad (s : ByteArray) : (modeB s).2 = 0 ∨ (modeB s).2 = 3 ∨ (modeB s).2 = 2 := by
  unfold modeB
  repeat' split
  all_goals simp
theorem dgB_ge {m : Int} (h1 : 1 ≤ m) (h4 : m ≤ 4) : 6 ≤ (dgB m).size := by
  have : m = 1 ∨ m = 2 ∨ m = 3 ∨ m = 4 := by omega
  rcases this with rfl | rfl | rfl | rfl <;> decide
theorem ext_ext (s : ByteArray) (a b i j : Nat) (hj : j ≤ b - a) : (s.extract a b).extract i j = s.extract (a + i) (a + j) := by
  apply ba_ext
  rw [Lib.extract_data, Lib.extract_data, Lib.extract_data, List.drop_take, List.take_take, List.drop_drop]
  congr 1
  omega
theorem ext_at (s : ByteArray) (a b i j c d : Nat) (hj : j ≤ b - a) (hc : a + i = c) (hd : a + j = d) : (s.extract a b).extract i j = s.extract c d := by
  subst hc hd
  exact ext_ext s a b i j hj
theorem qeq_ (s : ByteArray) (a b : Nat) (h : b ≤ s.size) : (s.extract a b).size = b - a := by
  rw [Lib.size_eq, Lib.extract_data, List.length_take, List.length_drop, ← Lib.size_eq]; omega
theorem extract_all (s : ByteArray) (a : Nat) : (s.extract a s.size).data.toList = s.data.toList.drop a := by
  rw [Lib.extract_data, List.take_of_length_le (by rw [List.length_drop, ← Lib.size_eq]; exact Nat.le_refl _)]
def cutAt (s : ByteArray) : Int := Lib.indexByte (s.data.toList.drop (dgB (modeB s).1).size) 0
def stepB (s : ByteArray) : Int × S108 × ByteArray :=
  if (modeB s).2 = 0 then
    (if cutAt s = -1 ∨ s.size < (dgB (modeB s).1).size + (cutAt s).toNat + 21 then (3, z108', ⟨#[]⟩)
     else (0, ⟨(modeB s).1, s.extract (dgB (modeB s).1).size ((dgB (modeB s).1).size + (cutAt s).toNat), hexB (s.extract ((dgB (modeB s).1).size + (cutAt s).toNat + 1) ((dgB (modeB s).1).size + (cutAt s).toNat + 21))⟩, s.extract ((dgB (modeB s).1).size + (cutAt s).toNat + 21) s.size))
  else ((modeB s).2, z108', ⟨#[]⟩)
theorem qid_ : ∀ (l : List UInt8) (c : UInt8), Lib.indexByte l c < l.length ∨ l = []
  | [], _ => .inr rfl
  | b :: r, c => by
    left
    rw [Lib.indexByte]
    rcases qid_ r c with h | h
    · split
      · simp
      · split
        · simp; omega
        · simp; omega
    · subst h
      split
      · simp
      · simp [Lib.indexByte]
theorem cutAt_lt (s : ByteArray) (h : (modeB s).2 = 0) : -1 ≤ cutAt s ∧ cutAt s + (dgB (modeB s).1).size < s.size + 1 := by
  have h1 := pre_size (modeB_ok h).2.2
  have hge := Lib.indexByte_ge (s.data.toList.drop (dgB (modeB s).1).size) 0
  refine ⟨hge, ?_⟩
  unfold cutAt
  rcases qid_ (s.data.toList.drop (dgB (modeB s).1).size) 0 with h2 | h2
  · rw [List.length_drop, ← Lib.size_eq] at h2; omega
  · rw [h2]; simp [Lib.indexByte]; omega
theorem Cut_eq (s : ByteArray) (hs : s.size ≤ 4294967000) : qcf_.f s ⟨#[0]⟩ = some (if Lib.indexByte s.data.toList 0 = -1 then (s, ⟨#[]⟩, false) else (s.extract 0 (Lib.indexByte s.data.toList 0).toNat, s.extract ((Lib.indexByte s.data.toList 0).toNat + 1) s.size, true)) := by
  rw [Q.Cut_eq s ⟨#[0]⟩ (by omega)]
  congr 1
  show (mk (Lib.cut s.data.toList [0]).1, mk (Lib.cut s.data.toList [0]).2.1, (Lib.cut s.data.toList [0]).2.2) = _
  have hge := Lib.indexByte_ge s.data.toList 0
  by_cases h : Lib.indexByte s.data.toList 0 = -1
  · rw [cut_no (by rw [qgd_]; omega), if_pos h, mk_of]; rfl
  · have hl := qcg_ s
    rw [cut_of (by rw [qgd_]; omega), if_neg h, qgd_, ext_mk, ext_mk, List.drop_zero, Nat.sub_zero]
    have e : ((s.data.toList.drop ((Lib.indexByte s.data.toList 0).toNat + 1)).take (s.size - ((Lib.indexByte s.data.toList 0).toNat + 1))) = s.data.toList.drop ((Lib.indexByte s.data.toList 0).toNat + 1) := List.take_of_length_le (by rw [List.length_drop]; omega)
    rw [e]; rfl
theorem one_ev (s : ByteArray) (hs : s.size ≤ 100000) : Ev (fun k => qcj_.f k s) (if (stepB s).1 = 0 then ((stepB s).2.1.f0, (stepB s).2.1.f1, (stepB s).2.1.f2, (s.size : Int) - (stepB s).2.2.size, 0) else (0, ⟨#[]⟩, ⟨#[]⟩, 0, (stepB s).1)) := by
  refine Ev.bind (ref_mode_ev s) ?_
  unfold stepB
  by_cases h0 : (modeB s).2 = 0
  · obtain ⟨m1, m4, mp⟩ := modeB_ok h0
    have hd := dgB_size (modeB s).1
    have hp := pre_size mp
    obtain ⟨hc0, hc1⟩ := cutAt_lt s h0
    simp only [if_pos h0]
    refine Ev.congr (f := fun k => (qak_.f k s (((0 : UInt8).toNat : Nat) : Int) ((dgB (modeB s).1).size : Nat)).bind fun t178 => (if t178 < 0 then (some (0, (⟨#[]⟩ : ByteArray), (⟨#[]⟩ : ByteArray), 0, 3)) else (if (wrap64 ((s.size : Int) - t178)) < 21 then (some (0, (⟨#[]⟩ : ByteArray), (⟨#[]⟩ : ByteArray), 0, 3)) else (if 0 ≤ ((dgB (modeB s).1).size : Int) then (if ((dgB (modeB s).1).size : Int) ≤ t178 then (if t178 ≤ (s.size : Int) then (if 0 ≤ (wrap64 (t178 + 1)) then (if (wrap64 (t178 + 1)) ≤ (wrap64 (t178 + 21)) then (if (wrap64 (t178 + 21)) ≤ (s.size : Int) then ((qx_.f k (s.extract ((wrap64 (t178 + 1)) : Int).toNat ((wrap64 (t178 + 21)) : Int).toNat)).bind fun t179 => (some ((modeB s).1, s.extract (dgB (modeB s).1).size (t178 : Int).toNat, t179, wrap64 (t178 + 21), 0))) else none) else none) else none) else none) else none) else none)))) (fun k => ?_) ?_
    · rw [if_neg (by omega), if_neg (by omega), qgt_ _ m1 m4]; rfl
    · refine Ev.bind (Find_ev s (by omega) 0 _ hp) ?_
      have hix : ixF s.data.toList 0 (dgB (modeB s).1).size = if cutAt s = -1 then -1 else cutAt s + (dgB (modeB s).1).size := rfl
      rw [hix]
      by_cases hc : cutAt s = -1
      · simp only [if_pos hc, hc, true_or, if_true]
        simp
        exact Ev.now _
      · simp only [if_neg hc, hc, false_or, if_false]
        by_cases hl : s.size < (dgB (modeB s).1).size + (cutAt s).toNat + 21
        · refine Ev.congr (f := fun _ => some (0, (⟨#[]⟩ : ByteArray), (⟨#[]⟩ : ByteArray), 0, 3)) (fun k => ?_) ?_
          · rw [if_neg (by omega), qbd_ (by omega) (by omega), if_pos (by omega)]
          · simp only [if_pos hl]
            simp
            exact Ev.now _
        · simp only [if_neg hl, if_true]
          have e1 : (cutAt s + ((dgB (modeB s).1).size : Int) + 1).toNat = (dgB (modeB s).1).size + (cutAt s).toNat + 1 := by omega
          have e21 : (cutAt s + ((dgB (modeB s).1).size : Int) + 21).toNat = (dgB (modeB s).1).size + (cutAt s).toNat + 21 := by omega
          have e0 : (cutAt s + ((dgB (modeB s).1).size : Int)).toNat = (dgB (modeB s).1).size + (cutAt s).toNat := by omega
          refine Ev.congr (f := fun k => (qx_.f k (s.extract ((dgB (modeB s).1).size + (cutAt s).toNat + 1) ((dgB (modeB s).1).size + (cutAt s).toNat + 21))).bind fun t179 => (some ((modeB s).1, s.extract (dgB (modeB s).1).size ((dgB (modeB s).1).size + (cutAt s).toNat), t179, cutAt s + ((dgB (modeB s).1).size : Int) + 21, 0))) (fun k => ?_) ?_
          · rw [if_neg (by omega), qbd_ (x := (s.size : Int) - _) (by omega) (by omega), if_neg (by omega), if_pos (by omega), if_pos (by omega), if_pos (by omega), qbd_ (x := _ + 1) (by omega) (by omega), qbd_ (x := _ + 21) (by omega) (by omega), if_pos (by omega), if_pos (by omega), if_pos (by omega), e1, e21, e0]
          · refine Ev.bind (ref_Hex_ev _ (by rw [qeq_ _ _ _ (by omega)]; omega)) ?_
            have : (s.size : Int) - ((s.extract ((dgB (modeB s).1).size + (cutAt s).toNat + 21) s.size).size : Nat) = cutAt s + ((dgB (modeB s).1).size : Int) + 21 := by rw [qeq_ _ _ _ (Nat.le_refl _)]; omega
            rw [this]
            exact Ev.now _
  · have hb := modeB_bad s
    simp only [if_neg h0]
    rcases hb with hb | hb | hb
    · exact absurd hb h0
    · simp only [hb]
      simp
      exact Ev.now _
    · simp only [hb]
      simp
      exact Ev.now _
def endB (acc : List S108) : List S108 × Int := if qet_ acc = 0 then (acc, 0) else ([], qet_ acc)
def parseF : Nat → ByteArray → List S108 → List S108 × Int
  | 0, _, acc => endB acc
  | d + 1, s, acc => if s.toList = [] then endB acc else if (stepB s).1 = 0 then parseF d (stepB s).2.2 (acc ++ [(stepB s).2.1]) else ([], (stepB s).1)
theorem step_ok {s : ByteArray} (h : (stepB s).1 = 0) : (modeB s).2 = 0 ∧ ¬ (cutAt s = -1 ∨ s.size < (dgB (modeB s).1).size + (cutAt s).toNat + 21) := by
  unfold stepB at h
  by_cases h0 : (modeB s).2 = 0
  · refine ⟨h0, fun hc => ?_⟩
    simp only [if_pos h0, if_pos hc] at h
    simp at h
  · simp only [if_neg h0] at h
    exact absurd h h0
theorem step_rest {s : ByteArray} (h : (stepB s).1 = 0) : (stepB s).2.2.size + 27 ≤ s.size ∧ (stepB s).2.1.f1.size ≤ s.size := by
  obtain ⟨h0, hc⟩ := step_ok h
  obtain ⟨m1, m4, mp⟩ := modeB_ok h0
  have hd := dgB_ge m1 m4
  have hq := cutAt_lt s h0
  unfold stepB
  simp only [if_pos h0, if_neg hc]
  rw [qeq_ _ _ _ (Nat.le_refl _), qeq_ _ _ _ (by omega)]
  omega
theorem size_nil {s : ByteArray} (h : s.size = 0) : s.toList = [] := by
  rw [Lib.toList_data]; rw [Lib.size_eq] at h; exact List.eq_nil_of_length_eq_zero h
theorem end_ev (acc : List S108) (ha : ∀ x ∈ acc, x.f1.size ≤ 100000) : Ev (fun k => (qal_.f k acc).bind fun t113 => (if t113 = 0 then (some (acc, (0 : Int))) else (some (([] : List (S108)), t113)))) (endB acc) := by
  refine Ev.bind (Check_ev acc (fun x hx => by have := ha x hx; omega)) ?_
  unfold endB
  refine qm_ (fun h => ?_) (fun h => ?_)
  · rw [if_pos h]; exact Ev.now _
  · rw [if_neg h]; exact Ev.now _
theorem ref_end_ev (acc : List S108) (ha : ∀ x ∈ acc, x.f1.size ≤ 100000) : Ev (fun k => (qe_.f k acc).bind fun t113 => (if t113 = 0 then (some (acc, (0 : Int))) else (some (([] : List (S108)), t113)))) (endB acc) := by
  refine Ev.bind (qho_ acc (fun _ x hx => by have := ha x hx; omega)) ?_
  unfold endB
  refine qm_ (fun h => ?_) (fun h => ?_)
  · rw [if_pos h]; exact Ev.now _
  · rw [if_neg h]; exact Ev.now _
theorem Parse_l0 : ∀ (d : Nat) (s : ByteArray) (acc : List S108), s.size ≤ d → d + acc.length ≤ 100000 → s.size ≤ 100000 → (∀ x ∈ acc, x.f1.size ≤ 100000) → Ev (fun k => qbs_.l0 k s acc) (parseF d s acc) := by
  intro d
  induction d with
  | zero =>
    intro s acc hd hl hs ha
    refine Ev.step (f := fun k => (qal_.f k acc).bind fun t113 => (if t113 = 0 then (some (acc, 0)) else (some (([] : List (S108)), t113)))) (fun k => by rw [qbs_.l0, if_pos (size_nil (by omega))]) (end_ev acc ha)
  | succ d ih =>
    intro s acc hd hl hs ha
    rw [parseF]
    by_cases hn : s.toList = []
    · rw [if_pos hn]
      refine Ev.step (f := fun k => (qal_.f k acc).bind fun t113 => (if t113 = 0 then (some (acc, 0)) else (some (([] : List (S108)), t113)))) (fun k => by rw [qbs_.l0, if_pos hn]) (end_ev acc ha)
    · rw [if_neg hn]
      refine Ev.step (f := fun k => (qbz_.f k s).bind fun bt114 => (if bt114.2.2 = 0 then ((qcf_.f bt114.2.1 (⟨#[0]⟩ : ByteArray)).bind fun bt117 => (if bt117.2.2 = true then (if (bt117.2.1.size : Int) < 20 then (some (([] : List (S108)), 3)) else (if 0 ≤ 20 then (if 20 ≤ (bt117.2.1.size : Int) then ((qbj_.f k (bt117.2.1.extract 0 20)).bind fun t120 => (if acc.length < 3518437208883 then (qbs_.l0 k (bt117.2.1.extract 20 bt117.2.1.size) (acc ++ [(⟨bt114.1, bt117.1, t120⟩ : S108)])) else (none))) else (none)) else (none))) else (some (([] : List (S108)), 3)))) else (some (([] : List (S108)), bt114.2.2)))) (fun k => by rw [qbs_.l0, if_neg hn]) ?_
      refine Ev.bind (mode_ev s) ?_
      unfold modeR
      by_cases h0 : (modeB s).2 = 0
      · obtain ⟨m1, m4, mp⟩ := modeB_ok h0
        have hp := pre_size mp
        obtain ⟨hc0, hc1⟩ := cutAt_lt s h0
        have hrs : (s.extract (dgB (modeB s).1).size s.size).size = s.size - (dgB (modeB s).1).size := qeq_ _ _ _ (Nat.le_refl _)
        simp only [if_pos h0, if_true]
        rw [Cut_eq _ (by omega), extract_all]
        have hcut : Lib.indexByte (s.data.toList.drop (dgB (modeB s).1).size) 0 = cutAt s := rfl
        rw [hcut]
        simp only [Option.bind_some]
        by_cases hc : cutAt s = -1
        · simp only [if_pos hc, Bool.false_eq_true, if_false]
          have : (stepB s).1 = 3 := by unfold stepB; simp only [if_pos h0, hc, true_or, if_true]
          rw [if_neg (by omega), this]
          exact Ev.now _
        · simp only [if_neg hc, if_true]
          have hes : ((s.extract (dgB (modeB s).1).size s.size).extract ((cutAt s).toNat + 1) (s.extract (dgB (modeB s).1).size s.size).size) = s.extract ((dgB (modeB s).1).size + (cutAt s).toNat + 1) s.size := by
            rw [hrs, ext_ext _ _ _ _ _ (Nat.le_refl _)]
            congr 1; omega
          rw [hes, qeq_ _ _ _ (Nat.le_refl _)]
          by_cases hl2 : s.size < (dgB (modeB s).1).size + (cutAt s).toNat + 21
          · have : (stepB s).1 = 3 := by unfold stepB; simp only [if_pos h0, hc, false_or, if_pos hl2]
            rw [if_neg (show ¬ (stepB s).1 = 0 by omega), this]
            refine Ev.congr (f := fun _ => some (([] : List S108), 3)) (fun k => by rw [if_pos (by omega)]) (Ev.now _)
          · have hst : stepB s = (0, ⟨(modeB s).1, s.extract (dgB (modeB s).1).size ((dgB (modeB s).1).size + (cutAt s).toNat), hexB (s.extract ((dgB (modeB s).1).size + (cutAt s).toNat + 1) ((dgB (modeB s).1).size + (cutAt s).toNat + 21))⟩, s.extract ((dgB (modeB s).1).size + (cutAt s).toNat + 21) s.size) := by
              unfold stepB; simp only [if_pos h0, hc, false_or, if_neg hl2]
            have hr := step_rest (s := s) (by rw [hst])
            have e20 : (s.extract ((dgB (modeB s).1).size + (cutAt s).toNat + 1) s.size).extract 0 20 = s.extract ((dgB (modeB s).1).size + (cutAt s).toNat + 1) ((dgB (modeB s).1).size + (cutAt s).toNat + 21) := ext_at _ _ _ _ _ _ _ (by omega) (by omega) (by omega)
            have eR : (s.extract ((dgB (modeB s).1).size + (cutAt s).toNat + 1) s.size).extract 20 (s.size - ((dgB (modeB s).1).size + (cutAt s).toNat + 1)) = s.extract ((dgB (modeB s).1).size + (cutAt s).toNat + 21) s.size := ext_at _ _ _ _ _ _ _ (Nat.le_refl _) (by omega) (by omega)
            have eN : (s.extract (dgB (modeB s).1).size s.size).extract 0 (cutAt s).toNat = s.extract (dgB (modeB s).1).size ((dgB (modeB s).1).size + (cutAt s).toNat) := ext_at _ _ _ _ _ _ _ (by omega) (by omega) (by omega)
            refine Ev.congr (f := fun k => (qbj_.f k (s.extract ((dgB (modeB s).1).size + (cutAt s).toNat + 1) ((dgB (modeB s).1).size + (cutAt s).toNat + 21))).bind fun t120 => (qbs_.l0 k (s.extract ((dgB (modeB s).1).size + (cutAt s).toNat + 21) s.size) (acc ++ [(⟨(modeB s).1, s.extract (dgB (modeB s).1).size ((dgB (modeB s).1).size + (cutAt s).toNat), t120⟩ : S108)]))) (fun k => ?_) ?_
            · rw [if_neg (by omega), if_pos (by omega), if_pos (by omega), e20, eR, eN]
              congr 1
              funext t
              rw [if_pos (by omega)]
            · refine Ev.bind (ident_Hex_ev _ (by rw [qeq_ _ _ _ (by omega)]; omega)) ?_
              rw [hst] at hr ⊢
              simp only at hr
              simp only [if_true]
              refine ih _ _ (by omega) (by rw [List.length_append, List.length_singleton]; omega) (by omega) (fun x hx => ?_)
              rcases List.mem_append.1 hx with hx | hx
              · exact ha x hx
              · rw [List.mem_singleton.1 hx]; exact Nat.le_trans hr.2 hs
      · have hst : (stepB s).1 = (modeB s).2 := by unfold stepB; simp only [if_neg h0]
        simp only [if_neg h0]
        rw [if_neg (by rw [hst]; exact h0), hst]
        exact Ev.now _
theorem ref_Parse_l0 : ∀ (d : Nat) (s : ByteArray) (acc : List S108), s.size ≤ d → d + acc.length ≤ 100000 → s.size ≤ 100000 → (∀ x ∈ acc, x.f1.size ≤ 100000) → Ev (fun k => qbl_.l0 k s acc) (parseF d s acc) := by
  intro d
  induction d with
  | zero =>
    intro s acc hd hl hs ha
    refine Ev.step (f := fun k => (qe_.f k acc).bind fun t113 => (if t113 = 0 then (some (acc, 0)) else (some (([] : List (S108)), t113)))) (fun k => by rw [qbl_.l0, if_pos (size_nil (by omega))]) (ref_end_ev acc ha)
  | succ d ih =>
    intro s acc hd hl hs ha
    rw [parseF]
    by_cases hn : s.toList = []
    · rw [if_pos hn]
      refine Ev.step (f := fun k => (qe_.f k acc).bind fun t113 => (if t113 = 0 then (some (acc, 0)) else (some (([] : List (S108)), t113)))) (fun k => by rw [qbl_.l0, if_pos hn]) (ref_end_ev acc ha)
    · rw [if_neg hn]
      refine Ev.step (f := fun k => (qcj_.f k s).bind fun bt266 => (if bt266.2.2.2.2 = 0 then (if acc.length < 3518437208883 then (if 0 ≤ bt266.2.2.2.1 then (if bt266.2.2.2.1 ≤ (s.size : Int) then (qbl_.l0 k (s.extract (bt266.2.2.2.1 : Int).toNat s.size) (acc ++ [(⟨bt266.1, bt266.2.1, bt266.2.2.1⟩ : S108)])) else (none)) else (none)) else (none)) else (some (([] : List (S108)), bt266.2.2.2.2)))) (fun k => by rw [qbl_.l0, if_neg hn]) ?_
      refine Ev.bind (one_ev s hs) ?_
      by_cases h : (stepB s).1 = 0
      · have hr := step_rest h
        obtain ⟨h0, hc⟩ := step_ok h
        simp only [if_pos h, if_true]
        refine Ev.congr (f := fun k => qbl_.l0 k (stepB s).2.2 (acc ++ [(stepB s).2.1])) (fun k => ?_) ?_
        · rw [if_pos (by omega), if_pos (by omega), if_pos (by omega)]
          have e : s.extract ((s.size : Int) - ((stepB s).2.2.size : Nat)).toNat s.size = (stepB s).2.2 := by
            have h2 : (stepB s).2.2 = s.extract ((dgB (modeB s).1).size + (cutAt s).toNat + 21) s.size := by unfold stepB; simp only [if_pos h0, if_neg hc]
            rw [h2, qeq_ _ _ _ (Nat.le_refl _)]
            congr 1
            omega
          rw [e]
        · refine ih _ _ (by omega) (by rw [List.length_append, List.length_singleton]; omega) (by omega) (fun x hx => ?_)
          rcases List.mem_append.1 hx with hx | hx
          · exact ha x hx
          · rw [List.mem_singleton.1 hx]; omega
      · simp only [if_neg h]
        exact Ev.now _
theorem Parse_ev (s : ByteArray) (hs : s.size ≤ 100000) : Ev (fun k => qbs_.f k s) (parseF s.size s []) :=
  Parse_l0 s.size s [] (Nat.le_refl _) (by simpa using hs) hs (by simp)
theorem ref_Parse_ev (s : ByteArray) (hs : s.size ≤ 100000) : Ev (fun k => qbl_.f k s) (parseF s.size s []) :=
  ref_Parse_l0 s.size s [] (Nat.le_refl _) (by simpa using hs) hs (by simp)
theorem endB_len (acc : List S108) : (endB acc).1.length ≤ acc.length := by
  unfold endB; split <;> simp
theorem parseF_len : ∀ (d : Nat) (s : ByteArray) (acc : List S108), (parseF d s acc).1.length ≤ acc.length + d
  | 0, s, acc => by rw [parseF]; have := endB_len acc; omega
  | d + 1, s, acc => by
    rw [parseF]
    split
    · have := endB_len acc; omega
    · split
      · have := parseF_len d (stepB s).2.2 (acc ++ [(stepB s).2.1])
        rw [List.length_append, List.length_singleton] at this
        omega
      · simp
end Go.Proofs.YtbhfbbfjdklfgaaGreatDoor.Q.Tr
namespace Go.Proofs.YtbhfbbfjdklfgaaGreatDoor.Q
open Go.Proofs.Tryz Go.RowKit YtbhfbbfjdklfgaaGreatDoorW.PrintWords YtbhfbbfjdklfgaaGreatDoorW.PrintLast YtbhfbbfjdklfgaaGreatDoorW.PrintMore
theorem ev_opt {α : Type} {o : Option α} {r : α} (h : o = some r) : Ev (fun _ => o) r := by subst h; exact Ev.now _
theorem tdiv10 (n : Nat) (h : n ≤ 4294967296) : wrap64 (Int.tdiv (n : Int) 10) = ((n / 10 : Nat) : Int) := by
 rw [Int.tdiv_eq_ediv_of_nonneg (by omega), qbd_ (by omega) (by omega)]; omega
theorem toList_nil {s : ByteArray} : s.toList = ([] : List UInt8) ↔ s.size = 0 := by
 rw [ByteArray.toList_eq, ← qcg_, List.length_eq_zero_iff]
theorem dig_zero (x0 : Int) (h0 : ¬ x0 < 0) (out : ByteArray) (ho : out.size ≤ 4294967296) : ∃ r, Ev (fun k => qbc_.l0 k x0 out 0) r ∧ r.size ≤ out.size + 1 := by
 have fin : ∀ o : ByteArray, ¬ o.toList = ([] : List UInt8) → Ev (fun k => qbc_.l0 k x0 o 0) o := fun o h =>
  Ev.step (f := ?_) (fun k => by rw [qbc_.l0, if_pos rfl, if_neg h, if_neg h0]) (Ev.now _)
 by_cases h : out.toList = ([] : List UInt8)
 ·have hz := toList_nil.1 h
  refine ⟨_, Ev.step (f := ?_) (fun k => by rw [qbc_.l0, if_pos rfl, if_pos h, Option.bind_some, if_pos (by rw [qfg_]; simp only [List.length_cons, List.length_nil]; omega), show wrap64 (Int.tdiv 0 10) = 0 by rw [show Int.tdiv 0 10 = 0 from rfl, qbd_ (by omega) (by omega)]]) (fin _ (fun e => ?_)), ?_⟩
  ·have := toList_nil.1 e
   rw [size_app, qfg_] at this
   simp only [List.length_cons, List.length_nil] at this
   omega
  ·rw [size_app, qfg_]
   simp only [List.length_cons, List.length_nil]
   omega
 ·exact ⟨out, fin out h, Nat.le_succ _⟩
theorem dig_n (x0 : Int) (h0 : ¬ x0 < 0) : ∀ (n : Nat) (out : ByteArray), n ≤ 1048576 → out.size + n ≤ 4294967000 → ∃ r, Ev (fun k => qbc_.l0 k x0 out (n : Int)) r ∧ r.size ≤ out.size + n + 1 := by
 intro n
 induction n using Nat.strongRecOn with
 | _ n ih =>
  intro out hn ho
  by_cases hz : n = 0
  ·subst hz
   obtain ⟨r, h1, h2⟩ := dig_zero x0 h0 out (by omega)
   exact ⟨r, h1, by omega⟩
  ·have sz : ∀ y : Int, (strOfNums [y] ++ out).size = out.size + 1 := fun y => by
    rw [size_app, qfg_]; simp only [List.length_cons, List.length_nil]; omega
   obtain ⟨r, h1, h2⟩ := ih (n / 10) (by omega) (strOfNums [(wrap64 (48 + (mx (Int.tmod (n : Int) 10) (wrap64 (-(Int.tmod (n : Int) 10)))))) % 256] ++ out) (by omega) (by rw [sz]; omega)
   rw [sz] at h2
   refine ⟨r, Ev.step (f := ?_) (fun k => by rw [qbc_.l0, if_neg (by omega), Option.bind_some, if_pos (by rw [qfg_]; simp only [List.length_cons, List.length_nil]; omega), tdiv10 n (by omega)]) h1, by omega⟩
def bytesE (a : Int) : Int := if (wordB a).toList = ([] : List UInt8) then 140 else 0
theorem Bytes_eq (a : Int) (s : ByteArray) (hs : s.size ≤ 8000) : ∃ b, qcv_.f a s = some (b, bytesE a) := by
 unfold qcv_.f bytesE
 rw [Word_eq, Option.bind_some]
 by_cases h : (wordB a).toList = ([] : List UInt8)
 ·exact ⟨_, by rw [if_pos h, if_pos h]⟩
 ·have hw := word_size a
  have hi := itoa_len (s.size : Int) (by omega) (by omega)
  refine ⟨((((wordB a) ++ (⟨#[32]⟩ : ByteArray)) ++ mk (Lib.itoa (s.size : Int))) ++ (⟨#[0]⟩ : ByteArray)) ++ s, ?_⟩
  rw [if_neg h, if_neg h, if_neg (by omega), if_pos (by omega), Itoa_eq _ (by omega) (by omega), Option.bind_some]
  have s1 : (⟨#[32]⟩ : ByteArray).size = 1 := rfl
  have s2 : (⟨#[0]⟩ : ByteArray).size = 1 := rfl
  have s3 : (mk (Lib.itoa (s.size : Int))).size ≤ 20 := by rw [qco_]; exact hi
  simp only [ByteArray.size_append, s1, s2]
  rw [if_pos (by omega), if_pos (by omega), if_pos (by omega)]
theorem refBytes_ev (a : Int) (s : ByteArray) (hs : s.size ≤ 8000) : ∃ b, Ev (fun k => qbr_.f k a s) (b, bytesE a) := by
 have hw := word_size a
 have s1 : (⟨#[32]⟩ : ByteArray).size = 1 := rfl
 have s2 : (⟨#[0]⟩ : ByteArray).size = 1 := rfl
 unfold bytesE
 by_cases h : (wordB a).toList = ([] : List UInt8)
 ·rw [if_pos h]
  have hc : qdf_.f a s = some 140 := by unfold qdf_.f; rw [qgu_, Option.bind_some, if_pos h]
  exact ⟨_, Ev.bind (ev_opt hc) (ev_no (by decide) (Ev.now _))⟩
 ·rw [if_neg h]
  have hc : qdf_.f a s = some 0 := by unfold qdf_.f; rw [qgu_, Option.bind_some, if_neg h, if_neg (by omega)]
  obtain ⟨r, h1, h2⟩ := dig_n (s.size : Int) (by omega) s.size ⟨#[]⟩ (by omega) (by show 0 + s.size ≤ _; omega)
  have h2' : r.size ≤ s.size + 1 := by have : (⟨#[]⟩ : ByteArray).size = 0 := rfl; omega
  refine ⟨((((wordB a) ++ (⟨#[32]⟩ : ByteArray)) ++ r) ++ (⟨#[0]⟩ : ByteArray)) ++ s, Ev.bind (ev_opt hc) (qbi_ rfl ?_)⟩
  rw [qgu_]
  simp only [Option.bind_some, ByteArray.size_append, s1, s2]
  refine qbi_ (by omega) (Ev.bind h1 ?_)
  exact qbi_ (by omega) (qbi_ (by omega) (qbi_ (by omega) (Ev.now _)))
def treeB (s : ByteArray) : List S108 × Int := Tr.parseF s.size s []
def wholeB (a : Int) (s : ByteArray) : Int := if bytesE a = 0 then (if a = 2 then (treeB s).2 else if a = 3 then (qdq_ s).2.2.2.2.2.2.2.2.2.2.2 else if a = 4 then (qer_ s).2.2.2.2.2.2.2.2 else 0) else bytesE a
theorem Whole_ev (a : Int) (s : ByteArray) (hs : s.size ≤ 8000) : Ev (fun k => qcr_.f k a s) (wholeB a s) := by
 obtain ⟨b, hb⟩ := Bytes_eq a s hs
 refine Ev.bind (ev_opt hb) ?_
 unfold wholeB
 by_cases h : bytesE a = 0
 ·rw [h, if_pos rfl]
  refine qbi_ rfl (qm_ (fun h2 => ?_) (fun h2 => qm_ (fun h3 => ?_) (fun h3 => qm_ (fun h4 => ?_) (fun h4 => ?_))))
  ·rw [if_pos h2]; exact Ev.bind (Tr.Parse_ev s (by omega)) (Ev.now _)
  ·rw [if_neg h2, if_pos h3]; exact Ev.bind (Parse_ev s (by omega)) (Ev.now _)
  ·rw [if_neg h2, if_neg h3, if_pos h4]; exact Ev.bind (ParseTag_ev s (by omega)) (Ev.now _)
  ·rw [if_neg h2, if_neg h3, if_neg h4]; exact Ev.now _
 ·rw [if_neg h]; exact ev_no h (Ev.now _)
theorem refWhole_ev (a : Int) (s : ByteArray) (hs : s.size ≤ 8000) : Ev (fun k => qdb_.f k a s) (wholeB a s) := by
 obtain ⟨b, hb⟩ := refBytes_ev a s hs
 refine Ev.bind hb ?_
 unfold wholeB
 by_cases h : bytesE a = 0
 ·rw [h, if_pos rfl]
  refine qbi_ rfl (qm_ (fun h2 => ?_) (fun h2 => qm_ (fun h3 => ?_) (fun h3 => qm_ (fun h4 => ?_) (fun h4 => ?_))))
  ·rw [if_pos h2]; exact Ev.bind (Tr.ref_Parse_ev s (by omega)) (Ev.now _)
  ·rw [if_neg h2, if_pos h3]; exact Ev.bind (refParse_ev s (by omega)) (Ev.now _)
  ·rw [if_neg h2, if_neg h3, if_pos h4]; exact Ev.bind (qhr_ s (by omega)) (Ev.now _)
  ·rw [if_neg h2, if_neg h3, if_neg h4]; exact Ev.now _
 ·rw [if_neg h]; exact ev_no h (Ev.now _)
def hasB (l : List ByteArray) (x : ByteArray) : Bool := decide (x.data.toList ∈ l.map fun p => p.data.toList)
def uniqB : List ByteArray → List ByteArray → List ByteArray
 | out, [] => out
 | out, x :: r => if hasB out x = true then uniqB out r else uniqB (out ++ [x]) r
theorem uniqB_len : ∀ (r out : List ByteArray), (uniqB out r).length ≤ out.length + r.length
 | [], out => Nat.le_refl _
 | x :: r, out => by
  rw [uniqB]
  split
  ·have := uniqB_len r out; rw [List.length_cons]; omega
  ·have := uniqB_len r (out ++ [x]); rw [List.length_append] at this; simp only [List.length_cons, List.length_nil] at this ⊢; omega
theorem has_drop (l : List ByteArray) (x : ByteArray) (i : Nat) (h : i < l.length) : hasB (l.drop i) x = (decide (x.data.toList = l[i].data.toList) || hasB (l.drop (i + 1)) x) := by
 unfold hasB
 rw [List.drop_eq_getElem_cons h, List.map_cons]
 by_cases g : x.data.toList = l[i].data.toList
 ·rw [decide_eq_true g, Bool.true_or]; exact decide_eq_true (List.mem_cons.2 (Or.inl g))
 ·rw [decide_eq_false g, Bool.false_or]
  exact decide_eq_decide.2 ⟨fun q => (List.mem_cons.1 q).resolve_left g, fun q => List.mem_cons.2 (Or.inr q)⟩
theorem has_nil (x : ByteArray) : hasB [] x = false := rfl
theorem refHas_l0 (l : List ByteArray) (x : ByteArray) (hl : l.length ≤ 140737488351232) : ∀ (d i : Nat), i + d = l.length → Ev (fun k => qcl_.l0 k l x i) (hasB (l.drop i) x)
 | 0, i, h => by
  rw [List.drop_of_length_le (by omega), has_nil]
  exact Ev.step (f := ?_) (fun k => by rw [qcl_.l0, if_neg (by omega)]) (Ev.now _)
 | d + 1, i, h => by
  have hi : i < l.length := by omega
  rw [has_drop l x i hi]
  refine Ev.step (f := ?_) (fun k => by rw [qcl_.l0, if_pos (by omega), if_pos (by omega), qfa_ l i hi, qej_ i (by omega)]) ?_
  refine qm_ (fun g => ev_eq (Ev.now _) ?_) (fun g => ev_eq (refHas_l0 l x hl d (i + 1) (by omega)) ?_)
  ·rw [ByteArray.toList_eq, ByteArray.toList_eq] at g
   rw [decide_eq_true g.symm, Bool.true_or]
  ·rw [ByteArray.toList_eq, ByteArray.toList_eq] at g
   rw [decide_eq_false (fun e => g e.symm), Bool.false_or]
theorem refHas_ev (l : List ByteArray) (x : ByteArray) (hl : l.length ≤ 140737488351232) : Ev (fun k => qcl_.f k l x) (hasB l x) := refHas_l0 l x hl l.length 0 (by omega)
theorem idx_l0 (l : List ByteArray) (x : ByteArray) (hl : l.length ≤ 140737488351232) : ∀ (d i : Nat), i + d = l.length → ∃ r : Int, Ev (fun k => qaa_.l0 k l x (l.length : Int) i) r ∧ decide (r ≥ 0) = hasB (l.drop i) x
 | 0, i, h => ⟨-1, Ev.step (f := ?_) (fun k => by rw [qaa_.l0, if_neg (by omega)]) (Ev.now _), by rw [List.drop_of_length_le (by omega), has_nil]; rfl⟩
 | d + 1, i, h => by
  have hi : i < l.length := by omega
  rw [has_drop l x i hi]
  by_cases g : x.data.toList = l[i].data.toList
  ·exact ⟨(i : Int), Ev.step (f := ?_) (fun k => by rw [qaa_.l0, if_pos (by omega), if_pos (by omega), if_pos (by omega), qfa_ l i hi, if_pos (by rw [ByteArray.toList_eq, ByteArray.toList_eq]; exact g)]) (Ev.now _), by rw [decide_eq_true g, Bool.true_or]; exact decide_eq_true (by omega)⟩
  ·obtain ⟨r, h1, h2⟩ := idx_l0 l x hl d (i + 1) (by omega)
   exact ⟨r, Ev.step (f := ?_) (fun k => by rw [qaa_.l0, if_pos (by omega), if_pos (by omega), if_pos (by omega), qfa_ l i hi, if_neg (by rw [ByteArray.toList_eq, ByteArray.toList_eq]; exact g), qej_ i (by omega)]) h1, by rw [decide_eq_false g, Bool.false_or]; exact h2⟩
theorem contains_ev (l : List ByteArray) (x : ByteArray) (hl : l.length ≤ 140737488351232) : Ev (fun k => qbb_.f k l x) (hasB l x) := by
 obtain ⟨r, h1, h2⟩ := idx_l0 l x hl l.length 0 (by omega)
 exact Ev.bind h1 (ev_eq (Ev.now _) h2)
theorem uniq_l1 (l : List ByteArray) (hl : l.length ≤ 1000000) : ∀ (u : List ByteArray) (i : Nat) (out : List ByteArray), l.drop i = u → out.length ≤ i → Ev (fun k => qw_.l1 k out l (l.length : Int) i) (uniqB out u, 0)
 | [], i, out, hu, ho => by
  have hi : l.length ≤ i := by have := congrArg List.length hu; rw [List.length_drop] at this; simp at this; omega
  exact Ev.step (f := ?_) (fun k => by rw [qw_.l1, if_neg (by omega)]) (Ev.now _)
 | x :: r, i, out, hu, ho => by
  have hi : i < l.length := by have := congrArg List.length hu; rw [List.length_drop, List.length_cons] at this; omega
  rw [List.drop_eq_getElem_cons hi] at hu
  obtain ⟨e1, e2⟩ := List.cons.inj hu
  refine Ev.step (f := ?_) (fun k => by rw [qw_.l1, if_pos (by omega), if_pos (by omega), if_pos (by omega), qfa_ l i hi, qej_ i (by omega)]) ?_
  rw [e1, uniqB]
  refine Ev.bind (contains_ev out x (by omega)) (qm_ (fun g => ?_) (fun g => ?_))
  ·rw [if_pos g]; exact uniq_l1 l hl r (i + 1) out e2 (by omega)
  ·rw [if_neg g]
   exact qbi_ (by omega) (uniq_l1 l hl r (i + 1) (out ++ [x]) e2 (by rw [List.length_append]; simp only [List.length_cons, List.length_nil]; omega))
theorem qhw_ (l : List ByteArray) (hl : l.length ≤ 1000000) : ∀ (u : List ByteArray) (i : Nat) (out : List ByteArray), l.drop i = u → out.length ≤ i → Ev (fun k => qt_.l1 k l out i) (uniqB out u, 0)
 | [], i, out, hu, ho => by
  have hi : l.length ≤ i := by have := congrArg List.length hu; rw [List.length_drop] at this; simp at this; omega
  exact Ev.step (f := ?_) (fun k => by rw [qt_.l1, if_neg (by omega)]) (Ev.now _)
 | x :: r, i, out, hu, ho => by
  have hi : i < l.length := by have := congrArg List.length hu; rw [List.length_drop, List.length_cons] at this; omega
  rw [List.drop_eq_getElem_cons hi] at hu
  obtain ⟨e1, e2⟩ := List.cons.inj hu
  refine Ev.step (f := ?_) (fun k => by rw [qt_.l1, if_pos (by omega), if_pos (by omega), qfa_ l i hi, qej_ i (by omega)]) ?_
  rw [e1, uniqB]
  refine Ev.bind (refHas_ev out x (by omega)) (qm_ (fun g => ?_) (fun g => ?_))
  ·rw [if_pos g]; exact qhw_ l hl r (i + 1) out e2 (by omega)
  ·rw [if_neg g]
   exact qbi_ (by omega) (qhw_ l hl r (i + 1) (out ++ [x]) e2 (by rw [List.length_append]; simp only [List.length_cons, List.length_nil]; omega))
theorem uniq_ev (l : List ByteArray) (hl : l.length ≤ 1000000) : Ev (fun k => qw_.j1 k l) (uniqB [] l, 0) :=
 Ev.step (f := ?_) (fun k => by rw [qw_.j1]) (uniq_l1 l hl l 0 [] List.drop_zero (Nat.zero_le _))
theorem qgw_ (l : List ByteArray) (hl : l.length ≤ 1000000) : Ev (fun k => qt_.j1 k l) (uniqB [] l, 0) :=
 Ev.step (f := ?_) (fun k => by rw [qt_.j1]) (qhw_ l hl l 0 [] List.drop_zero (Nat.zero_le _))
theorem ids_l0 (l : List S108) (hl : l.length ≤ 100000) : ∀ (u : List S108) (i : Nat) (acc : List ByteArray), l.drop i = u → acc.length ≤ i → i ≤ l.length → Ev (fun k => qw_.l0 k acc l (l.length : Int) i) (uniqB [] (acc ++ u.map fun e => e.f2), 0)
 | [], i, acc, hu, ha, hb => by
  have hi : l.length ≤ i := by have := congrArg List.length hu; rw [List.length_drop] at this; simp at this; omega
  rw [List.map_nil, List.append_nil]
  exact Ev.step (f := ?_) (fun k => by rw [qw_.l0, if_neg (by omega)]) (uniq_ev acc (by omega))
 | x :: r, i, acc, hu, ha, hb => by
  have hi : i < l.length := by have := congrArg List.length hu; rw [List.length_drop, List.length_cons] at this; omega
  rw [List.drop_eq_getElem_cons hi] at hu
  obtain ⟨e1, e2⟩ := List.cons.inj hu
  refine Ev.step (f := ?_) (fun k => by rw [qw_.l0, if_pos (by omega), if_pos (by omega), if_pos (by omega), Tr.rd108_get l i hi, qej_ i (by omega)]) ?_
  rw [e1]
  refine qbi_ (by omega) (ev_eq (ids_l0 l hl r (i + 1) (acc ++ [x.f2]) e2 (by rw [List.length_append]; simp only [List.length_cons, List.length_nil]; omega) (by omega)) ?_)
  rw [List.append_assoc]; rfl
theorem refIds_l0 (l : List S108) (hl : l.length ≤ 100000) : ∀ (u : List S108) (i : Nat) (acc : List ByteArray), l.drop i = u → acc.length ≤ i → i ≤ l.length → Ev (fun k => qt_.l0 k acc l i) (uniqB [] (acc ++ u.map fun e => e.f2), 0)
 | [], i, acc, hu, ha, hb => by
  have hi : l.length ≤ i := by have := congrArg List.length hu; rw [List.length_drop] at this; simp at this; omega
  rw [List.map_nil, List.append_nil]
  exact Ev.step (f := ?_) (fun k => by rw [qt_.l0, if_neg (by omega)]) (qgw_ acc (by omega))
 | x :: r, i, acc, hu, ha, hb => by
  have hi : i < l.length := by have := congrArg List.length hu; rw [List.length_drop, List.length_cons] at this; omega
  rw [List.drop_eq_getElem_cons hi] at hu
  obtain ⟨e1, e2⟩ := List.cons.inj hu
  refine Ev.step (f := ?_) (fun k => by rw [qt_.l0, if_pos (by omega), if_pos (by omega), Tr.rd108_get l i hi, qej_ i (by omega)]) ?_
  rw [e1]
  refine qbi_ (by omega) (ev_eq (refIds_l0 l hl r (i + 1) (acc ++ [x.f2]) e2 (by rw [List.length_append]; simp only [List.length_cons, List.length_nil]; omega) (by omega)) ?_)
  rw [List.append_assoc]; rfl
def linksB (a : Int) (s : ByteArray) : List ByteArray × Int := if wholeB a s = 0 then (uniqB [] (if a = 2 then (treeB s).1.map (fun e => e.f2) else if a = 3 then (qdq_ s).1 :: (qdq_ s).2.1 else if a = 4 then [(qer_ s).1] else []), 0) else ([], wholeB a s)
theorem parse_num (s : ByteArray) : (qdq_ s).2.1.length ≤ s.size := by
 have h := parF_num s.size (k1 s).2.1
 change (kp s).1.length ≤ _ at h
 unfold qdq_
 split
 ·split
  ·exact Nat.zero_le _
  ·split
   ·exact h
   ·exact Nat.zero_le _
 ·exact Nat.zero_le _
theorem tree_num (s : ByteArray) : (treeB s).1.length ≤ s.size := by
 have := Tr.parseF_len s.size s []
 unfold treeB
 simpa using this
theorem Links_ev (a : Int) (s : ByteArray) (hs : s.size ≤ 8000) : Ev (fun k => qw_.f k a s) (linksB a s) := by
 have hp := parse_num s
 have ht := tree_num s
 refine Ev.bind (Whole_ev a s hs) ?_
 unfold linksB
 refine qm_ (fun h => ?_) (fun h => ?_)
 ·rw [if_pos h]
  refine qm_ (fun h2 => ?_) (fun h2 => qm_ (fun h3 => ?_) (fun h3 => qm_ (fun h4 => ?_) (fun h4 => ?_)))
  ·rw [if_pos h2]; exact Ev.bind (Tr.Parse_ev s (by omega)) (ids_l0 (treeB s).1 (by omega) _ 0 [] List.drop_zero (Nat.zero_le _) (Nat.zero_le _))
  ·rw [if_neg h2, if_pos h3]
   refine Ev.bind (Parse_ev s (by omega)) ?_
   simp only [Option.bind_some]
   exact qbi_ (by simp only [List.length_cons, List.length_nil]; omega) (uniq_ev _ (by simp only [List.length_append, List.length_cons, List.length_nil]; omega))
  ·rw [if_neg h2, if_neg h3, if_pos h4]; exact Ev.bind (ParseTag_ev s (by omega)) (uniq_ev _ (by simp))
  ·rw [if_neg h2, if_neg h3, if_neg h4]; exact uniq_ev _ (by simp)
 ·rw [if_neg h]; exact Ev.now _
theorem refLinks_ev (a : Int) (s : ByteArray) (hs : s.size ≤ 8000) : Ev (fun k => qt_.f k a s) (linksB a s) := by
 have hp := parse_num s
 have ht := tree_num s
 refine Ev.bind (refWhole_ev a s hs) ?_
 unfold linksB
 refine qm_ (fun h => ?_) (fun h => ?_)
 ·rw [if_pos h]
  refine qm_ (fun h2 => ?_) (fun h2 => qm_ (fun h3 => ?_) (fun h3 => qm_ (fun h4 => ?_) (fun h4 => ?_)))
  ·rw [if_pos h2]; exact Ev.bind (Tr.ref_Parse_ev s (by omega)) (refIds_l0 (treeB s).1 (by omega) _ 0 [] List.drop_zero (Nat.zero_le _) (Nat.zero_le _))
  ·rw [if_neg h2, if_pos h3]
   refine Ev.bind (refParse_ev s (by omega)) (qbi_ (by simp) ?_)
   simp only [Option.bind_some]
   exact qbi_ (by simp only [List.length_append, List.length_cons, List.length_nil]; omega) (qgw_ _ (by simp only [List.length_append, List.length_cons, List.length_nil]; omega))
  ·rw [if_neg h2, if_neg h3, if_pos h4]; exact Ev.bind (qhr_ s (by omega)) (qbi_ (by simp) (qgw_ _ (by simp)))
  ·rw [if_neg h2, if_neg h3, if_neg h4]; exact qgw_ _ (by simp)
 ·rw [if_neg h]; exact Ev.now _
theorem links_num (a : Int) (s : ByteArray) (hs : s.size ≤ 8000) : (linksB a s).1.length ≤ 140737488351232 := by
 have hp := parse_num s
 have ht := tree_num s
 unfold linksB
 split
 ·refine Nat.le_trans (uniqB_len _ _) ?_
  rw [List.length_nil, Nat.zero_add]
  split
  ·rw [List.length_map]; omega
  ·split
   ·rw [List.length_cons]; omega
   ·split <;> simp
 ·exact Nat.zero_le _
end Go.Proofs.YtbhfbbfjdklfgaaGreatDoor.Q
namespace Go.Proofs.YtbhfbbfjdklfgaaGreatDoor.Pure
open Go.RowKit Go.Proofs.YtbhfbbfjdklfgaaGreatDoor.Q YtbhfbbfjdklfgaaGreatDoorW.PrintWords YtbhfbbfjdklfgaaGreatDoorW.PrintLast YtbhfbbfjdklfgaaGreatDoorW.PrintMore
theorem links_ev (a : Int) (s : ByteArray) : Ev (fun k => qau_.f k a s) true := by
 refine qm_ (fun _ => liveOr16) (fun g1 => ?_)
 have hs : s.size ≤ 8000 := by omega
 refine Ev.bind (Links_ev a s hs) (Ev.bind (refLinks_ev a s hs) (Ev.bind lives16 (qbi_ rfl (Ev.bind (Whole_ev a s hs) (Ev.bind (refWhole_ev a s hs) (qbi_ rfl ?_))))))
 have h := same_ev (linksB a s).1 (linksB a s).1 (links_num a s hs)
 rw [decide_eq_true rfl] at h
 refine Ev.bind h (qbi_ rfl (ev_eq (Ev.now _) ?_))
 simp
theorem CommitLinks : ∀ (y0 : S50), ((Lit.int .i64 y0.f0).wf = true ∧ y0.f1.size ≤ 140737488351232) → ∃ k, qau_.f k y0.f0 y0.f1 = some true := by
 intro y0 _
 obtain ⟨k, hk⟩ := links_ev y0.f0 y0.f1
 exact ⟨k, hk k (Nat.le_refl _)⟩
end Go.Proofs.YtbhfbbfjdklfgaaGreatDoor.Pure
namespace Go.Proofs.YtbhfbbfjdklfgaaGreatDoor.Ro
open Go.RowKit Go.Deep YtbhfbbfjdklfgaaGreatDoorW.PrintWords
def Opens (P : Program) (t : TypeId) {α : Type} (d : Kd α) (S : α → Prop) : Prop :=
  ∀ {H : Type} (enc : TypeId × Value → H) (w : World) (fuel : Nat) (cs : List Value) (x : DataW H × List MemPlace),
    DataW.trod enc P w 0 (fun _ => true) true fuel t cs = some x → (∀ n ∈ DataW.weights P t x.1, n ≤ reachBytes) → ∃ y : α, d.K w y cs ∧ S y
section
variable {P : Program} {t e : TypeId}
theorem Opens.int {k : IntKind} (ht : P.underlying t = some (.int k)) : Opens P t (Kd.int k) (fun y => (Lit.int k y).wf = true) := by
  intro H enc w fuel cs x h _
  obtain ⟨n, rfl, rfl, hw⟩ := DataW.trod_int ht h
  exact ⟨n, rfl, hw⟩
theorem Opens.bool (ht : P.underlying t = some .bool) : Opens P t Kd.bool (fun _ => True) := by
  intro H enc w fuel cs x h _
  obtain ⟨b, rfl, rfl⟩ := DataW.trod_bool ht h
  exact ⟨b, rfl, trivial⟩
theorem Opens.string (ht : P.underlying t = some .string) : Opens P t Kd.string (fun y => y.size ≤ 140737488351232) := by
  intro H enc w fuel cs x h hn
  obtain ⟨s, rfl, rfl, _⟩ := DataW.trod_string ht h
  refine ⟨s, rfl, ?_⟩
  have := hn s.data.toList.length (by simp [DataW.weights])
  simpa [reachBytes] using this
theorem choose_list {α : Type} {n : Nat} {p : Nat → α → Prop} (h : ∀ i, i < n → ∃ y, p i y) : ∃ l : List α, l.length = n ∧ ∀ i y, l[i]? = some y → p i y := by
  induction n with
  | zero => exact ⟨[], rfl, fun i y hy => by simp at hy⟩
  | succ n ih =>
    obtain ⟨l, hl, hp⟩ := ih (fun i hi => h i (by omega))
    obtain ⟨y, hy⟩ := h n (by omega)
    refine ⟨l ++ [y], by simp [hl], fun i z hz => ?_⟩
    rcases Nat.lt_or_ge i l.length with hi | hi
    · rw [List.getElem?_append_left hi] at hz
      exact hp i z hz
    · rw [List.getElem?_append_right hi] at hz
      have : i - l.length = 0 := by
        have := (List.getElem?_eq_some_iff.1 hz).1
        simpa using this
      rw [this] at hz
      have h1 : i = n := by omega
      subst h1
      have : y = z := by simpa using hz
      subst this
      exact hy
theorem qhq_ {H : Type} {e : TypeId} : ∀ {l : List (DataW H)} {d : DataW H}, d ∈ l → ∀ n ∈ d.weights P e, n ∈ DataW.weightsAll P e l
  | a :: l, d, hd, n, hn => by
    simp only [DataW.weightsAll, List.mem_append]
    rcases List.mem_cons.1 hd with rfl | hd
    · exact .inl hn
    · exact .inr (qhq_ hd n hn)
theorem Opens.slice {α : Type} {d : Kd α} {S : α → Prop} {b : Nat} (ht : P.underlying t = some (.slice e)) (hc : P.cellsOf e = d.sz) (hb : P.bytesOf e = b) (h : Opens P e d S) :
    Opens P t (Kd.slice e d) (fun l => l.length * b ≤ 140737488351232 ∧ ∀ y ∈ l, S y) := by
  intro H enc w fuel cs x hx hn
  rcases open_slice ht hx with ⟨rfl, rfl⟩ | ⟨a, len, cap, m, n, D, Pl, rfl, _, hl, hm, hmm, rfl, hall⟩
  · exact ⟨[], ⟨none, 0, rfl, Nat.le_refl _, rfl, by simp, fun h => absurd h (by simp)⟩, by simp, by simp⟩
  · simp only [if_true] at hmm
    obtain rfl : m = cap := hmm
    have hel : ∀ i, i < len → ∃ y : α, (∃ cs', w.cells? 0 (a.add (i * P.cellsOf e)) (P.cellsOf e) = some cs' ∧ d.K w y cs') ∧ S y := by
      intro i hi
      obtain ⟨cs', h1, h2⟩ := hall i (by omega)
      obtain ⟨y, hy, hs⟩ := h enc w n cs' _ h2 (fun k hk => hn k (by
        simp only [DataW.weights, ht, List.mem_cons, List.mem_append]
        exact .inr (.inl (qhq_ (List.mem_map.2 ⟨i, List.mem_range.2 hi, rfl⟩) k hk))))
      exact ⟨y, ⟨cs', h1, hy⟩, hs⟩
    obtain ⟨l, hll, hp⟩ := choose_list hel
    subst hll
    have hw : (l.length + (m - l.length)) * b ≤ reachBytes := by
      have := hn _ (by simp only [DataW.weights, ht, List.mem_cons]; exact .inl rfl)
      simpa [hb] using this
    refine ⟨l, ⟨some a, m, rfl, hl, rfl, by unfold maxLen at hm; omega, fun _ => ⟨a, rfl, fun j p hj => ?_⟩⟩, ?_, fun y hy => ?_⟩
    · obtain ⟨⟨cs', h1, hk⟩, _⟩ := hp j p hj
      obtain ⟨_, hlen, hcell⟩ := World.cells?_some h1
      refine ⟨cs', by rw [hlen, hc], hk, fun i u hu => ?_⟩
      have hi : i < P.cellsOf e := by
        have := (List.getElem?_eq_some_iff.1 hu).1
        omega
      have := hcell i hi
      rw [Go.Deep.add_add, hu, hc] at this
      exact this
    · have : l.length * b ≤ (l.length + (m - l.length)) * b := Nat.mul_le_mul_right _ (by omega)
      simp only [reachBytes] at hw
      omega
    · obtain ⟨j, hj⟩ := List.mem_iff_getElem?.1 hy
      exact (hp j y hj).2
def OpensF (P : Program) (fs : List Field) (o : Nat) {α : Type} (d : Kd α) (S : α → Prop) : Prop :=
  ∀ {H : Type} (enc : TypeId × Value → H) (w : World) (n : Nat) (cs : List Value) (ys : List (DataW H × List MemPlace)),
    (∀ (i : Nat) (f : Field), fs[i]? = some f → DataW.trod enc P w 0 (fun _ => true) true n f.type ((cs.drop f.offset).take (P.cellsOf f.type)) = ys[i]?) → ys.length = fs.length →
    (∀ k ∈ DataW.weightsEach P (fs.map (·.type)) (ys.map (·.1)), k ≤ reachBytes) → cs.length = o + d.sz → ∃ y : α, d.K w y (cs.drop o) ∧ S y
theorem OpensF.one {α : Type} {f : Field} {o : Nat} {d : Kd α} {S : α → Prop} (ho : f.offset = o) (hc : P.cellsOf f.type = d.sz) (h : Opens P f.type d S) : OpensF P [f] o d S := by
  intro H enc w n cs ys hf hl hw hlen
  match ys, hl with
  | [y], _ =>
    have h1 := hf 0 f rfl
    rw [ho, hc, List.take_of_length_le (by rw [List.length_drop]; omega)] at h1
    exact h enc w n _ y h1 (fun k hk => hw k (by simp [DataW.weightsEach, hk]))
theorem OpensF.cons {α β : Type} {f : Field} {fs : List Field} {o o' : Nat} {d : Kd α} {d' : Kd β} {S : α → Prop} {S' : β → Prop} (ho : f.offset = o) (hc : P.cellsOf f.type = d.sz) (ho' : o + d.sz = o')
    (h : Opens P f.type d S) (h' : OpensF P fs o' d' S') : OpensF P (f :: fs) o (Kd.pair d d') (fun z => S z.1 ∧ S' z.2) := by
  intro H enc w n cs ys hf hl hw hlen
  match ys, hl with
  | y :: ys, hl =>
    have h1 := hf 0 f rfl
    rw [ho, hc] at h1
    have hlen' : cs.length = o + (d.sz + d'.sz) := hlen
    obtain ⟨a, ha, hs⟩ := h enc w n _ y h1 (fun k hk => hw k (by simp only [List.map_cons, DataW.weightsEach, List.mem_append]; exact .inl hk))
    obtain ⟨b, hb, hs'⟩ := h' enc w n cs ys (fun i g hg => hf (i + 1) g (by simpa using hg)) (by simpa using hl) (fun k hk => hw k (by simp only [List.map_cons, DataW.weightsEach, List.mem_append]; exact .inr hk)) (by omega)
    refine ⟨(a, b), ⟨_, _, ?_, ha, hb⟩, hs, hs'⟩
    rw [← ho', ← List.drop_drop, List.take_append_drop]
theorem Opens.struct {α β : Type} {fs : Array Field} {d : Kd α} {S : α → Prop} {f : β → α} {g : α → β} (ht : P.underlying t = some (.struct fs)) (hc : P.cellsOf t = d.sz) (hfg : ∀ a, f (g a) = a) (h : OpensF P fs.toList 0 d S) :
    Opens P t (Kd.iso d f) (fun y => S (f y)) := by
  intro H enc w fuel cs x hx hn
  obtain ⟨xs, n, _, rfl, hl, hlen, hf⟩ := DataW.trod_struct ht hx
  obtain ⟨a, ha, hs⟩ := h enc w n cs xs (fun i q hq => hf i q (by simpa using hq)) (by simpa using hlen) (fun k hk => hn k (by simpa [DataW.weights, ht] using hk)) (by rw [hl, hc]; omega)
  refine ⟨g a, ?_, by show S (f (g a)); rw [hfg]; exact hs⟩
  show d.K w (f (g a)) cs
  rw [hfg]
  simpa using ha
theorem Opens.imp {α : Type} {d : Kd α} {S S' : α → Prop} (h : Opens P t d S) (hS : ∀ y, S y → S' y) : Opens P t d S' := by
  intro H enc w fuel cs x hx hn
  obtain ⟨y, hy, hs⟩ := h enc w fuel cs x hx hn
  exact ⟨y, hy, hS y hs⟩
theorem Opens.arg {H : Type} {enc : TypeId × Value → H} {α : Type} {d : Kd α} {S : α → Prop} {w : World} {ts : List TypeId} {ds : List (DataW H)} {j : Nat} {v : Value} {dd : DataW H} {ps : List MemPlace} (h : Opens P t d S)
    (hz : (DataW.weightsEach P ts ds).all (· ≤ reachBytes) = true) (ht : ts[j]? = some t) (hd : ds[j]? = some dd) (hv : DataW.Trod enc P w 0 (fun _ => true) true t v dd ps) : ∃ y : α, d.K w y v.cells.toList ∧ S y := by
  obtain ⟨fuel, hf⟩ := hv
  exact h enc w fuel _ (dd, ps) hf (fun n hn => by simpa using List.all_eq_true.1 hz n (DataW.weights_mem_each ht hd n hn))
theorem arg_lt {H : Type} {enc : TypeId × Value → H} {w : World} {v : Value} {dd : DataW H} {ps : List MemPlace} (hv : DataW.Trod enc P w 0 (fun _ => true) true t v dd ps) : ∀ x ∈ ps, x.block < w.heap.size := by
  obtain ⟨m, hm⟩ := hv
  exact DataW.trod_lt m _ _ _ hm
end
end Go.Proofs.YtbhfbbfjdklfgaaGreatDoor.Ro

