/- The law CommitPersons holds: for every input it returns true, and each argument reads afterwards as it read before. -/
import Derived.Test.YtbhfbbfjdklfgaaGreatDoorMYCommitPersons1
import Derived.Test.YtbhfbbfjdklfgaaGreatDoorMCommitPersons1
import Derived.Test.YtbhfbbfjdklfgaaGreatDoorMCommitPersons2
import Derived.Laws.Cover1
import Derived.Lib.AppendZerosOnto
import Derived.Lib.Overlaps
import Derived.Lib.SliceRun
import Derived.Maps.AppendAt
import Derived.Deep.AppendSrc
import Derived.Laws.CopyRow
import Derived.Laws.MakeOwn
import Derived.Lib.AppendStr
import Derived.Maps.OwnOps
import Derived.Maps.OwnSet
import Derived.Maps.Views
import Derived.WalkKit
set_option linter.unusedVariables false
set_option linter.unusedSimpArgs false
namespace Go.Proofs.YtbhfbbfjdklfgaaGreatDoor.Q
open Go.RowKit Go.Proofs.YtbhfbbfjdklfgaaGreatDoorW.PrintWords Go.Proofs.YtbhfbbfjdklfgaaGreatDoorW.PrintLast Go.Proofs.YtbhfbbfjdklfgaaGreatDoorW.PrintMore
attribute [local go_sem] max2_int min2_int max_two min_two max_three min_three max_four min_four   -- for this text's walks alone

mutual
def commit_digits.j0 : Nat → ByteArray → Bool → Option (Int × Bool)
 | 0, _, _ => none
 | k + 1, x0, x27 => if x27 = true then (some (0, false)) else (commit_digits.l0 k x0 (x0.size : Int) 0)
def commit_digits.l0 : Nat → ByteArray → Int → Int → Option (Int × Bool)
 | 0, _, _, _ => none
 | k + 1, x0, x29, x30 => if x30 < x29 then (if 0 ≤ x30 then (if x30 < (x0.size : Int) then (if (bt x0 x30) < 48 then (some (0, false)) else (if (bt x0 x30) > 57 then (some (0, false)) else (commit_digits.l0 k x0 x29 (wrap64 (x30 + 1))))) else (none)) else (none)) else ((strconv_Atoi.f x0).bind fun bt101 => (if bt101.2.isNone = true then (some (bt101.1, true)) else (some (bt101.1, false))))
end
def commit_digits.f (k : Nat) (a0 : ByteArray) (a1 : Int) : Option (Int × Bool) := if (a0.size : Int) < 1 then (commit_digits.j0 k a0 true) else (if (a0.size : Int) > a1 then (commit_digits.j0 k a0 true) else (if (a0.size : Int) > 1 then (if 0 < (a0.size : Int) then (commit_digits.j0 k a0 ((bt a0 0) == 48)) else (none)) else (commit_digits.j0 k a0 false)))
theorem commit_digits.mono_l : ∀ k, (∀ y0 y1, LeO (commit_digits.j0 k y0 y1) (commit_digits.j0 (k + 1) y0 y1)) ∧ (∀ y0 y1 y2, LeO (commit_digits.l0 k y0 y1 y2) (commit_digits.l0 (k + 1) y0 y1 y2))
 | 0 => ⟨fun _ _ r h => by simp [commit_digits.j0] at h, fun _ _ _ r h => by simp [commit_digits.l0] at h⟩
 | k + 1 => by
  obtain ⟨ih0, ih1⟩ := commit_digits.mono_l k
  refine ⟨?_, ?_⟩
  ·intro y0 y1
   unfold commit_digits.j0
   have m0_ := @ih0
   have m1_ := @ih1
   exact mz_
  ·intro y0 y1 y2
   unfold commit_digits.l0
   have m0_ := @ih0
   have m1_ := @ih1
   exact mz_
theorem commit_digits.mono : ∀ a0 a1 k, LeO (commit_digits.f k a0 a1) (commit_digits.f (k + 1) a0 a1) := by
 intro a0 a1 k
 obtain ⟨ih0, ih1⟩ := commit_digits.mono_l k
 unfold commit_digits.f
 have m0_ := @ih0
 have m1_ := @ih1
 exact mz_
set_option maxHeartbeats 8000000 in
set_option maxRecDepth 100000 in
theorem commit_digits.calls (k : Nat) (a0 : ByteArray) (a1 : Int) (r1 : Int) (r2 : Bool) (w : World) (h : commit_digits.f k a0 a1 = some (r1, r2)) :
  Calls Tryz.prog 83 #[.string a0, .int .i64 a1] w fun e w' => e = .returned (.tuple #[.int .i64 r1, .bool r2]) ∧ Below w.heap.size w w' := by
 have hu117 := Tryz.underlying117
 have HB := Aside0.mk (Below.refl w.heap.size w)
 have H : (if (a0.size : Int) < 1 then (commit_digits.j0 k a0 true) else (if (a0.size : Int) > a1 then (commit_digits.j0 k a0 true) else (if (a0.size : Int) > 1 then (if 0 < (a0.size : Int) then (commit_digits.j0 k a0 ((bt a0 0) == 48)) else (none)) else (commit_digits.j0 k a0 false)))) = some (r1, r2) := h
 clear h
 have HC3 := Aside0.mk H
 clear H
 go_enter Tryz.func83, Tryz.ntmps83
 go_upto_region 1 with (fail)
 repeat (go_quiet (fail); go_upto_region 1 with (fail))
 go_cut [27] (fun v27 wc => ∃ (kq : Nat) (x27_2 : Bool), v27 = .bool x27_2 ∧ Aside0 (commit_digits.j0 kq a0 x27_2 = some (r1, r2)) ∧ Aside0 (kq ≤ k) ∧ Aside0 (Below w.heap.size w wc))
 case first =>
  have H := HC3.out
  clear HC3
  by_cases c4 : (a0.size : Int) < 1
  ·rw [if_pos c4] at H
   have c4b0 := decide_eq_true c4
   have c4b1 : decide (a0.size < 1) = true := decide_eq_true (by omega)
   clear c4
   (first | rw [c4b0] | (simp only [i64_w, i32_w]; rw [c4b0]) | skip)
   have H' := Aside0.mk H
   clear H
   go_wp2
   repeat (go_quiet (fail); try go_wp2)
   go_meet
   case rel => exact ⟨_, (true), z1_, H', ⟨z5_⟩, ⟨hb_ HB.out⟩⟩
  ·rw [if_neg c4] at H
   have c4b0 := decide_eq_false c4
   have c4b1 : decide (a0.size < 1) = false := decide_eq_false (by omega)
   clear c4
   (first | rw [c4b0] | (simp only [i64_w, i32_w]; rw [c4b0]) | skip)
   by_cases c5 : (a0.size : Int) > a1
   ·rw [if_pos c5] at H
    have c5b0 := decide_eq_true c5
    clear c5
    have H' := Aside0.mk H
    clear H
    go_wp2
    repeat (go_quiet (fail); try go_wp2)
    go_meet
    case rel => exact ⟨_, (true), z1_, H', ⟨z5_⟩, ⟨hb_ HB.out⟩⟩
   ·rw [if_neg c5] at H
    have c5b0 := decide_eq_false c5
    clear c5
    by_cases c6 : (a0.size : Int) > 1
    ·rw [if_pos c6] at H
     have c6b0 := decide_eq_true c6
     have c6b1 : decide (1 < a0.size) = true := decide_eq_true (by omega)
     clear c6
     by_cases c7 : 0 < (a0.size : Int)
     ·rw [if_pos c7] at H
      have c7b0 := decide_eq_true c7
      have c7b1 : decide (0 < a0.size) = true := decide_eq_true (by omega)
      clear c7
      have H' := Aside0.mk H
      clear H
      have p8 : 0 ≤ (0 : Int) := (by omega)
      have q8 : 0 < a0.size := (by have : (0 : Int) < (a0.size : Int) := of_decide_eq_true z0_; omega)
      have hx8 : ∀ h : 0 < a0.size, ((a0[0]'h).toNat : Int) = bt a0 0 := bt_at a0 0
      clear p8
      have qi8 : (0 < (a0.size : Int)) = True := eq_true (of_decide_eq_true z0_)
      replace q8 := eq_true q8
      go_wp2
      repeat (go_quiet (fail); try go_wp2)
      go_meet
      case rel => exact ⟨_, (((bt a0 0) == 48)), z1_, H', ⟨z5_⟩, ⟨hb_ HB.out⟩⟩
     ·rw [if_neg c7] at H
      exact absurd H (by simp)
    ·rw [if_neg c6] at H
     have c6b0 := decide_eq_false c6
     have c6b1 : decide (1 < a0.size) = false := decide_eq_false (by omega)
     clear c6
     have H' := Aside0.mk H
     clear H
     go_wp2
     repeat (go_quiet (fail); try go_wp2)
     go_meet
     case rel => exact ⟨_, (false), z1_, H', ⟨z5_⟩, ⟨hb_ HB.out⟩⟩
 case rest =>
  clear HC3
  try clear p2
  try clear c4
  try clear c4b0
  try clear c4b1
  try clear c5
  try clear c5b0
  try clear c6
  try clear c6b0
  try clear c6b1
  try clear c7
  try clear c7b0
  try clear c7b1
  try clear c8
  try clear p8
  try clear q8
  try clear hx8
  try clear qi8
  try clear p8
  try clear q8
  obtain ⟨kq, x27_2, rfl, HA, HJ2, HB⟩ := hcut
  cases kq with
  | zero => exact absurd HA.out (by simp [commit_digits.j0])
  | succ kj2 =>
   have H := HA.out
   clear HA
   simp only [commit_digits.j0] at H
   by_cases c9 : x27_2 = true
   ·subst c9
    have H1 : (some (0, false)) = some (r1, r2) := by rw [if_pos rfl] at H; exact H
    clear H
    have H := H1
    clear H1
    simp only [Option.some.injEq, Prod.mk.injEq] at H
    obtain ⟨rfl, rfl⟩ := H
    go_wp2
    repeat (go_quiet (fail); try go_wp2)
    go_ret2
    exact ⟨z4_, hb_ HB.out⟩
   ·replace c9 := Bool.eq_false_iff.mpr c9
    subst c9
    have H1 : (commit_digits.l0 kj2 a0 (a0.size : Int) 0) = some (r1, r2) := by rw [if_neg (show ¬ (false = true) by decide)] at H; exact H
    clear H
    have H := H1
    clear H1
    have H' := Aside0.mk H
    clear H
    go_wp2
    repeat (go_quiet (fail); try go_wp2)
    go_loopg [30] kj2 (fun kq v30 w' => ∃ (x30_2 : Int), v30 = .int .i64 x30_2 ∧ Aside0 (commit_digits.l0 kq a0 (a0.size : Int) x30_2 = some (r1, r2)) ∧ Aside0 (kq ≤ kj2) ∧ Aside0 (Below w.heap.size w w'))
    case atStart => exact ⟨(0), z1_, H', ⟨Nat.le_refl _⟩, ⟨hb_ HB.out⟩⟩
    case round =>
     clear H'
     try clear p2
     try clear c4
     try clear c4b0
     try clear c4b1
     try clear c5
     try clear c5b0
     try clear c6
     try clear c6b0
     try clear c6b1
     try clear c7
     try clear c7b0
     try clear c7b1
     try clear c8
     try clear p8
     try clear q8
     try clear hx8
     try clear qi8
     try clear c9
     try clear p2
     try clear p8
     try clear q8
     obtain ⟨x30_2, rfl, HA, HK2, HB⟩ := hrel
     cases gk with
     | zero => exact absurd HA.out (by simp [commit_digits.l0])
     | succ k2 =>
      have H := HA.out
      clear HA
      simp only [commit_digits.l0] at H
      by_cases c10 : x30_2 < (a0.size : Int)
      ·rw [if_pos c10] at H
       have c10b0 := decide_eq_true c10
       clear c10
       by_cases c11 : 0 ≤ x30_2
       ·rw [if_pos c11] at H
        have c11b0 := decide_eq_true c11
        clear c11
        by_cases c12 : x30_2 < (a0.size : Int)
        ·rw [if_pos c12] at H
         have c12b0 := decide_eq_true c12
         clear c12
         by_cases c14 : (bt a0 x30_2) < 48
         ·rw [if_pos c14] at H
          have c14b0 := decide_eq_true c14
          clear c14
          simp only [Option.some.injEq, Prod.mk.injEq] at H
          obtain ⟨rfl, rfl⟩ := H
          have p13 : 0 ≤ (x30_2 : Int) := of_decide_eq_true z0_
          have q13 : x30_2 < (a0.size : Int) := of_decide_eq_true z0_
          have hx13 := bt_at a0 x30_2
          replace p13 := eq_true p13
          replace q13 := eq_true q13
          go_wp2
          repeat (go_quiet (fail); try go_wp2)
          go_ret2
          exact ⟨z4_, hb_ HB.out⟩
         ·rw [if_neg c14] at H
          have c14b0 := decide_eq_false c14
          clear c14
          by_cases c16 : (bt a0 x30_2) > 57
          ·rw [if_pos c16] at H
           have c16b0 := decide_eq_true c16
           clear c16
           simp only [Option.some.injEq, Prod.mk.injEq] at H
           obtain ⟨rfl, rfl⟩ := H
           have p13 : 0 ≤ (x30_2 : Int) := of_decide_eq_true z0_
           have q13 : x30_2 < (a0.size : Int) := of_decide_eq_true z0_
           have hx13 := bt_at a0 x30_2
           replace p13 := eq_true p13
           replace q13 := eq_true q13
           have p15 : 0 ≤ (x30_2 : Int) := of_decide_eq_true z0_
           have q15 : x30_2 < (a0.size : Int) := of_decide_eq_true z0_
           have hx15 := bt_at a0 x30_2
           replace p15 := eq_true p15
           replace q15 := eq_true q15
           go_wp2
           repeat (go_quiet (fail); try go_wp2)
           go_ret2
           exact ⟨z4_, hb_ HB.out⟩
          ·rw [if_neg c16] at H
           have c16b0 := decide_eq_false c16
           clear c16
           have H' := Aside0.mk H
           clear H
           have p13 : 0 ≤ (x30_2 : Int) := of_decide_eq_true z0_
           have q13 : x30_2 < (a0.size : Int) := of_decide_eq_true z0_
           have hx13 := bt_at a0 x30_2
           replace p13 := eq_true p13
           replace q13 := eq_true q13
           have p15 : 0 ≤ (x30_2 : Int) := of_decide_eq_true z0_
           have q15 : x30_2 < (a0.size : Int) := of_decide_eq_true z0_
           have hx15 := bt_at a0 x30_2
           replace p15 := eq_true p15
           replace q15 := eq_true q15
           go_wp2
           repeat (go_quiet (fail); try go_wp2)
           go_roundg k2
           case measure => have := HJ2.out; have := HK2.out; omega
           case rel => exact ⟨(wrap64 (x30_2 + 1)), z1_, H', ⟨by have := HJ2.out; have := HK2.out; omega⟩, ⟨hb_ HB.out⟩⟩
        ·rw [if_neg c12] at H
         exact absurd H (by simp)
       ·rw [if_neg c11] at H
        exact absurd H (by simp)
      ·rw [if_neg c10] at H
       have c10b0 := decide_eq_false c10
       clear c10
       replace H := Option.bind_eq_some_iff.mp H
       obtain ⟨⟨t101, t102⟩, A170, H⟩ := H
       replace H : (if t102.isNone = true then (some (t101, true)) else (some (t101, false))) = some (r1, r2) := H
       have A17 := Aside0.mk A170
       clear A170
       rcases t102 with _ | q103
       ·have H1 : (some (t101, true)) = some (r1, r2) := by rw [if_pos (show (none : Option Int).isNone = true by rfl)] at H; exact H
        clear H
        have H := H1
        clear H1
        try simp only [errW_none, errW_some]
        simp only [Option.some.injEq, Prod.mk.injEq] at H
        obtain ⟨rfl, rfl⟩ := H
        go_wp2_with (first | (go_at_call 145; (with_reducible refine (strconv_Atoi.calls a0 t101 none _ A17.out).mono ?_); rintro e w18 ⟨rfl, hb⟩; replace HB := Aside0.mk (below_step (hb_ HB.out) hb); (try clear hb); (try clear hb2); (try clear hk); (try clear hi); (try simp only [errW_none, errW_some])))
        repeat (go_quiet (first | (go_at_call 145; (with_reducible refine (strconv_Atoi.calls a0 t101 none _ A17.out).mono ?_); rintro e w18 ⟨rfl, hb⟩; replace HB := Aside0.mk (below_step (hb_ HB.out) hb); (try clear hb); (try clear hb2); (try clear hk); (try clear hi); (try simp only [errW_none, errW_some]))); try go_wp2_with (first | (go_at_call 145; (with_reducible refine (strconv_Atoi.calls a0 t101 none _ A17.out).mono ?_); rintro e w18 ⟨rfl, hb⟩; replace HB := Aside0.mk (below_step (hb_ HB.out) hb); (try clear hb); (try clear hb2); (try clear hk); (try clear hi); (try simp only [errW_none, errW_some]))))
        go_ret2
        exact ⟨z4_, hb_ HB.out⟩
       ·have H1 : (some (t101, false)) = some (r1, r2) := by rw [if_neg (show ¬ (some q103).isNone = true by simp)] at H; exact H
        clear H
        have H := H1
        clear H1
        try simp only [errW_none, errW_some]
        simp only [Option.some.injEq, Prod.mk.injEq] at H
        obtain ⟨rfl, rfl⟩ := H
        go_wp2_with (first | (go_at_call 145; (with_reducible refine (strconv_Atoi.calls a0 t101 (some q103) _ A17.out).mono ?_); rintro e w19 ⟨rfl, hb⟩; replace HB := Aside0.mk (below_step (hb_ HB.out) hb); (try clear hb); (try clear hb2); (try clear hk); (try clear hi); (try simp only [errW_none, errW_some])))
        repeat (go_quiet (first | (go_at_call 145; (with_reducible refine (strconv_Atoi.calls a0 t101 (some q103) _ A17.out).mono ?_); rintro e w19 ⟨rfl, hb⟩; replace HB := Aside0.mk (below_step (hb_ HB.out) hb); (try clear hb); (try clear hb2); (try clear hk); (try clear hi); (try simp only [errW_none, errW_some]))); try go_wp2_with (first | (go_at_call 145; (with_reducible refine (strconv_Atoi.calls a0 t101 (some q103) _ A17.out).mono ?_); rintro e w19 ⟨rfl, hb⟩; replace HB := Aside0.mk (below_step (hb_ HB.out) hb); (try clear hb); (try clear hb2); (try clear hk); (try clear hi); (try simp only [errW_none, errW_some]))))
        go_ret2
        exact ⟨z4_, hb_ HB.out⟩


mutual
def commit_zone.j0 : Nat → ByteArray → Bool → Option (Int × Bool)
 | 0, _, _ => none
 | k + 1, x0, x25 => if x25 = true then (some (0, false)) else (commit_zone.l0 k x0 1)
def commit_zone.l0 : Nat → ByteArray → Int → Option (Int × Bool)
 | 0, _, _ => none
 | k + 1, x0, x4 => if x4 < 5 then (if 0 ≤ x4 then (if x4 < (x0.size : Int) then (if (bt x0 x4) < 48 then (some (0, false)) else (if (bt x0 x4) > 57 then (some (0, false)) else (commit_zone.l0 k x0 (wrap64 (x4 + 1))))) else (none)) else (none)) else (if 1 ≤ 3 then (if 3 ≤ (x0.size : Int) then ((strconv_Atoi.f (x0.extract 1 3)).bind fun bt104 => ((strconv_Atoi.f (x0.extract 3 x0.size)).bind fun bt106 => (if bt106.1 ≥ 60 then (some (0, false)) else (if 0 < (x0.size : Int) then (if (bt x0 0) = 45 then (some (wrap64 ((wrap64 ((-60) * bt104.1)) - bt106.1), true)) else (some (wrap64 ((wrap64 (60 * bt104.1)) + bt106.1), true))) else (none))))) else (none)) else (none))
end
def commit_zone.f (k : Nat) (a0 : ByteArray) : Option (Int × Bool) := if (a0.size : Int) = 5 then (if 0 < (a0.size : Int) then (if (bt a0 0) = 43 then (commit_zone.j0 k a0 (a0.toList == ([45, 48, 48, 48, 48] : List UInt8))) else (if (bt a0 0) = 45 then (commit_zone.j0 k a0 (a0.toList == ([45, 48, 48, 48, 48] : List UInt8))) else (commit_zone.j0 k a0 true))) else (none)) else (commit_zone.j0 k a0 true)
theorem commit_zone.mono_l : ∀ k, (∀ y0 y1, LeO (commit_zone.j0 k y0 y1) (commit_zone.j0 (k + 1) y0 y1)) ∧ (∀ y0 y1, LeO (commit_zone.l0 k y0 y1) (commit_zone.l0 (k + 1) y0 y1))
 | 0 => ⟨fun _ _ r h => by simp [commit_zone.j0] at h, fun _ _ r h => by simp [commit_zone.l0] at h⟩
 | k + 1 => by
  obtain ⟨ih0, ih1⟩ := commit_zone.mono_l k
  refine ⟨?_, ?_⟩
  ·intro y0 y1
   unfold commit_zone.j0
   have m0_ := @ih0
   have m1_ := @ih1
   exact mz_
  ·intro y0 y1
   unfold commit_zone.l0
   have m0_ := @ih0
   have m1_ := @ih1
   exact mz_
theorem commit_zone.mono : ∀ a0 k, LeO (commit_zone.f k a0) (commit_zone.f (k + 1) a0) := by
 intro a0 k
 obtain ⟨ih0, ih1⟩ := commit_zone.mono_l k
 unfold commit_zone.f
 have m0_ := @ih0
 have m1_ := @ih1
 exact mz_
set_option maxHeartbeats 8000000 in
set_option maxRecDepth 100000 in
theorem commit_zone.calls (k : Nat) (a0 : ByteArray) (r1 : Int) (r2 : Bool) (w : World) (h : commit_zone.f k a0 = some (r1, r2)) :
  Calls Tryz.prog 84 #[.string a0] w fun e w' => e = .returned (.tuple #[.int .i64 r1, .bool r2]) ∧ Below w.heap.size w w' := by
 have HB := Aside0.mk (Below.refl w.heap.size w)
 have H : (if (a0.size : Int) = 5 then (if 0 < (a0.size : Int) then (if (bt a0 0) = 43 then (commit_zone.j0 k a0 (a0.toList == ([45, 48, 48, 48, 48] : List UInt8))) else (if (bt a0 0) = 45 then (commit_zone.j0 k a0 (a0.toList == ([45, 48, 48, 48, 48] : List UInt8))) else (commit_zone.j0 k a0 true))) else (none)) else (commit_zone.j0 k a0 true)) = some (r1, r2) := h
 clear h
 have HC2 := Aside0.mk H
 clear H
 go_enter Tryz.func84, Tryz.ntmps84
 go_upto_region 1 with (fail)
 go_cut [25] (fun v25 wc => ∃ (kq : Nat) (x25_1 : Bool), v25 = .bool x25_1 ∧ Aside0 (commit_zone.j0 kq a0 x25_1 = some (r1, r2)) ∧ Aside0 (kq ≤ k) ∧ Aside0 (Below w.heap.size w wc))
 case first =>
  have H := HC2.out
  clear HC2
  by_cases c3 : (a0.size : Int) = 5
  ·rw [if_pos c3] at H
   have c3b0 := beq_iff_eq.mpr c3
   have c3b1 := bne_eq_false_iff_eq.mpr c3
   clear c3
   (first | rw [c3b0] | (simp only [i64_w, i32_w]; rw [c3b0]) | skip)
   by_cases c4 : 0 < (a0.size : Int)
   ·rw [if_pos c4] at H
    have c4b0 := decide_eq_true c4
    have c4b1 : decide (0 < a0.size) = true := decide_eq_true (by omega)
    clear c4
    by_cases c6 : (bt a0 0) = 43
    ·rw [if_pos c6] at H
     have c6b0 := beq_iff_eq.mpr c6
     have c6b1 := bne_eq_false_iff_eq.mpr c6
     clear c6
     have H' := Aside0.mk H
     clear H
     have p5 : 0 ≤ (0 : Int) := (by omega)
     have q5 : 0 < a0.size := (by have : (0 : Int) < (a0.size : Int) := of_decide_eq_true z0_; omega)
     have hx5 : ∀ h : 0 < a0.size, ((a0[0]'h).toNat : Int) = bt a0 0 := bt_at a0 0
     clear p5
     have qi5 : (0 < (a0.size : Int)) = True := eq_true (of_decide_eq_true z0_)
     replace q5 := eq_true q5
     go_wp2
     go_meet
     case rel => exact ⟨_, ((a0.toList == ([45, 48, 48, 48, 48] : List UInt8))), z1_, H', ⟨z5_⟩, ⟨hb_ HB.out⟩⟩
    ·rw [if_neg c6] at H
     have c6b0 := beq_eq_false_iff_ne.mpr c6
     have c6b1 := bne_iff_ne.mpr c6
     by_cases c8 : (bt a0 0) = 45
     ·rw [if_pos c8] at H
      have c8b0 := beq_iff_eq.mpr c8
      have c8b1 := bne_eq_false_iff_eq.mpr c8
      clear c8
      have H' := Aside0.mk H
      clear H
      have p5 : 0 ≤ (0 : Int) := (by omega)
      have q5 : 0 < a0.size := (by have : (0 : Int) < (a0.size : Int) := of_decide_eq_true z0_; omega)
      have hx5 : ∀ h : 0 < a0.size, ((a0[0]'h).toNat : Int) = bt a0 0 := bt_at a0 0
      clear p5
      have qi5 : (0 < (a0.size : Int)) = True := eq_true (of_decide_eq_true z0_)
      replace q5 := eq_true q5
      have p7 : 0 ≤ (0 : Int) := (by omega)
      have q7 : 0 < a0.size := (by have : (0 : Int) < (a0.size : Int) := of_decide_eq_true z0_; omega)
      have hx7 : ∀ h : 0 < a0.size, ((a0[0]'h).toNat : Int) = bt a0 0 := bt_at a0 0
      clear p7
      have qi7 : (0 < (a0.size : Int)) = True := eq_true (of_decide_eq_true z0_)
      replace q7 := eq_true q7
      go_wp2
      go_meet
      case rel => exact ⟨_, ((a0.toList == ([45, 48, 48, 48, 48] : List UInt8))), z1_, H', ⟨z5_⟩, ⟨hb_ HB.out⟩⟩
     ·rw [if_neg c8] at H
      have c8b0 := beq_eq_false_iff_ne.mpr c8
      have c8b1 := bne_iff_ne.mpr c8
      have H' := Aside0.mk H
      clear H
      have p5 : 0 ≤ (0 : Int) := (by omega)
      have q5 : 0 < a0.size := (by have : (0 : Int) < (a0.size : Int) := of_decide_eq_true z0_; omega)
      have hx5 : ∀ h : 0 < a0.size, ((a0[0]'h).toNat : Int) = bt a0 0 := bt_at a0 0
      clear p5
      have qi5 : (0 < (a0.size : Int)) = True := eq_true (of_decide_eq_true z0_)
      replace q5 := eq_true q5
      have p7 : 0 ≤ (0 : Int) := (by omega)
      have q7 : 0 < a0.size := (by have : (0 : Int) < (a0.size : Int) := of_decide_eq_true z0_; omega)
      have hx7 : ∀ h : 0 < a0.size, ((a0[0]'h).toNat : Int) = bt a0 0 := bt_at a0 0
      clear p7
      have qi7 : (0 < (a0.size : Int)) = True := eq_true (of_decide_eq_true z0_)
      replace q7 := eq_true q7
      go_wp2
      go_meet
      case rel => exact ⟨_, (true), z1_, H', ⟨z5_⟩, ⟨hb_ HB.out⟩⟩
   ·rw [if_neg c4] at H
    exact absurd H (by simp)
  ·rw [if_neg c3] at H
   have c3b0 := beq_eq_false_iff_ne.mpr c3
   have c3b1 := bne_iff_ne.mpr c3
   (first | rw [c3b0] | (simp only [i64_w, i32_w]; rw [c3b0]) | skip)
   have H' := Aside0.mk H
   clear H
   go_wp2
   go_meet
   case rel => exact ⟨_, (true), z1_, H', ⟨z5_⟩, ⟨hb_ HB.out⟩⟩
 case rest =>
  clear HC2
  try clear p2
  try clear c3
  try clear c3b0
  try clear c3b1
  try clear c4
  try clear c4b0
  try clear c4b1
  try clear p5
  try clear q5
  try clear hx5
  try clear qi5
  try clear c6
  try clear c6b0
  try clear c6b1
  try clear p7
  try clear q7
  try clear hx7
  try clear qi7
  try clear c8
  try clear c8b0
  try clear c8b1
  try clear p5
  try clear p7
  try clear q5
  try clear q7
  obtain ⟨kq, x25_1, rfl, HA, HJ1, HB⟩ := hcut
  cases kq with
  | zero => exact absurd HA.out (by simp [commit_zone.j0])
  | succ kj1 =>
   have H := HA.out
   clear HA
   simp only [commit_zone.j0] at H
   by_cases c9 : x25_1 = true
   ·subst c9
    have H1 : (some (0, false)) = some (r1, r2) := by rw [if_pos rfl] at H; exact H
    clear H
    have H := H1
    clear H1
    simp only [Option.some.injEq, Prod.mk.injEq] at H
    obtain ⟨rfl, rfl⟩ := H
    go_wp2
    go_ret2
    exact ⟨z4_, hb_ HB.out⟩
   ·replace c9 := Bool.eq_false_iff.mpr c9
    subst c9
    have H1 : (commit_zone.l0 kj1 a0 1) = some (r1, r2) := by rw [if_neg (show ¬ (false = true) by decide)] at H; exact H
    clear H
    have H := H1
    clear H1
    have H' := Aside0.mk H
    clear H
    go_wp2
    go_loopg [4] kj1 (fun kq v4 w' => ∃ (x4_2 : Int), v4 = .int .i64 x4_2 ∧ Aside0 (commit_zone.l0 kq a0 x4_2 = some (r1, r2)) ∧ Aside0 (kq ≤ kj1) ∧ Aside0 (Below w.heap.size w w'))
    case atStart => exact ⟨(1), z1_, H', ⟨Nat.le_refl _⟩, ⟨hb_ HB.out⟩⟩
    case round =>
     clear H'
     try clear p2
     try clear c3
     try clear c3b0
     try clear c3b1
     try clear c4
     try clear c4b0
     try clear c4b1
     try clear p5
     try clear q5
     try clear hx5
     try clear qi5
     try clear c6
     try clear c6b0
     try clear c6b1
     try clear p7
     try clear q7
     try clear hx7
     try clear qi7
     try clear c8
     try clear c8b0
     try clear c8b1
     try clear c9
     try clear p2
     try clear p5
     try clear p7
     try clear q5
     try clear q7
     obtain ⟨x4_2, rfl, HA, HK2, HB⟩ := hrel
     cases gk with
     | zero => exact absurd HA.out (by simp [commit_zone.l0])
     | succ k2 =>
      have H := HA.out
      clear HA
      simp only [commit_zone.l0] at H
      by_cases c10 : x4_2 < 5
      ·rw [if_pos c10] at H
       have c10b0 := decide_eq_true c10
       clear c10
       by_cases c11 : 0 ≤ x4_2
       ·rw [if_pos c11] at H
        have c11b0 := decide_eq_true c11
        clear c11
        by_cases c12 : x4_2 < (a0.size : Int)
        ·rw [if_pos c12] at H
         have c12b0 := decide_eq_true c12
         clear c12
         by_cases c14 : (bt a0 x4_2) < 48
         ·rw [if_pos c14] at H
          have c14b0 := decide_eq_true c14
          clear c14
          simp only [Option.some.injEq, Prod.mk.injEq] at H
          obtain ⟨rfl, rfl⟩ := H
          have p13 : 0 ≤ (x4_2 : Int) := of_decide_eq_true z0_
          have q13 : x4_2 < (a0.size : Int) := of_decide_eq_true z0_
          have hx13 := bt_at a0 x4_2
          replace p13 := eq_true p13
          replace q13 := eq_true q13
          go_wp2
          go_ret2
          exact ⟨z4_, hb_ HB.out⟩
         ·rw [if_neg c14] at H
          have c14b0 := decide_eq_false c14
          clear c14
          by_cases c16 : (bt a0 x4_2) > 57
          ·rw [if_pos c16] at H
           have c16b0 := decide_eq_true c16
           clear c16
           simp only [Option.some.injEq, Prod.mk.injEq] at H
           obtain ⟨rfl, rfl⟩ := H
           have p13 : 0 ≤ (x4_2 : Int) := of_decide_eq_true z0_
           have q13 : x4_2 < (a0.size : Int) := of_decide_eq_true z0_
           have hx13 := bt_at a0 x4_2
           replace p13 := eq_true p13
           replace q13 := eq_true q13
           have p15 : 0 ≤ (x4_2 : Int) := of_decide_eq_true z0_
           have q15 : x4_2 < (a0.size : Int) := of_decide_eq_true z0_
           have hx15 := bt_at a0 x4_2
           replace p15 := eq_true p15
           replace q15 := eq_true q15
           go_wp2
           go_ret2
           exact ⟨z4_, hb_ HB.out⟩
          ·rw [if_neg c16] at H
           have c16b0 := decide_eq_false c16
           clear c16
           have H' := Aside0.mk H
           clear H
           have p13 : 0 ≤ (x4_2 : Int) := of_decide_eq_true z0_
           have q13 : x4_2 < (a0.size : Int) := of_decide_eq_true z0_
           have hx13 := bt_at a0 x4_2
           replace p13 := eq_true p13
           replace q13 := eq_true q13
           have p15 : 0 ≤ (x4_2 : Int) := of_decide_eq_true z0_
           have q15 : x4_2 < (a0.size : Int) := of_decide_eq_true z0_
           have hx15 := bt_at a0 x4_2
           replace p15 := eq_true p15
           replace q15 := eq_true q15
           go_wp2
           go_roundg k2
           case measure => have := HJ1.out; have := HK2.out; omega
           case rel => exact ⟨(wrap64 (x4_2 + 1)), z1_, H', ⟨by have := HJ1.out; have := HK2.out; omega⟩, ⟨hb_ HB.out⟩⟩
        ·rw [if_neg c12] at H
         exact absurd H (by simp)
       ·rw [if_neg c11] at H
        exact absurd H (by simp)
      ·rw [if_neg c10] at H
       have c10b0 := decide_eq_false c10
       clear c10
       by_cases c17 : 1 ≤ 3
       ·rw [if_pos c17] at H
        have c17b0 := eq_true c17
        have c17b1 := decide_eq_true c17
        clear c17
        by_cases c18 : 3 ≤ (a0.size : Int)
        ·rw [if_pos c18] at H
         have c18b0 := eq_true c18
         have c18b1 := decide_eq_true c18
         clear c18
         replace H := Option.bind_eq_some_iff.mp H
         obtain ⟨⟨t104, t105⟩, A190, H⟩ := H
         replace H : ((strconv_Atoi.f (a0.extract 3 a0.size)).bind fun bt106 => (if bt106.1 ≥ 60 then (some (0, false)) else (if 0 < (a0.size : Int) then (if (bt a0 0) = 45 then (some (wrap64 ((wrap64 ((-60) * t104)) - bt106.1), true)) else (some (wrap64 ((wrap64 (60 * t104)) + bt106.1), true))) else (none)))) = some (r1, r2) := H
         have A19 := Aside0.mk A190
         clear A190
         have c20b0 := eq_true (of_decide_eq_true z0_ : 3 ≤ (a0.size : Int))
         replace H := Option.bind_eq_some_iff.mp H
         obtain ⟨⟨t106, t107⟩, A210, H⟩ := H
         replace H : (if t106 ≥ 60 then (some (0, false)) else (if 0 < (a0.size : Int) then (if (bt a0 0) = 45 then (some (wrap64 ((wrap64 ((-60) * t104)) - t106), true)) else (some (wrap64 ((wrap64 (60 * t104)) + t106), true))) else (none))) = some (r1, r2) := H
         have A21 := Aside0.mk A210
         clear A210
         by_cases c22 : t106 ≥ 60
         ·rw [if_pos c22] at H
          have c22b0 := decide_eq_true c22
          clear c22
          simp only [Option.some.injEq, Prod.mk.injEq] at H
          obtain ⟨rfl, rfl⟩ := H
          have tk1_ : True := trivial
          have tk2_ : True := trivial
          go_wp2_with (first | (have _t := tk1_; (with_reducible refine gate_callee (f := 145) rfl ?_); refine goesL_ (some 43) rfl rfl Tryz.func145 (by kernel_rfl) rfl #[.string (a0.extract 1 3)] rfl z2_ ?_; (with_reducible refine (strconv_Atoi.calls (a0.extract 1 3) t104 t105 _ A19.out).mono ?_); rintro e w23 ⟨rfl, hb⟩; refine ⟨_, rfl, ?_⟩; replace HB := Aside0.mk (below_step (hb_ HB.out) hb); (try clear hb); (try clear hb2); (try clear hk); (try clear hi); (try simp only [errW_none, errW_some]); clear tk1_) | (have _t := tk2_; (with_reducible refine gate_callee (f := 145) rfl ?_); refine goesL_ (some 49) rfl rfl Tryz.func145 (by kernel_rfl) rfl #[.string (a0.extract 3 a0.size)] rfl z2_ ?_; (with_reducible refine (strconv_Atoi.calls (a0.extract 3 a0.size) t106 t107 _ A21.out).mono ?_); rintro e w24 ⟨rfl, hb⟩; refine ⟨_, rfl, ?_⟩; replace HB := Aside0.mk (below_step (hb_ HB.out) hb); (try clear hb); (try clear hb2); (try clear hk); (try clear hi); (try simp only [errW_none, errW_some]); clear tk2_))
          go_ret2
          exact ⟨z4_, hb_ HB.out⟩
         ·rw [if_neg c22] at H
          have c22b0 := decide_eq_false c22
          clear c22
          by_cases c25 : 0 < (a0.size : Int)
          ·rw [if_pos c25] at H
           have c25b0 := decide_eq_true c25
           have c25b1 : decide (0 < a0.size) = true := decide_eq_true (by omega)
           clear c25
           by_cases c27 : (bt a0 0) = 45
           ·rw [if_pos c27] at H
            have c27b0 := beq_iff_eq.mpr c27
            have c27b1 := bne_eq_false_iff_eq.mpr c27
            clear c27
            simp only [Option.some.injEq, Prod.mk.injEq] at H
            obtain ⟨rfl, rfl⟩ := H
            have tk3_ : True := trivial
            have tk4_ : True := trivial
            go_wp2_with (first | (have _t := tk3_; (with_reducible refine gate_callee (f := 145) rfl ?_); refine goesL_ (some 43) rfl rfl Tryz.func145 (by kernel_rfl) rfl #[.string (a0.extract 1 3)] rfl z2_ ?_; (with_reducible refine (strconv_Atoi.calls (a0.extract 1 3) t104 t105 _ A19.out).mono ?_); rintro e w28 ⟨rfl, hb⟩; refine ⟨_, rfl, ?_⟩; replace HB := Aside0.mk (below_step (hb_ HB.out) hb); (try clear hb); (try clear hb2); (try clear hk); (try clear hi); (try simp only [errW_none, errW_some]); clear tk3_) | (have _t := tk4_; (with_reducible refine gate_callee (f := 145) rfl ?_); refine goesL_ (some 49) rfl rfl Tryz.func145 (by kernel_rfl) rfl #[.string (a0.extract 3 a0.size)] rfl z2_ ?_; (with_reducible refine (strconv_Atoi.calls (a0.extract 3 a0.size) t106 t107 _ A21.out).mono ?_); rintro e w29 ⟨rfl, hb⟩; refine ⟨_, rfl, ?_⟩; replace HB := Aside0.mk (below_step (hb_ HB.out) hb); (try clear hb); (try clear hb2); (try clear hk); (try clear hi); (try simp only [errW_none, errW_some]); have p26 : 0 ≤ (0 : Int) := (by omega); have q26 : 0 < a0.size := (by have : (0 : Int) < (a0.size : Int) := of_decide_eq_true z0_; omega); have hx26 : ∀ h : 0 < a0.size, ((a0[0]'h).toNat : Int) = bt a0 0 := bt_at a0 0; clear p26; have qi26 : (0 < (a0.size : Int)) = True := eq_true (of_decide_eq_true z0_); replace q26 := eq_true q26; clear tk4_))
            go_ret2
            exact ⟨z4_, hb_ HB.out⟩
           ·rw [if_neg c27] at H
            have c27b0 := beq_eq_false_iff_ne.mpr c27
            have c27b1 := bne_iff_ne.mpr c27
            simp only [Option.some.injEq, Prod.mk.injEq] at H
            obtain ⟨rfl, rfl⟩ := H
            have tk5_ : True := trivial
            have tk6_ : True := trivial
            go_wp2_with (first | (have _t := tk5_; (with_reducible refine gate_callee (f := 145) rfl ?_); refine goesL_ (some 43) rfl rfl Tryz.func145 (by kernel_rfl) rfl #[.string (a0.extract 1 3)] rfl z2_ ?_; (with_reducible refine (strconv_Atoi.calls (a0.extract 1 3) t104 t105 _ A19.out).mono ?_); rintro e w30 ⟨rfl, hb⟩; refine ⟨_, rfl, ?_⟩; replace HB := Aside0.mk (below_step (hb_ HB.out) hb); (try clear hb); (try clear hb2); (try clear hk); (try clear hi); (try simp only [errW_none, errW_some]); clear tk5_) | (have _t := tk6_; (with_reducible refine gate_callee (f := 145) rfl ?_); refine goesL_ (some 49) rfl rfl Tryz.func145 (by kernel_rfl) rfl #[.string (a0.extract 3 a0.size)] rfl z2_ ?_; (with_reducible refine (strconv_Atoi.calls (a0.extract 3 a0.size) t106 t107 _ A21.out).mono ?_); rintro e w31 ⟨rfl, hb⟩; refine ⟨_, rfl, ?_⟩; replace HB := Aside0.mk (below_step (hb_ HB.out) hb); (try clear hb); (try clear hb2); (try clear hk); (try clear hi); (try simp only [errW_none, errW_some]); have p26 : 0 ≤ (0 : Int) := (by omega); have q26 : 0 < a0.size := (by have : (0 : Int) < (a0.size : Int) := of_decide_eq_true z0_; omega); have hx26 : ∀ h : 0 < a0.size, ((a0[0]'h).toNat : Int) = bt a0 0 := bt_at a0 0; clear p26; have qi26 : (0 < (a0.size : Int)) = True := eq_true (of_decide_eq_true z0_); replace q26 := eq_true q26; clear tk6_))
            go_ret2
            exact ⟨z4_, hb_ HB.out⟩
          ·rw [if_neg c25] at H
           exact absurd H (by simp)
        ·rw [if_neg c18] at H
         exact absurd H (by simp)
       ·rw [if_neg c17] at H
        exact absurd H (by simp)


def commit_ParseWho.j0 : Nat → ByteArray → ByteArray → Int → Int → Bool → Option (ByteArray × ByteArray × Int × Int × Int)
 | 0, _, _, _, _, _ => none
 | k + 1, x4, x7, x12, x14, x68 => if x68 = true then (some ((⟨#[]⟩ : ByteArray), (⟨#[]⟩ : ByteArray), 0, 0, 2)) else ((commit_somebody.f k x4 x7 x12 x14).bind fun t124 => (if t124 = true then (some (x4, x7, x12, x14, 0)) else (some ((⟨#[]⟩ : ByteArray), (⟨#[]⟩ : ByteArray), 0, 0, 1))))
def commit_ParseWho.f (k : Nat) (a0 : ByteArray) : Option (ByteArray × ByteArray × Int × Int × Int) := (strings_Cut.f a0 (⟨#[32, 60]⟩ : ByteArray)).bind fun bt109 => ((strings_Cut.f bt109.2.1 (⟨#[62, 32]⟩ : ByteArray)).bind fun bt112 => ((strings_Cut.f bt112.2.1 (⟨#[32]⟩ : ByteArray)).bind fun bt115 => ((commit_digits.f k bt115.1 18).bind fun bt118 => ((commit_zone.f k bt115.2.1).bind fun bt120 => (if bt109.2.2 = true then (if bt112.2.2 = true then (if bt115.2.2 = true then (if bt118.2 = true then (if bt120.2 = true then (if bt109.1.size + bt112.1.size ≤ 9223372036854775807 then ((strings_ContainsAny.f (bt109.1 ++ bt112.1) (⟨#[60, 62]⟩ : ByteArray)).bind fun t122 => (commit_ParseWho.j0 k bt109.1 bt112.1 bt118.1 bt120.1 t122)) else (none)) else (commit_ParseWho.j0 k bt109.1 bt112.1 bt118.1 bt120.1 true)) else (commit_ParseWho.j0 k bt109.1 bt112.1 bt118.1 bt120.1 true)) else (commit_ParseWho.j0 k bt109.1 bt112.1 bt118.1 bt120.1 true)) else (commit_ParseWho.j0 k bt109.1 bt112.1 bt118.1 bt120.1 true)) else (commit_ParseWho.j0 k bt109.1 bt112.1 bt118.1 bt120.1 true))))))
theorem commit_ParseWho.mono_l : ∀ k, (∀ y0 y1 y2 y3 y4, LeO (commit_ParseWho.j0 k y0 y1 y2 y3 y4) (commit_ParseWho.j0 (k + 1) y0 y1 y2 y3 y4))
 | 0 => fun _ _ _ _ _ r h => by simp [commit_ParseWho.j0] at h
 | k + 1 => by
  have ih0 := commit_ParseWho.mono_l k
  ·intro y0 y1 y2 y3 y4
   unfold commit_ParseWho.j0
   have m0_ := @ih0
   have m1_ := @commit_digits.mono
   have m2_ := @commit_somebody.mono
   have m3_ := @commit_zone.mono
   exact mz_
theorem commit_ParseWho.mono : ∀ a0 k, LeO (commit_ParseWho.f k a0) (commit_ParseWho.f (k + 1) a0) := by
 intro a0 k
 have ih0 := commit_ParseWho.mono_l k
 unfold commit_ParseWho.f
 have m0_ := @ih0
 have m1_ := @commit_digits.mono
 have m2_ := @commit_somebody.mono
 have m3_ := @commit_zone.mono
 exact mz_
set_option maxHeartbeats 8000000 in
set_option maxRecDepth 100000 in
theorem commit_ParseWho.calls (k : Nat) (a0 : ByteArray) (r1 : ByteArray) (r2 : ByteArray) (r3 : Int) (r4 : Int) (r5 : Int) (w : World) (hgv : GV w) (h : commit_ParseWho.f k a0 = some (r1, r2, r3, r4, r5)) :
  Calls Tryz.prog 29 #[.string a0] w fun e w' => e = .returned (.tuple #[.agg #[.string r1, .string r2, .int .i64 r3, .int .i64 r4], .int .i64 r5]) ∧ Below w.heap.size w w' := by
 have hu24 := Tryz.underlying24
 have HB := Aside0.mk (Below.refl w.heap.size w)
 have H : ((strings_Cut.f a0 (⟨#[32, 60]⟩ : ByteArray)).bind fun bt109 => ((strings_Cut.f bt109.2.1 (⟨#[62, 32]⟩ : ByteArray)).bind fun bt112 => ((strings_Cut.f bt112.2.1 (⟨#[32]⟩ : ByteArray)).bind fun bt115 => ((commit_digits.f k bt115.1 18).bind fun bt118 => ((commit_zone.f k bt115.2.1).bind fun bt120 => (if bt109.2.2 = true then (if bt112.2.2 = true then (if bt115.2.2 = true then (if bt118.2 = true then (if bt120.2 = true then (if bt109.1.size + bt112.1.size ≤ 9223372036854775807 then ((strings_ContainsAny.f (bt109.1 ++ bt112.1) (⟨#[60, 62]⟩ : ByteArray)).bind fun t122 => (commit_ParseWho.j0 k bt109.1 bt112.1 bt118.1 bt120.1 t122)) else (none)) else (commit_ParseWho.j0 k bt109.1 bt112.1 bt118.1 bt120.1 true)) else (commit_ParseWho.j0 k bt109.1 bt112.1 bt118.1 bt120.1 true)) else (commit_ParseWho.j0 k bt109.1 bt112.1 bt118.1 bt120.1 true)) else (commit_ParseWho.j0 k bt109.1 bt112.1 bt118.1 bt120.1 true)) else (commit_ParseWho.j0 k bt109.1 bt112.1 bt118.1 bt120.1 true))))))) = some (r1, r2, r3, r4, r5) := h
 clear h
 replace H := Option.bind_eq_some_iff.mp H
 obtain ⟨⟨t109, t110, t111⟩, A20, H⟩ := H
 replace H : ((strings_Cut.f t110 (⟨#[62, 32]⟩ : ByteArray)).bind fun bt112 => ((strings_Cut.f bt112.2.1 (⟨#[32]⟩ : ByteArray)).bind fun bt115 => ((commit_digits.f k bt115.1 18).bind fun bt118 => ((commit_zone.f k bt115.2.1).bind fun bt120 => (if t111 = true then (if bt112.2.2 = true then (if bt115.2.2 = true then (if bt118.2 = true then (if bt120.2 = true then (if t109.size + bt112.1.size ≤ 9223372036854775807 then ((strings_ContainsAny.f (t109 ++ bt112.1) (⟨#[60, 62]⟩ : ByteArray)).bind fun t122 => (commit_ParseWho.j0 k t109 bt112.1 bt118.1 bt120.1 t122)) else (none)) else (commit_ParseWho.j0 k t109 bt112.1 bt118.1 bt120.1 true)) else (commit_ParseWho.j0 k t109 bt112.1 bt118.1 bt120.1 true)) else (commit_ParseWho.j0 k t109 bt112.1 bt118.1 bt120.1 true)) else (commit_ParseWho.j0 k t109 bt112.1 bt118.1 bt120.1 true)) else (commit_ParseWho.j0 k t109 bt112.1 bt118.1 bt120.1 true)))))) = some (r1, r2, r3, r4, r5) := H
 have A2 := Aside0.mk A20
 clear A20
 replace H := Option.bind_eq_some_iff.mp H
 obtain ⟨⟨t112, t113, t114⟩, A30, H⟩ := H
 replace H : ((strings_Cut.f t113 (⟨#[32]⟩ : ByteArray)).bind fun bt115 => ((commit_digits.f k bt115.1 18).bind fun bt118 => ((commit_zone.f k bt115.2.1).bind fun bt120 => (if t111 = true then (if t114 = true then (if bt115.2.2 = true then (if bt118.2 = true then (if bt120.2 = true then (if t109.size + t112.size ≤ 9223372036854775807 then ((strings_ContainsAny.f (t109 ++ t112) (⟨#[60, 62]⟩ : ByteArray)).bind fun t122 => (commit_ParseWho.j0 k t109 t112 bt118.1 bt120.1 t122)) else (none)) else (commit_ParseWho.j0 k t109 t112 bt118.1 bt120.1 true)) else (commit_ParseWho.j0 k t109 t112 bt118.1 bt120.1 true)) else (commit_ParseWho.j0 k t109 t112 bt118.1 bt120.1 true)) else (commit_ParseWho.j0 k t109 t112 bt118.1 bt120.1 true)) else (commit_ParseWho.j0 k t109 t112 bt118.1 bt120.1 true))))) = some (r1, r2, r3, r4, r5) := H
 have A3 := Aside0.mk A30
 clear A30
 replace H := Option.bind_eq_some_iff.mp H
 obtain ⟨⟨t115, t116, t117⟩, A40, H⟩ := H
 replace H : ((commit_digits.f k t115 18).bind fun bt118 => ((commit_zone.f k t116).bind fun bt120 => (if t111 = true then (if t114 = true then (if t117 = true then (if bt118.2 = true then (if bt120.2 = true then (if t109.size + t112.size ≤ 9223372036854775807 then ((strings_ContainsAny.f (t109 ++ t112) (⟨#[60, 62]⟩ : ByteArray)).bind fun t122 => (commit_ParseWho.j0 k t109 t112 bt118.1 bt120.1 t122)) else (none)) else (commit_ParseWho.j0 k t109 t112 bt118.1 bt120.1 true)) else (commit_ParseWho.j0 k t109 t112 bt118.1 bt120.1 true)) else (commit_ParseWho.j0 k t109 t112 bt118.1 bt120.1 true)) else (commit_ParseWho.j0 k t109 t112 bt118.1 bt120.1 true)) else (commit_ParseWho.j0 k t109 t112 bt118.1 bt120.1 true)))) = some (r1, r2, r3, r4, r5) := H
 have A4 := Aside0.mk A40
 clear A40
 replace H := Option.bind_eq_some_iff.mp H
 obtain ⟨⟨t118, t119⟩, A50, H⟩ := H
 replace H : ((commit_zone.f k t116).bind fun bt120 => (if t111 = true then (if t114 = true then (if t117 = true then (if t119 = true then (if bt120.2 = true then (if t109.size + t112.size ≤ 9223372036854775807 then ((strings_ContainsAny.f (t109 ++ t112) (⟨#[60, 62]⟩ : ByteArray)).bind fun t122 => (commit_ParseWho.j0 k t109 t112 t118 bt120.1 t122)) else (none)) else (commit_ParseWho.j0 k t109 t112 t118 bt120.1 true)) else (commit_ParseWho.j0 k t109 t112 t118 bt120.1 true)) else (commit_ParseWho.j0 k t109 t112 t118 bt120.1 true)) else (commit_ParseWho.j0 k t109 t112 t118 bt120.1 true)) else (commit_ParseWho.j0 k t109 t112 t118 bt120.1 true))) = some (r1, r2, r3, r4, r5) := H
 have A5 := Aside0.mk A50
 clear A50
 replace H := Option.bind_eq_some_iff.mp H
 obtain ⟨⟨t120, t121⟩, A60, H⟩ := H
 replace H : (if t111 = true then (if t114 = true then (if t117 = true then (if t119 = true then (if t121 = true then (if t109.size + t112.size ≤ 9223372036854775807 then ((strings_ContainsAny.f (t109 ++ t112) (⟨#[60, 62]⟩ : ByteArray)).bind fun t122 => (commit_ParseWho.j0 k t109 t112 t118 t120 t122)) else (none)) else (commit_ParseWho.j0 k t109 t112 t118 t120 true)) else (commit_ParseWho.j0 k t109 t112 t118 t120 true)) else (commit_ParseWho.j0 k t109 t112 t118 t120 true)) else (commit_ParseWho.j0 k t109 t112 t118 t120 true)) else (commit_ParseWho.j0 k t109 t112 t118 t120 true)) = some (r1, r2, r3, r4, r5) := H
 have A6 := Aside0.mk A60
 clear A60
 have HC7 := Aside0.mk H
 clear H
 go_enter Tryz.func29, Tryz.ntmps29
 go_upto_region 6 with (first | ((with_reducible refine gate_dst (N := 2) rfl ?_); refine be_ (cs := #[.string (⟨#[]⟩ : ByteArray), .string (⟨#[]⟩ : ByteArray), .int .i64 0, .int .i64 0]) (t := 24) ?_; intro gb108 hg w8 hbox hb; have BK108 := Aside0.mk (hbox); have GW108 := Aside0.mk (gw_ hg HB.out); have GE108 := Aside0.mk (gw_ hg HB.out); replace HB := Aside0.mk (below_step (hb_ HB.out) hb); clear hb hbox hg) | ((with_reducible refine gate_callee (f := 82) rfl ?_); refine goesL_ (some 19) rfl rfl Tryz.func82 (by kernel_rfl) rfl #[.string a0, .string (⟨#[32, 60]⟩ : ByteArray)] rfl z2_ ?_; (with_reducible refine (strings_Cut.calls a0 (⟨#[32, 60]⟩ : ByteArray) t109 t110 t111 _ ?side1 A2.out).mono ?_); (case side1 => exact GV.below hgv (hs_)); rintro e w' ⟨rfl, ⟨nd, rfl⟩⟩; refine ⟨_, rfl, ?_⟩) | ((with_reducible refine gate_callee (f := 82) rfl ?_); refine goesL_ (some 25) rfl rfl Tryz.func82 (by kernel_rfl) rfl #[.string t110, .string (⟨#[62, 32]⟩ : ByteArray)] rfl z2_ ?_; (with_reducible refine (strings_Cut.calls t110 (⟨#[62, 32]⟩ : ByteArray) t112 t113 t114 _ ?side1 A3.out).mono ?_); (case side1 => exact GV.below hgv (hs_)); rintro e w' ⟨rfl, ⟨nd, rfl⟩⟩; refine ⟨_, rfl, ?_⟩) | ((with_reducible refine gate_callee (f := 82) rfl ?_); refine goesL_ (some 31) rfl rfl Tryz.func82 (by kernel_rfl) rfl #[.string t113, .string (⟨#[32]⟩ : ByteArray)] rfl z2_ ?_; (with_reducible refine (strings_Cut.calls t113 (⟨#[32]⟩ : ByteArray) t115 t116 t117 _ ?side1 A4.out).mono ?_); (case side1 => exact GV.below hgv (hs_)); rintro e w' ⟨rfl, ⟨nd, rfl⟩⟩; refine ⟨_, rfl, ?_⟩) | ((with_reducible refine gate_callee (f := 83) rfl ?_); refine goesL_ (some 37) rfl rfl Tryz.func83 (by kernel_rfl) rfl #[.string t115, .int .i64 18] rfl z2_ ?_; (with_reducible refine (commit_digits.calls k t115 18 t118 t119 _ A5.out).mono ?_); rintro e w9 ⟨rfl, hb⟩; refine ⟨_, rfl, ?_⟩; replace BK108 := Aside0.mk (bb_ BK108.out hb); replace HB := Aside0.mk (below_step (hs_) hb); (try clear hb); (try clear hb2); (try clear hk); (try clear hi)) | ((with_reducible refine gate_callee (f := 84) rfl ?_); refine goesL_ (some 42) rfl rfl Tryz.func84 (by kernel_rfl) rfl #[.string t116] rfl z2_ ?_; (with_reducible refine (commit_zone.calls k t116 t120 t121 _ A6.out).mono ?_); rintro e w10 ⟨rfl, hb⟩; refine ⟨_, rfl, ?_⟩; replace BK108 := Aside0.mk (bb_ BK108.out hb); replace HB := Aside0.mk (below_step (hs_) hb); (try clear hb); (try clear hb2); (try clear hk); (try clear hi)))
 (try simp only [Act.put, List.setIfInBounds_toArray, List.set_cons_zero, List.set_cons_succ])
 go_cut [68] (fun v68 wc => ∃ (kq : Nat) (x68_6 : Bool), v68 = .bool x68_6 ∧ Aside0 (commit_ParseWho.j0 kq t109 t112 t118 t120 x68_6 = some (r1, r2, r3, r4, r5)) ∧ Aside0 (kq ≤ k) ∧ Aside0 (wc.heap[gb108]? = some (.cells #[.string (⟨#[]⟩ : ByteArray), .string (⟨#[]⟩ : ByteArray), .int .i64 0, .int .i64 0] 24 (0, 0))) ∧ Aside0 (Below w.heap.size w wc))
 case first =>
  have H := HC7.out
  clear HC7
  by_cases c11 : t111 = true
  ·subst c11
   have H1 : (if t114 = true then (if t117 = true then (if t119 = true then (if t121 = true then (if t109.size + t112.size ≤ 9223372036854775807 then ((strings_ContainsAny.f (t109 ++ t112) (⟨#[60, 62]⟩ : ByteArray)).bind fun t122 => (commit_ParseWho.j0 k t109 t112 t118 t120 t122)) else (none)) else (commit_ParseWho.j0 k t109 t112 t118 t120 true)) else (commit_ParseWho.j0 k t109 t112 t118 t120 true)) else (commit_ParseWho.j0 k t109 t112 t118 t120 true)) else (commit_ParseWho.j0 k t109 t112 t118 t120 true)) = some (r1, r2, r3, r4, r5) := by rw [if_pos rfl] at H; exact H
   clear H
   have H := H1
   clear H1
   by_cases c12 : t114 = true
   ·subst c12
    have H1 : (if t117 = true then (if t119 = true then (if t121 = true then (if t109.size + t112.size ≤ 9223372036854775807 then ((strings_ContainsAny.f (t109 ++ t112) (⟨#[60, 62]⟩ : ByteArray)).bind fun t122 => (commit_ParseWho.j0 k t109 t112 t118 t120 t122)) else (none)) else (commit_ParseWho.j0 k t109 t112 t118 t120 true)) else (commit_ParseWho.j0 k t109 t112 t118 t120 true)) else (commit_ParseWho.j0 k t109 t112 t118 t120 true)) = some (r1, r2, r3, r4, r5) := by rw [if_pos rfl] at H; exact H
    clear H
    have H := H1
    clear H1
    by_cases c13 : t117 = true
    ·subst c13
     have H1 : (if t119 = true then (if t121 = true then (if t109.size + t112.size ≤ 9223372036854775807 then ((strings_ContainsAny.f (t109 ++ t112) (⟨#[60, 62]⟩ : ByteArray)).bind fun t122 => (commit_ParseWho.j0 k t109 t112 t118 t120 t122)) else (none)) else (commit_ParseWho.j0 k t109 t112 t118 t120 true)) else (commit_ParseWho.j0 k t109 t112 t118 t120 true)) = some (r1, r2, r3, r4, r5) := by rw [if_pos rfl] at H; exact H
     clear H
     have H := H1
     clear H1
     by_cases c14 : t119 = true
     ·subst c14
      have H1 : (if t121 = true then (if t109.size + t112.size ≤ 9223372036854775807 then ((strings_ContainsAny.f (t109 ++ t112) (⟨#[60, 62]⟩ : ByteArray)).bind fun t122 => (commit_ParseWho.j0 k t109 t112 t118 t120 t122)) else (none)) else (commit_ParseWho.j0 k t109 t112 t118 t120 true)) = some (r1, r2, r3, r4, r5) := by rw [if_pos rfl] at H; exact H
      clear H
      have H := H1
      clear H1
      by_cases c15 : t121 = true
      ·subst c15
       have H1 : (if t109.size + t112.size ≤ 9223372036854775807 then ((strings_ContainsAny.f (t109 ++ t112) (⟨#[60, 62]⟩ : ByteArray)).bind fun t122 => (commit_ParseWho.j0 k t109 t112 t118 t120 t122)) else (none)) = some (r1, r2, r3, r4, r5) := by rw [if_pos rfl] at H; exact H
       clear H
       have H := H1
       clear H1
       by_cases c16 : t109.size + t112.size ≤ 9223372036854775807
       ·rw [if_pos c16] at H
        have c16b0 := eq_true c16
        have c16b1 := decide_eq_true c16
        try have c16b2 := nl_ c16
        replace H := Option.bind_eq_some_iff.mp H
        obtain ⟨t122, A170, H⟩ := H
        have A17 := Aside0.mk A170
        clear A170
        have H' := Aside0.mk H
        clear H
        go_wp2_with (first | (go_at_call 85; (with_reducible refine (strings_ContainsAny.calls (t109 ++ t112) (⟨#[60, 62]⟩ : ByteArray) t122 _ A17.out).mono ?_); rintro e w18 ⟨rfl, hb⟩; replace BK108 := Aside0.mk (bb_ BK108.out hb); replace HB := Aside0.mk (below_step (hs_) hb); (try clear hb); (try clear hb2); (try clear hk); (try clear hi)))
        go_meet
        case rel => exact ⟨_, (t122), z1_, H', ⟨z5_⟩, ⟨bk_ BK108.out⟩, ⟨hs_⟩⟩
       ·rw [if_neg c16] at H
        exact absurd H (by simp)
      ·replace c15 := Bool.eq_false_iff.mpr c15
       subst c15
       have H1 : (commit_ParseWho.j0 k t109 t112 t118 t120 true) = some (r1, r2, r3, r4, r5) := by rw [if_neg (show ¬ (false = true) by decide)] at H; exact H
       clear H
       have H := H1
       clear H1
       have H' := Aside0.mk H
       clear H
       go_wp2
       go_meet
       case rel => exact ⟨_, (true), z1_, H', ⟨z5_⟩, ⟨bk_ BK108.out⟩, ⟨hs_⟩⟩
     ·replace c14 := Bool.eq_false_iff.mpr c14
      subst c14
      have H1 : (commit_ParseWho.j0 k t109 t112 t118 t120 true) = some (r1, r2, r3, r4, r5) := by rw [if_neg (show ¬ (false = true) by decide)] at H; exact H
      clear H
      have H := H1
      clear H1
      have H' := Aside0.mk H
      clear H
      go_wp2
      go_meet
      case rel => exact ⟨_, (true), z1_, H', ⟨z5_⟩, ⟨bk_ BK108.out⟩, ⟨hs_⟩⟩
    ·replace c13 := Bool.eq_false_iff.mpr c13
     subst c13
     have H1 : (commit_ParseWho.j0 k t109 t112 t118 t120 true) = some (r1, r2, r3, r4, r5) := by rw [if_neg (show ¬ (false = true) by decide)] at H; exact H
     clear H
     have H := H1
     clear H1
     have H' := Aside0.mk H
     clear H
     go_wp2
     go_meet
     case rel => exact ⟨_, (true), z1_, H', ⟨z5_⟩, ⟨bk_ BK108.out⟩, ⟨hs_⟩⟩
   ·replace c12 := Bool.eq_false_iff.mpr c12
    subst c12
    have H1 : (commit_ParseWho.j0 k t109 t112 t118 t120 true) = some (r1, r2, r3, r4, r5) := by rw [if_neg (show ¬ (false = true) by decide)] at H; exact H
    clear H
    have H := H1
    clear H1
    have H' := Aside0.mk H
    clear H
    go_wp2
    go_meet
    case rel => exact ⟨_, (true), z1_, H', ⟨z5_⟩, ⟨bk_ BK108.out⟩, ⟨hs_⟩⟩
  ·replace c11 := Bool.eq_false_iff.mpr c11
   subst c11
   have H1 : (commit_ParseWho.j0 k t109 t112 t118 t120 true) = some (r1, r2, r3, r4, r5) := by rw [if_neg (show ¬ (false = true) by decide)] at H; exact H
   clear H
   have H := H1
   clear H1
   have H' := Aside0.mk H
   clear H
   go_wp2
   go_meet
   case rel => exact ⟨_, (true), z1_, H', ⟨z5_⟩, ⟨bk_ BK108.out⟩, ⟨hs_⟩⟩
 case rest =>
  clear HC7
  try clear c1
  try clear c2
  try clear p2
  try clear c8
  try clear c11
  try clear c12
  try clear c13
  try clear c14
  try clear c15
  try clear c16
  try clear c16b0
  try clear c16b1
  try clear c16b2
  obtain ⟨kq, x68_6, rfl, HA, HJ6, BK108, HB⟩ := hcut
  cases kq with
  | zero => exact absurd HA.out (by simp [commit_ParseWho.j0])
  | succ kj6 =>
   have H := HA.out
   clear HA
   simp only [commit_ParseWho.j0] at H
   by_cases c19 : x68_6 = true
   ·subst c19
    have H1 : (some ((⟨#[]⟩ : ByteArray), (⟨#[]⟩ : ByteArray), 0, 0, 2)) = some (r1, r2, r3, r4, r5) := by rw [if_pos rfl] at H; exact H
    clear H
    have H := H1
    clear H1
    simp only [Option.some.injEq, Prod.mk.injEq] at H
    obtain ⟨rfl, rfl, rfl, rfl, rfl⟩ := H
    obtain ⟨hcz20_0, hcz20_1, hcz20_2, hcz20_3, hfz20_0, hfz20_1, hfz20_2, hfz20_3⟩ := bc4 BK108.out
    go_wp2
    refine bodyPost_ret (results_ct rfl _ _ gb108 24 #[.string (⟨#[]⟩ : ByteArray), .string (⟨#[]⟩ : ByteArray), .int .i64 0, .int .i64 0] (0, 0) _ rfl (by have b_ := BK108; exact zb_) Tryz.underlying24 rfl (by kernel_rfl)) rfl ?_
    exact ⟨z4_, hs_⟩
   ·replace c19 := Bool.eq_false_iff.mpr c19
    subst c19
    have H1 : ((commit_somebody.f kj6 t109 t112 t118 t120).bind fun t124 => (if t124 = true then (some (t109, t112, t118, t120, 0)) else (some ((⟨#[]⟩ : ByteArray), (⟨#[]⟩ : ByteArray), 0, 0, 1)))) = some (r1, r2, r3, r4, r5) := by rw [if_neg (show ¬ (false = true) by decide)] at H; exact H
    clear H
    have H := H1
    clear H1
    replace H := Option.bind_eq_some_iff.mp H
    obtain ⟨t124, A210, H⟩ := H
    have A21 := Aside0.mk A210
    clear A210
    by_cases c22 : t124 = true
    ·subst c22
     have H1 : (some (t109, t112, t118, t120, 0)) = some (r1, r2, r3, r4, r5) := by rw [if_pos rfl] at H; exact H
     clear H
     have H := H1
     clear H1
     simp only [Option.some.injEq, Prod.mk.injEq] at H
     obtain ⟨rfl, rfl, rfl, rfl, rfl⟩ := H
     go_wp2_with (first | ((with_reducible refine gate_dst (N := 16) rfl ?_); refine be_ (cs := #[.string (⟨#[]⟩ : ByteArray), .string (⟨#[]⟩ : ByteArray), .int .i64 0, .int .i64 0]) (t := 24) ?_; intro gb123 hg w23 hbox hb; have BK123 := Aside0.mk (hbox); have GW123 := Aside0.mk ((by rw [hg]; exact (below_size (hs_)) : w.heap.size ≤ gb123)); have GE123 := Aside0.mk ((by rw [hg]; exact (below_size (hs_)) : w.heap.size ≤ gb123)); replace HB := Aside0.mk (below_step (hs_) hb); have NB108_123 := Aside0.mk (nl2_ hg BK108.out); have NB123_108 := Aside0.mk (ng2_ hg BK108.out); replace BK108 := Aside0.mk (bb_ BK108.out hb); clear hb hbox hg; have hnb24 := NB123_108.out; have hnc24 := NB108_123.out; obtain ⟨hcz25_0, hcz25_1, hcz25_2, hcz25_3, hfz25_0, hfz25_1, hfz25_2, hfz25_3⟩ := bc4 BK123.out) | ((with_reducible refine gate_callee (f := 67) rfl ?_); refine goesL_ (some 76) rfl rfl Tryz.func67 (by kernel_rfl) rfl #[.agg #[.string t109, .string t112, .int .i64 t118, .int .i64 t120]] rfl z2_ ?_; (with_reducible refine (commit_somebody.calls kj6 t109 t112 t118 t120 true _ A21.out).mono ?_); rintro e w26 ⟨rfl, hb⟩; refine ⟨_, rfl, ?_⟩; replace BK108 := Aside0.mk (blk_below (g := gb108) (o := .cells #[.string (⟨#[]⟩ : ByteArray), .string (⟨#[]⟩ : ByteArray), .int .i64 0, .int .i64 0] 24 (0, 0)) (by have b_ := BK108; have f_ := NB108_123; exact zb_) hb); replace BK123 := Aside0.mk (blk_below (g := gb123) (o := .cells #[.string t109, .string t112, .int .i64 t118, .int .i64 t120] 24 (0, 0)) (by have b_ := BK123; exact zb_) hb); replace HB := Aside0.mk (below_step (hs_) hb); (try clear hb); (try clear hb2); (try clear hk); (try clear hi); obtain ⟨hcz27_0, hcz27_1, hcz27_2, hcz27_3, hfz27_0, hfz27_1, hfz27_2, hfz27_3⟩ := bc4 BK123.out; obtain ⟨hcz28_0, hcz28_1, hcz28_2, hcz28_3, hfz28_0, hfz28_1, hfz28_2, hfz28_3⟩ := bc4 BK108.out))
     refine bodyPost_ret (results_ct rfl _ _ gb108 24 #[.string t109, .string t112, .int .i64 t118, .int .i64 t120] (0, 0) _ rfl (by have b_ := BK108; exact zb_) Tryz.underlying24 rfl (by kernel_rfl)) rfl ?_
     exact ⟨z4_, hs_⟩
    ·replace c22 := Bool.eq_false_iff.mpr c22
     subst c22
     have H1 : (some ((⟨#[]⟩ : ByteArray), (⟨#[]⟩ : ByteArray), 0, 0, 1)) = some (r1, r2, r3, r4, r5) := by rw [if_neg (show ¬ (false = true) by decide)] at H; exact H
     clear H
     have H := H1
     clear H1
     simp only [Option.some.injEq, Prod.mk.injEq] at H
     obtain ⟨rfl, rfl, rfl, rfl, rfl⟩ := H
     go_wp2_with (first | ((with_reducible refine gate_dst (N := 16) rfl ?_); refine be_ (cs := #[.string (⟨#[]⟩ : ByteArray), .string (⟨#[]⟩ : ByteArray), .int .i64 0, .int .i64 0]) (t := 24) ?_; intro gb123 hg w29 hbox hb; have BK123 := Aside0.mk (hbox); have GW123 := Aside0.mk ((by rw [hg]; exact (below_size (hs_)) : w.heap.size ≤ gb123)); have GE123 := Aside0.mk ((by rw [hg]; exact (below_size (hs_)) : w.heap.size ≤ gb123)); replace HB := Aside0.mk (below_step (hs_) hb); have NB108_123 := Aside0.mk (nl2_ hg BK108.out); have NB123_108 := Aside0.mk (ng2_ hg BK108.out); replace BK108 := Aside0.mk (bb_ BK108.out hb); clear hb hbox hg; have hnb30 := NB123_108.out; have hnc30 := NB108_123.out; obtain ⟨hcz31_0, hcz31_1, hcz31_2, hcz31_3, hfz31_0, hfz31_1, hfz31_2, hfz31_3⟩ := bc4 BK123.out) | ((with_reducible refine gate_callee (f := 67) rfl ?_); refine goesL_ (some 76) rfl rfl Tryz.func67 (by kernel_rfl) rfl #[.agg #[.string t109, .string t112, .int .i64 t118, .int .i64 t120]] rfl z2_ ?_; (with_reducible refine (commit_somebody.calls kj6 t109 t112 t118 t120 false _ A21.out).mono ?_); rintro e w32 ⟨rfl, hb⟩; refine ⟨_, rfl, ?_⟩; replace BK108 := Aside0.mk (blk_below (g := gb108) (o := .cells #[.string (⟨#[]⟩ : ByteArray), .string (⟨#[]⟩ : ByteArray), .int .i64 0, .int .i64 0] 24 (0, 0)) (by have b_ := BK108; have f_ := NB108_123; exact zb_) hb); replace BK123 := Aside0.mk (blk_below (g := gb123) (o := .cells #[.string t109, .string t112, .int .i64 t118, .int .i64 t120] 24 (0, 0)) (by have b_ := BK123; exact zb_) hb); replace HB := Aside0.mk (below_step (hs_) hb); (try clear hb); (try clear hb2); (try clear hk); (try clear hi); obtain ⟨hcz33_0, hcz33_1, hcz33_2, hcz33_3, hfz33_0, hfz33_1, hfz33_2, hfz33_3⟩ := bc4 BK108.out))
     refine bodyPost_ret (results_ct rfl _ _ gb108 24 #[.string (⟨#[]⟩ : ByteArray), .string (⟨#[]⟩ : ByteArray), .int .i64 0, .int .i64 0] (0, 0) _ rfl (by have b_ := BK108; exact zb_) Tryz.underlying24 rfl (by kernel_rfl)) rfl ?_
     exact ⟨z4_, hs_⟩

end Go.Proofs.YtbhfbbfjdklfgaaGreatDoor.Q


/- A call of a function value, as one step of a walk. -/
namespace Go.Proofs.YtbhfbbfjdklfgaaGreatDoor.Q
open Go.RowKit Go.Proofs.YtbhfbbfjdklfgaaGreatDoorW.PrintWords Go.Proofs.YtbhfbbfjdklfgaaGreatDoorW.PrintLast Go.Proofs.YtbhfbbfjdklfgaaGreatDoorW.PrintMore
variable {P : Program} {ops : Array Oper} {Q : Exit → Act → World → Prop}
theorem goesF_ {rest : List Oper} {oi : Oper} {a : Act} {w : World} (N : Option Tmp) (hd : oi.dst = N) (hg : oi.guard = none) {t : Tmp} {g : Nat} {lb : Array Value} {os : Array Operand} {ts : Array TypeId}
    (eg : ∀ args w, (callFunc g args).run P w = .ok (.enter g args) w) (args : Array Value)
    (hop : oi.op = .call { callee := .value (.tmp t), args := os, argTypes := ts }) (hf : a.eval (.tmp t) = .func (.func g) #[] lb) (hargs : os.map a.eval = args) (all : Array Value) (hall : args ++ lb = all)
    (h : Calls P g all w fun e w' => ∃ v, e = .returned v ∧ wpList P ops Q rest (a.put N v) w') : wpList P ops Q (oi :: rest) a w := by
  refine wpList_plain hg fun K hK => ?_
  have hrun : (execOp a.eval oi).run P w = .ok (.enter g all) w := by
    unfold execOp
    simp [hop, resolve, Deferred.ofValue, invoke, hf, hargs, eg, hall]
  unfold Oper.wp
  rw [hrun, Oper.upon_enter]
  refine h.mono fun e w'' hh => ?_
  obtain ⟨v, rfl, hk⟩ := hh
  subst hd
  exact hK _ _ hk
theorem goesT_ {oi : Oper} {N : Option Tmp} {a : Act} {w : World} {K : Act → World → Prop} {f : FuncId} {fn : Func} {t : Tmp} {os : Array Operand} {ts : Array TypeId} (hf : P.funcs[f]? = some fn) (hname : (fn.name == "runtime.NumGoroutine") = false) (hb : fn.body.isSome = true) (args : Array Value)
    (hw : Region.wanted oi (yielded ops a.tmps) = true) (hN : oi.dst = N) (hop : oi.op = .call { callee := .value (.tmp t), args := os, argTypes := ts }) (hfv : a.eval (.tmp t) = .func (.func f) #[] #[]) (hargs : os.map a.eval = args)
    (h : Calls P f args w fun e w' => ∃ v, e = .returned v ∧ K (a.put N v) w') : if Region.wanted oi (yielded ops a.tmps) = true then Oper.wp P oi a w K Q else K (a.put N undef) w := by
  refine call_ f args hw hN ?_ h
  have he := enters_ hf hname hb args w
  unfold execOp
  simp [hop, resolve, Deferred.ofValue, invoke, hfv, hargs, he]
end Go.Proofs.YtbhfbbfjdklfgaaGreatDoor.Q


namespace Go.Proofs.YtbhfbbfjdklfgaaGreatDoor.Q
open Go.RowKit Go.Proofs.YtbhfbbfjdklfgaaGreatDoorW.PrintWords Go.Proofs.YtbhfbbfjdklfgaaGreatDoorW.PrintLast Go.Proofs.YtbhfbbfjdklfgaaGreatDoorW.PrintMore
attribute [local go_sem] max2_int min2_int max_two min_two max_three min_three max_four min_four   -- for this text's walks alone

def commit_Who_1.f (a0 : Int) : Option (ByteArray) := (strconv_Itoa.f (Int.tmod (wrap64 (Int.tdiv a0 10)) 10)).bind fun t125 => ((strconv_Itoa.f (Int.tmod a0 10)).bind fun t126 => (if t125.size + t126.size ≤ 9223372036854775807 then (some (t125 ++ t126)) else (none)))
set_option maxHeartbeats 8000000 in
set_option maxRecDepth 100000 in
theorem commit_Who_1.calls (a0 : Int) (r : ByteArray) (w : World) (hgv : GV w) (h : commit_Who_1.f a0 = some r) :
  Calls Tryz.prog 90 #[.int .i64 a0] w fun e w' => e = .returned (.string r) ∧ Below w.heap.size w w' := by
 have HB := Aside0.mk (Below.refl w.heap.size w)
 have H : ((strconv_Itoa.f (Int.tmod (wrap64 (Int.tdiv a0 10)) 10)).bind fun t125 => ((strconv_Itoa.f (Int.tmod a0 10)).bind fun t126 => (if t125.size + t126.size ≤ 9223372036854775807 then (some (t125 ++ t126)) else (none)))) = some r := h
 clear h
 replace H := Option.bind_eq_some_iff.mp H
 obtain ⟨t125, A20, H⟩ := H
 have A2 := Aside0.mk A20
 clear A20
 replace H := Option.bind_eq_some_iff.mp H
 obtain ⟨t126, A30, H⟩ := H
 have A3 := Aside0.mk A30
 clear A30
 by_cases c4 : t125.size + t126.size ≤ 9223372036854775807
 ·rw [if_pos c4] at H
  have c4b0 := eq_true c4
  have c4b1 := decide_eq_true c4
  try have c4b2 := nl_ c4
  obtain rfl := Option.some.inj H
  go_enter Tryz.func90, Tryz.ntmps90
  have tk7_ : True := trivial
  have tk8_ : True := trivial
  go_wp2_with (first | (have _t := tk7_; (with_reducible refine gate_callee (f := 91) rfl ?_); refine goesL_ (some 6) rfl rfl Tryz.func91 (by kernel_rfl) rfl #[.int .i64 (Int.tmod (wrap64 (Int.tdiv a0 10)) 10)] rfl z2_ ?_; (with_reducible refine (strconv_Itoa.calls (Int.tmod (wrap64 (Int.tdiv a0 10)) 10) t125 _ ?side1 A2.out).mono ?_); (case side1 => exact GV.below hgv (hb_ HB.out)); rintro e w5 ⟨rfl, hb⟩; refine ⟨_, rfl, ?_⟩; replace HB := Aside0.mk (below_step (hb_ HB.out) hb); (try clear hb); (try clear hb2); (try clear hk); (try clear hi); clear tk7_) | (have _t := tk8_; (with_reducible refine gate_callee (f := 91) rfl ?_); refine goesL_ (some 9) rfl rfl Tryz.func91 (by kernel_rfl) rfl #[.int .i64 (Int.tmod a0 10)] rfl z2_ ?_; (with_reducible refine (strconv_Itoa.calls (Int.tmod a0 10) t126 _ ?side1 A3.out).mono ?_); (case side1 => exact GV.below hgv (hb_ HB.out)); rintro e w6 ⟨rfl, hb⟩; refine ⟨_, rfl, ?_⟩; replace HB := Aside0.mk (below_step (hb_ HB.out) hb); (try clear hb); (try clear hb2); (try clear hk); (try clear hi); clear tk8_))
  go_ret
  exact ⟨z4_, hb_ HB.out⟩
 ·rw [if_neg c4] at H
  exact absurd H (by simp)


def commit_Who.f (a0_0 : ByteArray) (a0_1 : ByteArray) (a0_2 : Int) (a0_3 : Int) : Option (ByteArray) := if a0_3 < 0 then (if a0_0.size + 2 ≤ 9223372036854775807 then (if (a0_0 ++ (⟨#[32, 60]⟩ : ByteArray)).size + a0_1.size ≤ 9223372036854775807 then (if ((a0_0 ++ (⟨#[32, 60]⟩ : ByteArray)) ++ a0_1).size + 2 ≤ 9223372036854775807 then ((strconv_Itoa.f a0_2).bind fun t102 => (if (((a0_0 ++ (⟨#[32, 60]⟩ : ByteArray)) ++ a0_1) ++ (⟨#[62, 32]⟩ : ByteArray)).size + t102.size ≤ 9223372036854775807 then (if ((((a0_0 ++ (⟨#[32, 60]⟩ : ByteArray)) ++ a0_1) ++ (⟨#[62, 32]⟩ : ByteArray)) ++ t102).size + 1 ≤ 9223372036854775807 then (if (((((a0_0 ++ (⟨#[32, 60]⟩ : ByteArray)) ++ a0_1) ++ (⟨#[62, 32]⟩ : ByteArray)) ++ t102) ++ (⟨#[32]⟩ : ByteArray)).size + 1 ≤ 9223372036854775807 then ((commit_Who_1.f (wrap64 (Int.tdiv (wrap64 (-a0_3)) 60))).bind fun t103 => (if ((((((a0_0 ++ (⟨#[32, 60]⟩ : ByteArray)) ++ a0_1) ++ (⟨#[62, 32]⟩ : ByteArray)) ++ t102) ++ (⟨#[32]⟩ : ByteArray)) ++ (⟨#[45]⟩ : ByteArray)).size + t103.size ≤ 9223372036854775807 then ((commit_Who_1.f (Int.tmod (wrap64 (-a0_3)) 60)).bind fun t104 => (if (((((((a0_0 ++ (⟨#[32, 60]⟩ : ByteArray)) ++ a0_1) ++ (⟨#[62, 32]⟩ : ByteArray)) ++ t102) ++ (⟨#[32]⟩ : ByteArray)) ++ (⟨#[45]⟩ : ByteArray)) ++ t103).size + t104.size ≤ 9223372036854775807 then (some ((((((((a0_0 ++ (⟨#[32, 60]⟩ : ByteArray)) ++ a0_1) ++ (⟨#[62, 32]⟩ : ByteArray)) ++ t102) ++ (⟨#[32]⟩ : ByteArray)) ++ (⟨#[45]⟩ : ByteArray)) ++ t103) ++ t104)) else (none))) else (none))) else (none)) else (none)) else (none))) else (none)) else (none)) else (none)) else (if a0_0.size + 2 ≤ 9223372036854775807 then (if (a0_0 ++ (⟨#[32, 60]⟩ : ByteArray)).size + a0_1.size ≤ 9223372036854775807 then (if ((a0_0 ++ (⟨#[32, 60]⟩ : ByteArray)) ++ a0_1).size + 2 ≤ 9223372036854775807 then ((strconv_Itoa.f a0_2).bind fun t105 => (if (((a0_0 ++ (⟨#[32, 60]⟩ : ByteArray)) ++ a0_1) ++ (⟨#[62, 32]⟩ : ByteArray)).size + t105.size ≤ 9223372036854775807 then (if ((((a0_0 ++ (⟨#[32, 60]⟩ : ByteArray)) ++ a0_1) ++ (⟨#[62, 32]⟩ : ByteArray)) ++ t105).size + 1 ≤ 9223372036854775807 then (if (((((a0_0 ++ (⟨#[32, 60]⟩ : ByteArray)) ++ a0_1) ++ (⟨#[62, 32]⟩ : ByteArray)) ++ t105) ++ (⟨#[32]⟩ : ByteArray)).size + 1 ≤ 9223372036854775807 then ((commit_Who_1.f (wrap64 (Int.tdiv a0_3 60))).bind fun t106 => (if ((((((a0_0 ++ (⟨#[32, 60]⟩ : ByteArray)) ++ a0_1) ++ (⟨#[62, 32]⟩ : ByteArray)) ++ t105) ++ (⟨#[32]⟩ : ByteArray)) ++ (⟨#[43]⟩ : ByteArray)).size + t106.size ≤ 9223372036854775807 then ((commit_Who_1.f (Int.tmod a0_3 60)).bind fun t107 => (if (((((((a0_0 ++ (⟨#[32, 60]⟩ : ByteArray)) ++ a0_1) ++ (⟨#[62, 32]⟩ : ByteArray)) ++ t105) ++ (⟨#[32]⟩ : ByteArray)) ++ (⟨#[43]⟩ : ByteArray)) ++ t106).size + t107.size ≤ 9223372036854775807 then (some ((((((((a0_0 ++ (⟨#[32, 60]⟩ : ByteArray)) ++ a0_1) ++ (⟨#[62, 32]⟩ : ByteArray)) ++ t105) ++ (⟨#[32]⟩ : ByteArray)) ++ (⟨#[43]⟩ : ByteArray)) ++ t106) ++ t107)) else (none))) else (none))) else (none)) else (none)) else (none))) else (none)) else (none)) else (none))
def commit_Who.T5 : Bool × List (List Nat × List Nat) := (true, [([], []), ([0], [0]), ([1], [1]), ([], []), ([3], [3]), ([2, 4], [2, 4]), ([5], [5]), ([], []), ([7], [7]), ([8], [8]), ([6, 9], [6, 9]), ([10], [10]), ([], []), ([11, 12], [11, 12]), ([], []), ([], []), ([15], [15]), ([14, 16, 9], [14, 16]), ([13, 17], [13, 17]), ([], []), ([], []), ([20], [20]), ([19, 21, 17], [19, 21]), ([18, 22], [18, 22]), ([23, 22, 0, 1, 2, 3, 4, 5, 6, 7, 8, 9, 10, 11, 12, 13, 14, 15, 16, 17, 18, 19, 20, 21, 22, 23], [23])])
def commit_Who.B5 : List Nat := [0, 1, 3, 0, 8, 31, 63, 0, 128, 384, 1023, 2047, 0, 8191, 0, 0, 32768, 115584, 262143, 0, 0, 1048576, 3916672, 8388607, 16777215]
theorem commit_Who.tab5 : rtab .any (opsOf Tryz.f31 5) = commit_Who.T5 := by kernel_rfl
theorem commit_Who.bits5 : waitsOk commit_Who.T5.2 commit_Who.B5 = true := by kernel_rfl
set_option maxHeartbeats 8000000 in
set_option maxRecDepth 100000 in
theorem commit_Who.calls (a0_0 : ByteArray) (a0_1 : ByteArray) (a0_2 : Int) (a0_3 : Int) (r : ByteArray) (w : World) (hgv : GV w) (h : commit_Who.f a0_0 a0_1 a0_2 a0_3 = some r) :
  Calls Tryz.prog 31 #[.agg #[.string a0_0, .string a0_1, .int .i64 a0_2, .int .i64 a0_3]] w fun e w' => e = .returned (.string r) ∧ Below w.heap.size w w' := by
 have hu24 := Tryz.underlying24
 have HB := Aside0.mk (Below.refl w.heap.size w)
 have H : (if a0_3 < 0 then (if a0_0.size + 2 ≤ 9223372036854775807 then (if (a0_0 ++ (⟨#[32, 60]⟩ : ByteArray)).size + a0_1.size ≤ 9223372036854775807 then (if ((a0_0 ++ (⟨#[32, 60]⟩ : ByteArray)) ++ a0_1).size + 2 ≤ 9223372036854775807 then ((strconv_Itoa.f a0_2).bind fun t102 => (if (((a0_0 ++ (⟨#[32, 60]⟩ : ByteArray)) ++ a0_1) ++ (⟨#[62, 32]⟩ : ByteArray)).size + t102.size ≤ 9223372036854775807 then (if ((((a0_0 ++ (⟨#[32, 60]⟩ : ByteArray)) ++ a0_1) ++ (⟨#[62, 32]⟩ : ByteArray)) ++ t102).size + 1 ≤ 9223372036854775807 then (if (((((a0_0 ++ (⟨#[32, 60]⟩ : ByteArray)) ++ a0_1) ++ (⟨#[62, 32]⟩ : ByteArray)) ++ t102) ++ (⟨#[32]⟩ : ByteArray)).size + 1 ≤ 9223372036854775807 then ((commit_Who_1.f (wrap64 (Int.tdiv (wrap64 (-a0_3)) 60))).bind fun t103 => (if ((((((a0_0 ++ (⟨#[32, 60]⟩ : ByteArray)) ++ a0_1) ++ (⟨#[62, 32]⟩ : ByteArray)) ++ t102) ++ (⟨#[32]⟩ : ByteArray)) ++ (⟨#[45]⟩ : ByteArray)).size + t103.size ≤ 9223372036854775807 then ((commit_Who_1.f (Int.tmod (wrap64 (-a0_3)) 60)).bind fun t104 => (if (((((((a0_0 ++ (⟨#[32, 60]⟩ : ByteArray)) ++ a0_1) ++ (⟨#[62, 32]⟩ : ByteArray)) ++ t102) ++ (⟨#[32]⟩ : ByteArray)) ++ (⟨#[45]⟩ : ByteArray)) ++ t103).size + t104.size ≤ 9223372036854775807 then (some ((((((((a0_0 ++ (⟨#[32, 60]⟩ : ByteArray)) ++ a0_1) ++ (⟨#[62, 32]⟩ : ByteArray)) ++ t102) ++ (⟨#[32]⟩ : ByteArray)) ++ (⟨#[45]⟩ : ByteArray)) ++ t103) ++ t104)) else (none))) else (none))) else (none)) else (none)) else (none))) else (none)) else (none)) else (none)) else (if a0_0.size + 2 ≤ 9223372036854775807 then (if (a0_0 ++ (⟨#[32, 60]⟩ : ByteArray)).size + a0_1.size ≤ 9223372036854775807 then (if ((a0_0 ++ (⟨#[32, 60]⟩ : ByteArray)) ++ a0_1).size + 2 ≤ 9223372036854775807 then ((strconv_Itoa.f a0_2).bind fun t105 => (if (((a0_0 ++ (⟨#[32, 60]⟩ : ByteArray)) ++ a0_1) ++ (⟨#[62, 32]⟩ : ByteArray)).size + t105.size ≤ 9223372036854775807 then (if ((((a0_0 ++ (⟨#[32, 60]⟩ : ByteArray)) ++ a0_1) ++ (⟨#[62, 32]⟩ : ByteArray)) ++ t105).size + 1 ≤ 9223372036854775807 then (if (((((a0_0 ++ (⟨#[32, 60]⟩ : ByteArray)) ++ a0_1) ++ (⟨#[62, 32]⟩ : ByteArray)) ++ t105) ++ (⟨#[32]⟩ : ByteArray)).size + 1 ≤ 9223372036854775807 then ((commit_Who_1.f (wrap64 (Int.tdiv a0_3 60))).bind fun t106 => (if ((((((a0_0 ++ (⟨#[32, 60]⟩ : ByteArray)) ++ a0_1) ++ (⟨#[62, 32]⟩ : ByteArray)) ++ t105) ++ (⟨#[32]⟩ : ByteArray)) ++ (⟨#[43]⟩ : ByteArray)).size + t106.size ≤ 9223372036854775807 then ((commit_Who_1.f (Int.tmod a0_3 60)).bind fun t107 => (if (((((((a0_0 ++ (⟨#[32, 60]⟩ : ByteArray)) ++ a0_1) ++ (⟨#[62, 32]⟩ : ByteArray)) ++ t105) ++ (⟨#[32]⟩ : ByteArray)) ++ (⟨#[43]⟩ : ByteArray)) ++ t106).size + t107.size ≤ 9223372036854775807 then (some ((((((((a0_0 ++ (⟨#[32, 60]⟩ : ByteArray)) ++ a0_1) ++ (⟨#[62, 32]⟩ : ByteArray)) ++ t105) ++ (⟨#[32]⟩ : ByteArray)) ++ (⟨#[43]⟩ : ByteArray)) ++ t106) ++ t107)) else (none))) else (none))) else (none)) else (none)) else (none))) else (none)) else (none)) else (none))) = some r := h
 clear h
 by_cases c2 : a0_3 < 0
 ·rw [if_pos c2] at H
  have c2b0 := decide_eq_true c2
  clear c2
  by_cases c3 : a0_0.size + 2 ≤ 9223372036854775807
  ·rw [if_pos c3] at H
   have c3b0 := eq_true c3
   have c3b1 := decide_eq_true c3
   try have c3b2 := nl_ c3
   by_cases c4 : (a0_0 ++ (⟨#[32, 60]⟩ : ByteArray)).size + a0_1.size ≤ 9223372036854775807
   ·rw [if_pos c4] at H
    have c4b0 := eq_true c4
    have c4b1 := decide_eq_true c4
    try have c4b3 : (9223372036854775807 < a0_0.size + 2 + a0_1.size) = False := have h_ := c4; ns_
    try have c4b2 := nl_ c4
    by_cases c5 : ((a0_0 ++ (⟨#[32, 60]⟩ : ByteArray)) ++ a0_1).size + 2 ≤ 9223372036854775807
    ·rw [if_pos c5] at H
     have c5b0 := eq_true c5
     have c5b1 := decide_eq_true c5
     try have c5b3 : (9223372036854775807 < a0_0.size + 2 + a0_1.size + 2) = False := have h_ := c5; ns_
     try have c5b2 := nl_ c5
     replace H := Option.bind_eq_some_iff.mp H
     obtain ⟨t102, A60, H⟩ := H
     have A6 := Aside0.mk A60
     clear A60
     by_cases c7 : (((a0_0 ++ (⟨#[32, 60]⟩ : ByteArray)) ++ a0_1) ++ (⟨#[62, 32]⟩ : ByteArray)).size + t102.size ≤ 9223372036854775807
     ·rw [if_pos c7] at H
      have c7b0 := eq_true c7
      have c7b1 := decide_eq_true c7
      try have c7b3 : (9223372036854775807 < a0_0.size + 2 + a0_1.size + 2 + t102.size) = False := have h_ := c7; ns_
      try have c7b2 := nl_ c7
      by_cases c8 : ((((a0_0 ++ (⟨#[32, 60]⟩ : ByteArray)) ++ a0_1) ++ (⟨#[62, 32]⟩ : ByteArray)) ++ t102).size + 1 ≤ 9223372036854775807
      ·rw [if_pos c8] at H
       have c8b0 := eq_true c8
       have c8b1 := decide_eq_true c8
       try have c8b3 : (9223372036854775807 < a0_0.size + 2 + a0_1.size + 2 + t102.size + 1) = False := have h_ := c8; ns_
       try have c8b2 := nl_ c8
       by_cases c9 : (((((a0_0 ++ (⟨#[32, 60]⟩ : ByteArray)) ++ a0_1) ++ (⟨#[62, 32]⟩ : ByteArray)) ++ t102) ++ (⟨#[32]⟩ : ByteArray)).size + 1 ≤ 9223372036854775807
       ·rw [if_pos c9] at H
        have c9b0 := eq_true c9
        have c9b1 := decide_eq_true c9
        try have c9b3 : (9223372036854775807 < a0_0.size + 2 + a0_1.size + 2 + t102.size + 1 + 1) = False := have h_ := c9; ns_
        try have c9b2 := nl_ c9
        replace H := Option.bind_eq_some_iff.mp H
        obtain ⟨t103, A100, H⟩ := H
        have A10 := Aside0.mk A100
        clear A100
        by_cases c11 : ((((((a0_0 ++ (⟨#[32, 60]⟩ : ByteArray)) ++ a0_1) ++ (⟨#[62, 32]⟩ : ByteArray)) ++ t102) ++ (⟨#[32]⟩ : ByteArray)) ++ (⟨#[45]⟩ : ByteArray)).size + t103.size ≤ 9223372036854775807
        ·rw [if_pos c11] at H
         have c11b0 := eq_true c11
         have c11b1 := decide_eq_true c11
         try have c11b3 : (9223372036854775807 < a0_0.size + 2 + a0_1.size + 2 + t102.size + 1 + 1 + t103.size) = False := have h_ := c11; ns_
         try have c11b2 := nl_ c11
         replace H := Option.bind_eq_some_iff.mp H
         obtain ⟨t104, A120, H⟩ := H
         have A12 := Aside0.mk A120
         clear A120
         by_cases c13 : (((((((a0_0 ++ (⟨#[32, 60]⟩ : ByteArray)) ++ a0_1) ++ (⟨#[62, 32]⟩ : ByteArray)) ++ t102) ++ (⟨#[32]⟩ : ByteArray)) ++ (⟨#[45]⟩ : ByteArray)) ++ t103).size + t104.size ≤ 9223372036854775807
         ·rw [if_pos c13] at H
          have c13b0 := eq_true c13
          have c13b1 := decide_eq_true c13
          try have c13b3 : (9223372036854775807 < a0_0.size + 2 + a0_1.size + 2 + t102.size + 1 + 1 + t103.size + t104.size) = False := have h_ := c13; ns_
          try have c13b2 := nl_ c13
          obtain rfl := Option.some.inj H
          go_enter Tryz.func31, Tryz.ntmps31
          try go_wp2_with (first | ((with_reducible refine gate_dst (N := 1) rfl ?_); refine be_ (cs := #[.string a0_0, .string a0_1, .int .i64 a0_2, .int .i64 a0_3]) (t := 24) ?_; intro gb101 hg w14 hbox hb; have BK101 := Aside0.mk (hbox); have GW101 := Aside0.mk (gw_ hg HB.out); have GE101 := Aside0.mk (gw_ hg HB.out); replace HB := Aside0.mk (below_step (hb_ HB.out) hb); clear hb hbox hg))
          replace BK101 := Aside0.mk (blk_drew BK101.out)
          replace HB := Aside0.mk (below_drew1 HB.out)
          refine start_ (n := 4) (S := fun w' => w'.cell? ⟨gb101, 0, none⟩ = some (.string a0_0) ∧ w'.cell? ⟨gb101, 1, none⟩ = some (.string a0_1) ∧ w'.cell? ⟨gb101, 2, none⟩ = some (.int .i64 a0_2) ∧ w'.cell? ⟨gb101, 3, none⟩ = some (.int .i64 a0_3)) (ds := []) (bs 4 0) (by kernel_rfl) rfl rfl ⟨(blk_cell BK101.out 0).trans rfl, (blk_cell BK101.out 1).trans rfl, (blk_cell BK101.out 2).trans rfl, (blk_cell BK101.out 3).trans rfl⟩ (fun hHeld => ?_)
          generalize w14.drew = w15 at BK101 HB hHeld ⊢
          refine pk_ (i := 0) (N := some 6) (bs 4 1) rfl rfl ?_
          refine pk_ (i := 2) (N := some 3) (bs 4 5) rfl rfl ?_
          refine tkK4_ (i := 1) (N := some 7) (bs 4 7) rfl rfl hHeld ?_
          refine pk_ (i := 3) (N := some 4) (bs 4 15) rfl rfl ?_
          refine done_ (by kernel_rfl) ?_
          try go_wp2
          replace BK101 := Aside0.mk (blk_drew BK101.out)
          replace HB := Aside0.mk (below_drew1 HB.out)
          refine start_ (n := 25) (S := fun w' => w'.cell? ⟨gb101, 0, none⟩ = some (.string a0_0) ∧ w'.cell? ⟨gb101, 1, none⟩ = some (.string a0_1) ∧ w'.cell? ⟨gb101, 2, none⟩ = some (.int .i64 a0_2) ∧ w'.cell? ⟨gb101, 3, none⟩ = some (.int .i64 a0_3)) (ds := []) (bs 25 0) (by kernel_rfl) rfl rfl ⟨(blk_cell BK101.out 0).trans rfl, (blk_cell BK101.out 1).trans rfl, (blk_cell BK101.out 2).trans rfl, (blk_cell BK101.out 3).trans rfl⟩ (fun hHeld => ?_); refine with_tabW commit_Who.tab5 commit_Who.bits5 (fun HT_ HW_ => ?_)
          generalize w15.drew = w16 at BK101 HB hHeld ⊢
          refine pu_ (i := 0) (N := some 12) (bs 25 1) rfl rfl ?_
          refine pu_ (i := 3) (N := some 15) (bs 25 9) rfl rfl ?_
          refine pu_ (i := 7) (N := some 19) (bs 25 137) rfl rfl ?_
          refine pu_ (i := 12) (N := some 24) (bs 25 4233) rfl rfl ?_
          refine pu_ (i := 14) (N := some 26) (bs 25 20617) rfl rfl ?_
          refine pu_ (i := 15) (N := some 27) (bs 25 53385) rfl rfl ?_
          refine pu_ (i := 16) (N := some 28) (bs 25 118921) rfl rfl ?_
          refine pu_ (i := 19) (N := some 31) (bs 25 643209) rfl rfl ?_
          refine pu_ (i := 20) (N := some 32) (bs 25 1691785) rfl rfl ?_
          refine pu_ (i := 21) (N := some 33) (bs 25 3788937) rfl rfl ?_
          refine tkW4_ (i := 1) (N := some 13) (bs 25 3788939) rfl rfl hHeld ?_
          refine pu_ (i := 2) (N := some 14) (bs 25 3788943) rfl rfl ?_
          refine tkW4_ (i := 4) (N := some 16) (bs 25 3788959) rfl rfl hHeld ?_
          refine pu_ (i := 5) (N := some 17) (bs 25 3788991) rfl rfl ?_
          refine pu_ (i := 6) (N := some 18) (bs 25 3789055) rfl rfl ?_
          refine tkW4_ (i := 8) (N := some 20) (bs 25 3789311) rfl rfl hHeld ?_
          refine one_ (i := 9) (N := some 21) (bs 25 3789823) rfl rfl (one_of HT_.out (by kernel_rfl)) (by decide) (fun K hK => ?_)
          refine goes_ Tryz.func91 (by kernel_rfl) rfl #[.int .i64 a0_2] (by rfl) rfl rfl z2_ ?_
          with_reducible refine (strconv_Itoa.calls a0_2 t102 _ ?side1 A6.out).mono ?_
          (case side1 => exact GV.below hgv (hs_))
          rintro e w17 ⟨rfl, hb⟩
          refine ⟨_, rfl, ?_⟩
          replace BK101 := Aside0.mk (bb_ BK101.out hb)
          replace HB := Aside0.mk (below_step (hs_) hb)
          (try clear hb)
          (try clear hb2)
          (try clear hk)
          (try clear hi)
          refine hK.out _ _ ⟨(blk_cell BK101.out 0).trans rfl, (blk_cell BK101.out 1).trans rfl, (blk_cell BK101.out 2).trans rfl, (blk_cell BK101.out 3).trans rfl⟩ (fun hHeld => ?_)
          clear hK K
          refine norm_ (a' := ?_) ?_ ?_
          rotate_left
          ·show Act.put _ (some 21) _ = _
           simp only [Act.put, List.setIfInBounds_toArray, List.set_cons_zero, List.set_cons_succ, i64_w, i32_w]
           rfl
          refine pu_ (i := 10) (N := some 22) (bs 25 3790847) rfl rfl ?_
          refine pu_ (i := 11) (N := some 23) (bs 25 3792895) rfl rfl ?_
          refine pu_ (i := 13) (N := some 25) (bs 25 3801087) rfl rfl ?_
          refine one_ (i := 17) (N := some 29) (bs 25 3932159) rfl rfl (one_of HT_.out (by kernel_rfl)) (by decide) (fun K hK => ?_)
          refine goesT_ Tryz.func90 (by kernel_rfl) rfl #[.int .i64 (wrap64 (Int.tdiv (wrap64 (-a0_3)) 60))] (by rfl) rfl rfl rfl z8_ ?_
          with_reducible refine (commit_Who_1.calls (wrap64 (Int.tdiv (wrap64 (-a0_3)) 60))  t103 _ ?side1 A10.out).mono ?_
          (case side1 => exact GV.below hgv (hs_))
          rintro e w18 ⟨rfl, hb⟩
          refine ⟨_, rfl, ?_⟩
          replace BK101 := Aside0.mk (bb_ BK101.out hb)
          replace HB := Aside0.mk (below_step (hs_) hb)
          (try clear hb)
          (try clear hb2)
          (try clear hk)
          (try clear hi)
          refine hK.out _ _ ⟨(blk_cell BK101.out 0).trans rfl, (blk_cell BK101.out 1).trans rfl, (blk_cell BK101.out 2).trans rfl, (blk_cell BK101.out 3).trans rfl⟩ (fun hHeld => ?_)
          clear hK K
          refine norm_ (a' := ?_) ?_ ?_
          rotate_left
          ·show Act.put _ (some 29) _ = _
           simp only [Act.put, List.setIfInBounds_toArray, List.set_cons_zero, List.set_cons_succ, i64_w, i32_w]
           rfl
          refine pu_ (i := 18) (N := some 30) (bs 25 4194303) rfl rfl ?_
          refine one_ (i := 22) (N := some 34) (bs 25 8388607) rfl rfl (one_of HT_.out (by kernel_rfl)) (by decide) (fun K hK => ?_)
          refine goesT_ Tryz.func90 (by kernel_rfl) rfl #[.int .i64 (Int.tmod (wrap64 (-a0_3)) 60)] (by rfl) rfl rfl rfl z8_ ?_
          with_reducible refine (commit_Who_1.calls (Int.tmod (wrap64 (-a0_3)) 60)  t104 _ ?side1 A12.out).mono ?_
          (case side1 => exact GV.below hgv (hs_))
          rintro e w19 ⟨rfl, hb⟩
          refine ⟨_, rfl, ?_⟩
          replace BK101 := Aside0.mk (bb_ BK101.out hb)
          replace HB := Aside0.mk (below_step (hs_) hb)
          (try clear hb)
          (try clear hb2)
          (try clear hk)
          (try clear hi)
          refine hK.out _ _ ⟨(blk_cell BK101.out 0).trans rfl, (blk_cell BK101.out 1).trans rfl, (blk_cell BK101.out 2).trans rfl, (blk_cell BK101.out 3).trans rfl⟩ (fun hHeld => ?_)
          clear hK K
          refine norm_ (a' := ?_) ?_ ?_
          rotate_left
          ·show Act.put _ (some 34) _ = _
           simp only [Act.put, List.setIfInBounds_toArray, List.set_cons_zero, List.set_cons_succ, i64_w, i32_w]
           rfl
          refine pu_ (i := 23) (N := some 35) (bs 25 16777215) rfl rfl ?_
          refine pu_ (i := 24) (N := some 2) (bs 25 33554431) rfl rfl ?_
          refine done_ (done_of HT_.out (by kernel_rfl)) ?_
          try go_wp2
          go_ret
          exact ⟨z4_, hs_⟩
         ·rw [if_neg c13] at H
          exact absurd H (by simp)
        ·rw [if_neg c11] at H
         exact absurd H (by simp)
       ·rw [if_neg c9] at H
        exact absurd H (by simp)
      ·rw [if_neg c8] at H
       exact absurd H (by simp)
     ·rw [if_neg c7] at H
      exact absurd H (by simp)
    ·rw [if_neg c5] at H
     exact absurd H (by simp)
   ·rw [if_neg c4] at H
    exact absurd H (by simp)
  ·rw [if_neg c3] at H
   exact absurd H (by simp)
 ·rw [if_neg c2] at H
  have c2b0 := decide_eq_false c2
  clear c2
  by_cases c20 : a0_0.size + 2 ≤ 9223372036854775807
  ·rw [if_pos c20] at H
   have c20b0 := eq_true c20
   have c20b1 := decide_eq_true c20
   try have c20b2 := nl_ c20
   by_cases c21 : (a0_0 ++ (⟨#[32, 60]⟩ : ByteArray)).size + a0_1.size ≤ 9223372036854775807
   ·rw [if_pos c21] at H
    have c21b0 := eq_true c21
    have c21b1 := decide_eq_true c21
    try have c21b3 : (9223372036854775807 < a0_0.size + 2 + a0_1.size) = False := have h_ := c21; ns_
    try have c21b2 := nl_ c21
    by_cases c22 : ((a0_0 ++ (⟨#[32, 60]⟩ : ByteArray)) ++ a0_1).size + 2 ≤ 9223372036854775807
    ·rw [if_pos c22] at H
     have c22b0 := eq_true c22
     have c22b1 := decide_eq_true c22
     try have c22b3 : (9223372036854775807 < a0_0.size + 2 + a0_1.size + 2) = False := have h_ := c22; ns_
     try have c22b2 := nl_ c22
     replace H := Option.bind_eq_some_iff.mp H
     obtain ⟨t105, A230, H⟩ := H
     have A23 := Aside0.mk A230
     clear A230
     by_cases c24 : (((a0_0 ++ (⟨#[32, 60]⟩ : ByteArray)) ++ a0_1) ++ (⟨#[62, 32]⟩ : ByteArray)).size + t105.size ≤ 9223372036854775807
     ·rw [if_pos c24] at H
      have c24b0 := eq_true c24
      have c24b1 := decide_eq_true c24
      try have c24b3 : (9223372036854775807 < a0_0.size + 2 + a0_1.size + 2 + t105.size) = False := have h_ := c24; ns_
      try have c24b2 := nl_ c24
      by_cases c25 : ((((a0_0 ++ (⟨#[32, 60]⟩ : ByteArray)) ++ a0_1) ++ (⟨#[62, 32]⟩ : ByteArray)) ++ t105).size + 1 ≤ 9223372036854775807
      ·rw [if_pos c25] at H
       have c25b0 := eq_true c25
       have c25b1 := decide_eq_true c25
       try have c25b3 : (9223372036854775807 < a0_0.size + 2 + a0_1.size + 2 + t105.size + 1) = False := have h_ := c25; ns_
       try have c25b2 := nl_ c25
       by_cases c26 : (((((a0_0 ++ (⟨#[32, 60]⟩ : ByteArray)) ++ a0_1) ++ (⟨#[62, 32]⟩ : ByteArray)) ++ t105) ++ (⟨#[32]⟩ : ByteArray)).size + 1 ≤ 9223372036854775807
       ·rw [if_pos c26] at H
        have c26b0 := eq_true c26
        have c26b1 := decide_eq_true c26
        try have c26b3 : (9223372036854775807 < a0_0.size + 2 + a0_1.size + 2 + t105.size + 1 + 1) = False := have h_ := c26; ns_
        try have c26b2 := nl_ c26
        replace H := Option.bind_eq_some_iff.mp H
        obtain ⟨t106, A270, H⟩ := H
        have A27 := Aside0.mk A270
        clear A270
        by_cases c28 : ((((((a0_0 ++ (⟨#[32, 60]⟩ : ByteArray)) ++ a0_1) ++ (⟨#[62, 32]⟩ : ByteArray)) ++ t105) ++ (⟨#[32]⟩ : ByteArray)) ++ (⟨#[43]⟩ : ByteArray)).size + t106.size ≤ 9223372036854775807
        ·rw [if_pos c28] at H
         have c28b0 := eq_true c28
         have c28b1 := decide_eq_true c28
         try have c28b3 : (9223372036854775807 < a0_0.size + 2 + a0_1.size + 2 + t105.size + 1 + 1 + t106.size) = False := have h_ := c28; ns_
         try have c28b2 := nl_ c28
         replace H := Option.bind_eq_some_iff.mp H
         obtain ⟨t107, A290, H⟩ := H
         have A29 := Aside0.mk A290
         clear A290
         by_cases c30 : (((((((a0_0 ++ (⟨#[32, 60]⟩ : ByteArray)) ++ a0_1) ++ (⟨#[62, 32]⟩ : ByteArray)) ++ t105) ++ (⟨#[32]⟩ : ByteArray)) ++ (⟨#[43]⟩ : ByteArray)) ++ t106).size + t107.size ≤ 9223372036854775807
         ·rw [if_pos c30] at H
          have c30b0 := eq_true c30
          have c30b1 := decide_eq_true c30
          try have c30b3 : (9223372036854775807 < a0_0.size + 2 + a0_1.size + 2 + t105.size + 1 + 1 + t106.size + t107.size) = False := have h_ := c30; ns_
          try have c30b2 := nl_ c30
          obtain rfl := Option.some.inj H
          go_enter Tryz.func31, Tryz.ntmps31
          try go_wp2_with (first | ((with_reducible refine gate_dst (N := 1) rfl ?_); refine be_ (cs := #[.string a0_0, .string a0_1, .int .i64 a0_2, .int .i64 a0_3]) (t := 24) ?_; intro gb101 hg w31 hbox hb; have BK101 := Aside0.mk (hbox); have GW101 := Aside0.mk (gw_ hg HB.out); have GE101 := Aside0.mk (gw_ hg HB.out); replace HB := Aside0.mk (below_step (hb_ HB.out) hb); clear hb hbox hg))
          replace BK101 := Aside0.mk (blk_drew BK101.out)
          replace HB := Aside0.mk (below_drew1 HB.out)
          refine start_ (n := 4) (S := fun w' => w'.cell? ⟨gb101, 0, none⟩ = some (.string a0_0) ∧ w'.cell? ⟨gb101, 1, none⟩ = some (.string a0_1) ∧ w'.cell? ⟨gb101, 2, none⟩ = some (.int .i64 a0_2) ∧ w'.cell? ⟨gb101, 3, none⟩ = some (.int .i64 a0_3)) (ds := []) (bs 4 0) (by kernel_rfl) rfl rfl ⟨(blk_cell BK101.out 0).trans rfl, (blk_cell BK101.out 1).trans rfl, (blk_cell BK101.out 2).trans rfl, (blk_cell BK101.out 3).trans rfl⟩ (fun hHeld => ?_)
          generalize w31.drew = w32 at BK101 HB hHeld ⊢
          refine pk_ (i := 0) (N := some 6) (bs 4 1) rfl rfl ?_
          refine pk_ (i := 2) (N := some 3) (bs 4 5) rfl rfl ?_
          refine tkK4_ (i := 1) (N := some 7) (bs 4 7) rfl rfl hHeld ?_
          refine pk_ (i := 3) (N := some 4) (bs 4 15) rfl rfl ?_
          refine done_ (by kernel_rfl) ?_
          try go_wp2
          replace BK101 := Aside0.mk (blk_drew BK101.out)
          replace HB := Aside0.mk (below_drew1 HB.out)
          refine start_ (n := 25) (S := fun w' => w'.cell? ⟨gb101, 0, none⟩ = some (.string a0_0) ∧ w'.cell? ⟨gb101, 1, none⟩ = some (.string a0_1) ∧ w'.cell? ⟨gb101, 2, none⟩ = some (.int .i64 a0_2) ∧ w'.cell? ⟨gb101, 3, none⟩ = some (.int .i64 a0_3)) (ds := []) (bs 25 0) (by kernel_rfl) rfl rfl ⟨(blk_cell BK101.out 0).trans rfl, (blk_cell BK101.out 1).trans rfl, (blk_cell BK101.out 2).trans rfl, (blk_cell BK101.out 3).trans rfl⟩ (fun hHeld => ?_); refine with_tabW commit_Who.tab5 commit_Who.bits5 (fun HT_ HW_ => ?_)
          generalize w32.drew = w33 at BK101 HB hHeld ⊢
          refine pu_ (i := 0) (N := some 12) (bs 25 1) rfl rfl ?_
          refine pu_ (i := 3) (N := some 15) (bs 25 9) rfl rfl ?_
          refine pu_ (i := 7) (N := some 19) (bs 25 137) rfl rfl ?_
          refine pu_ (i := 12) (N := some 24) (bs 25 4233) rfl rfl ?_
          refine pu_ (i := 14) (N := some 26) (bs 25 20617) rfl rfl ?_
          refine pu_ (i := 15) (N := some 27) (bs 25 53385) rfl rfl ?_
          refine pu_ (i := 16) (N := some 28) (bs 25 118921) rfl rfl ?_
          refine pu_ (i := 19) (N := some 31) (bs 25 643209) rfl rfl ?_
          refine pu_ (i := 20) (N := some 32) (bs 25 1691785) rfl rfl ?_
          refine pu_ (i := 21) (N := some 33) (bs 25 3788937) rfl rfl ?_
          refine tkW4_ (i := 1) (N := some 13) (bs 25 3788939) rfl rfl hHeld ?_
          refine pu_ (i := 2) (N := some 14) (bs 25 3788943) rfl rfl ?_
          refine tkW4_ (i := 4) (N := some 16) (bs 25 3788959) rfl rfl hHeld ?_
          refine pu_ (i := 5) (N := some 17) (bs 25 3788991) rfl rfl ?_
          refine pu_ (i := 6) (N := some 18) (bs 25 3789055) rfl rfl ?_
          refine tkW4_ (i := 8) (N := some 20) (bs 25 3789311) rfl rfl hHeld ?_
          refine one_ (i := 9) (N := some 21) (bs 25 3789823) rfl rfl (one_of HT_.out (by kernel_rfl)) (by decide) (fun K hK => ?_)
          refine goes_ Tryz.func91 (by kernel_rfl) rfl #[.int .i64 a0_2] (by rfl) rfl rfl z2_ ?_
          with_reducible refine (strconv_Itoa.calls a0_2 t105 _ ?side1 A23.out).mono ?_
          (case side1 => exact GV.below hgv (hs_))
          rintro e w34 ⟨rfl, hb⟩
          refine ⟨_, rfl, ?_⟩
          replace BK101 := Aside0.mk (bb_ BK101.out hb)
          replace HB := Aside0.mk (below_step (hs_) hb)
          (try clear hb)
          (try clear hb2)
          (try clear hk)
          (try clear hi)
          refine hK.out _ _ ⟨(blk_cell BK101.out 0).trans rfl, (blk_cell BK101.out 1).trans rfl, (blk_cell BK101.out 2).trans rfl, (blk_cell BK101.out 3).trans rfl⟩ (fun hHeld => ?_)
          clear hK K
          refine norm_ (a' := ?_) ?_ ?_
          rotate_left
          ·show Act.put _ (some 21) _ = _
           simp only [Act.put, List.setIfInBounds_toArray, List.set_cons_zero, List.set_cons_succ, i64_w, i32_w]
           rfl
          refine pu_ (i := 10) (N := some 22) (bs 25 3790847) rfl rfl ?_
          refine pu_ (i := 11) (N := some 23) (bs 25 3792895) rfl rfl ?_
          refine pu_ (i := 13) (N := some 25) (bs 25 3801087) rfl rfl ?_
          refine one_ (i := 17) (N := some 29) (bs 25 3932159) rfl rfl (one_of HT_.out (by kernel_rfl)) (by decide) (fun K hK => ?_)
          refine goesT_ Tryz.func90 (by kernel_rfl) rfl #[.int .i64 (wrap64 (Int.tdiv a0_3 60))] (by rfl) rfl rfl rfl z8_ ?_
          with_reducible refine (commit_Who_1.calls (wrap64 (Int.tdiv a0_3 60))  t106 _ ?side1 A27.out).mono ?_
          (case side1 => exact GV.below hgv (hs_))
          rintro e w35 ⟨rfl, hb⟩
          refine ⟨_, rfl, ?_⟩
          replace BK101 := Aside0.mk (bb_ BK101.out hb)
          replace HB := Aside0.mk (below_step (hs_) hb)
          (try clear hb)
          (try clear hb2)
          (try clear hk)
          (try clear hi)
          refine hK.out _ _ ⟨(blk_cell BK101.out 0).trans rfl, (blk_cell BK101.out 1).trans rfl, (blk_cell BK101.out 2).trans rfl, (blk_cell BK101.out 3).trans rfl⟩ (fun hHeld => ?_)
          clear hK K
          refine norm_ (a' := ?_) ?_ ?_
          rotate_left
          ·show Act.put _ (some 29) _ = _
           simp only [Act.put, List.setIfInBounds_toArray, List.set_cons_zero, List.set_cons_succ, i64_w, i32_w]
           rfl
          refine pu_ (i := 18) (N := some 30) (bs 25 4194303) rfl rfl ?_
          refine one_ (i := 22) (N := some 34) (bs 25 8388607) rfl rfl (one_of HT_.out (by kernel_rfl)) (by decide) (fun K hK => ?_)
          refine goesT_ Tryz.func90 (by kernel_rfl) rfl #[.int .i64 (Int.tmod a0_3 60)] (by rfl) rfl rfl rfl z8_ ?_
          with_reducible refine (commit_Who_1.calls (Int.tmod a0_3 60)  t107 _ ?side1 A29.out).mono ?_
          (case side1 => exact GV.below hgv (hs_))
          rintro e w36 ⟨rfl, hb⟩
          refine ⟨_, rfl, ?_⟩
          replace BK101 := Aside0.mk (bb_ BK101.out hb)
          replace HB := Aside0.mk (below_step (hs_) hb)
          (try clear hb)
          (try clear hb2)
          (try clear hk)
          (try clear hi)
          refine hK.out _ _ ⟨(blk_cell BK101.out 0).trans rfl, (blk_cell BK101.out 1).trans rfl, (blk_cell BK101.out 2).trans rfl, (blk_cell BK101.out 3).trans rfl⟩ (fun hHeld => ?_)
          clear hK K
          refine norm_ (a' := ?_) ?_ ?_
          rotate_left
          ·show Act.put _ (some 34) _ = _
           simp only [Act.put, List.setIfInBounds_toArray, List.set_cons_zero, List.set_cons_succ, i64_w, i32_w]
           rfl
          refine pu_ (i := 23) (N := some 35) (bs 25 16777215) rfl rfl ?_
          refine pu_ (i := 24) (N := some 2) (bs 25 33554431) rfl rfl ?_
          refine done_ (done_of HT_.out (by kernel_rfl)) ?_
          try go_wp2
          go_ret
          exact ⟨z4_, hs_⟩
         ·rw [if_neg c30] at H
          exact absurd H (by simp)
        ·rw [if_neg c28] at H
         exact absurd H (by simp)
       ·rw [if_neg c26] at H
        exact absurd H (by simp)
      ·rw [if_neg c25] at H
       exact absurd H (by simp)
     ·rw [if_neg c24] at H
      exact absurd H (by simp)
    ·rw [if_neg c22] at H
     exact absurd H (by simp)
   ·rw [if_neg c21] at H
    exact absurd H (by simp)
  ·rw [if_neg c20] at H
   exact absurd H (by simp)


def graftagelaw16_who.f  : Option (ByteArray × ByteArray × Int × Int) := some ((⟨#[97]⟩ : ByteArray), (⟨#[97, 64, 98]⟩ : ByteArray), 5, 60)
set_option maxHeartbeats 8000000 in
set_option maxRecDepth 100000 in
theorem graftagelaw16_who.calls  (r1 : ByteArray) (r2 : ByteArray) (r3 : Int) (r4 : Int) (w : World) (h : graftagelaw16_who.f  = some (r1, r2, r3, r4)) :
  Calls Tryz.prog 63 #[] w fun e w' => e = .returned (.agg #[.string r1, .string r2, .int .i64 r3, .int .i64 r4]) ∧ Below w.heap.size w w' := by
 have hu24 := Tryz.underlying24
 have HB := Aside0.mk (Below.refl w.heap.size w)
 have H : (some ((⟨#[97]⟩ : ByteArray), (⟨#[97, 64, 98]⟩ : ByteArray), 5, 60)) = some (r1, r2, r3, r4) := h
 clear h
 simp only [Option.some.injEq, Prod.mk.injEq] at H
 obtain ⟨rfl, rfl, rfl, rfl⟩ := H
 go_enter Tryz.func63, Tryz.ntmps63
 go_wp2_with (first | ((with_reducible refine gate_dst (N := 0) rfl ?_); refine be_ (cs := #[.string (⟨#[]⟩ : ByteArray), .string (⟨#[]⟩ : ByteArray), .int .i64 0, .int .i64 0]) (t := 24) ?_; intro gb139 hg w1 hbox hb; have BK139 := Aside0.mk (hbox); have GW139 := Aside0.mk (gw_ hg HB.out); have GE139 := Aside0.mk (gw_ hg HB.out); replace HB := Aside0.mk (below_step (hb_ HB.out) hb); clear hb hbox hg; obtain ⟨hcz2_0, hcz2_1, hcz2_2, hcz2_3, hfz2_0, hfz2_1, hfz2_2, hfz2_3⟩ := bc4 BK139.out))
 refine bodyPost_ret (results_cell_row rfl _ _ gb139 24 #[.string (⟨#[97]⟩ : ByteArray), .string (⟨#[97, 64, 98]⟩ : ByteArray), .int .i64 5, .int .i64 60] (0, 0) _ rfl (by have b_ := BK139; exact zb_) Tryz.underlying24 rfl (by kernel_rfl)) rfl ?_
 exact ⟨z4_, hs_⟩


def slices_IndexFunc_string_string.l0 : Nat → List ByteArray → (ByteArray → Option (Bool)) → Int → Int → Option (Int)
 | 0, _, _, _, _ => none
 | k + 1, x0, x1, x7, x8 => if x8 < x7 then (if 0 ≤ x8 then (if x8 < (x0.length : Int) then ((x1 (rdOf ByteArray.empty x0 x8)).bind fun t188 => (if t188 = true then (some x8) else (slices_IndexFunc_string_string.l0 k x0 x1 x7 (wrap64 (x8 + 1))))) else (none)) else (none)) else (some (-1))
def slices_IndexFunc_string_string.f (k : Nat) (l0 : List ByteArray) (a1 : (ByteArray → Option (Bool))) : Option (Int) := slices_IndexFunc_string_string.l0 k l0 a1 (l0.length : Int) 0
theorem slices_IndexFunc_string_string.mono_l : ∀ k, (∀ y0 y1 y2 y3, LeO (slices_IndexFunc_string_string.l0 k y0 y1 y2 y3) (slices_IndexFunc_string_string.l0 (k + 1) y0 y1 y2 y3))
 | 0 => fun _ _ _ _ r h => by simp [slices_IndexFunc_string_string.l0] at h
 | k + 1 => by
  have ih0 := slices_IndexFunc_string_string.mono_l k
  ·intro y0 y1 y2 y3
   unfold slices_IndexFunc_string_string.l0
   have m0_ := @ih0
   exact mz_
theorem slices_IndexFunc_string_string.mono : ∀ a0 a1 k, LeO (slices_IndexFunc_string_string.f k a0 a1) (slices_IndexFunc_string_string.f (k + 1) a0 a1) := by
 intro a0 a1 k
 have ih0 := slices_IndexFunc_string_string.mono_l k
 unfold slices_IndexFunc_string_string.f
 have m0_ := @ih0
 exact mz_
set_option maxHeartbeats 8000000 in
set_option maxRecDepth 100000 in
theorem slices_IndexFunc_string_string.calls (k : Nat) (A0 : Option Addr) (c0 : Nat) (l0 : List ByteArray) (G1_ : Nat) (B1_ : Array Value) (a1 : (ByteArray → Option (Bool))) (r : Int) (w : World) (hr0 : Kd.C Kd.string w A0 l0.length l0) (hc0 : l0.length ≤ c0) (eg1_ : ∀ args w, (callFunc G1_ args).run Tryz.prog w = .ok (.enter G1_ args) w) (hq1_ : ∀ (z0 : ByteArray) (zr0 : Bool) (W_ : World), Below w.heap.size w W_ → a1 z0 = some zr0 → Calls Tryz.prog G1_ (#[.string z0] ++ B1_) W_ fun e w' => e = .returned (.bool zr0) ∧ Below W_.heap.size W_ w') (h : slices_IndexFunc_string_string.f k l0 a1 = some r) :
  Calls Tryz.prog 138 #[.slice A0 l0.length c0, .func (.func G1_) #[] B1_] w fun e w' => e = .returned (.int .i64 r) ∧ Below w.heap.size w w' := by
 have HR0 := Aside0.mk hr0
 have HC0 := Aside0.mk hc0
 clear hr0 hc0
 have HB := Aside0.mk (Below.refl w.heap.size w)
 have H : (slices_IndexFunc_string_string.l0 k l0 a1 (l0.length : Int) 0) = some r := h
 clear h
 have H' := Aside0.mk H
 clear H
 go_enter Tryz.func138, Tryz.ntmps138
 go_wp2
 go_loopg [8] k (fun kq v8 w' => ∃ (x8_1 : Int), v8 = .int .i64 x8_1 ∧ Aside0 (slices_IndexFunc_string_string.l0 kq l0 a1 (l0.length : Int) x8_1 = some r) ∧ Aside0 (kq ≤ k) ∧ Aside0 (Below w.heap.size w w'))
 case atStart => exact ⟨(0), z1_, H', ⟨Nat.le_refl _⟩, ⟨hb_ HB.out⟩⟩
 case round =>
  clear H'
  try clear c1
  try clear p2
  obtain ⟨x8_1, rfl, HA, HK1, HB⟩ := hrel
  cases gk with
  | zero => exact absurd HA.out (by simp [slices_IndexFunc_string_string.l0])
  | succ k1 =>
   have H := HA.out
   clear HA
   simp only [slices_IndexFunc_string_string.l0] at H
   by_cases c3 : x8_1 < (l0.length : Int)
   ·rw [if_pos c3] at H
    have c3b0 := decide_eq_true c3
    clear c3
    by_cases c4 : 0 ≤ x8_1
    ·rw [if_pos c4] at H
     have c4b0 := decide_eq_true c4
     clear c4
     by_cases c5 : x8_1 < (l0.length : Int)
     ·rw [if_pos c5] at H
      have c5b0 := decide_eq_true c5
      clear c5
      replace H := Option.bind_eq_some_iff.mp H
      obtain ⟨t188, A60, H⟩ := H
      have A6 := Aside0.mk A60
      clear A60
      by_cases c7 : t188 = true
      ·subst c7
       have H1 : (some x8_1) = some r := by rw [if_pos rfl] at H; exact H
       clear H
       have H := H1
       clear H1
       obtain rfl := Option.some.inj H
       have p187 : 0 ≤ (x8_1 : Int) := of_decide_eq_true z0_
       have q187 : x8_1 < (l0.length : Int) := of_decide_eq_true z0_
       obtain ⟨ad187, e187, hx187_0⟩ := Kd.at_string HR0.out x8_1 p187 q187
       cases e187
       replace hx187_0 := (HB.out.cell (World.block_lt_of_cell? w _ hx187_0)).trans hx187_0
       replace p187 := eq_true p187
       replace q187 := eq_true q187
       go_wp2_with (first | (refine goesF_ (some 16) rfl rfl (g := G1_) (lb := B1_) eg1_ #[.string (rdOf ByteArray.empty l0 x8_1)] rfl rfl z8_ (#[.string (rdOf ByteArray.empty l0 x8_1)] ++ B1_) (by first | rfl | simp) ?_; (refine (hq1_ (rdOf ByteArray.empty l0 x8_1) true _  ?side1 A6.out).mono ?_); (case side1 => repeat (first | (with_reducible first | exact HB.out | apply below_alloc | apply pw_below_drewN | apply below_drew1) | exact HB.out)); rintro e w8 ⟨rfl, hb⟩; refine ⟨_, rfl, ?_⟩; replace HB := Aside0.mk (below_step (hb_ HB.out) hb); (try clear hb); (try clear hb2); (try clear hk); (try clear hi)))
       go_ret
       exact ⟨z4_, hb_ HB.out⟩
      ·replace c7 := Bool.eq_false_iff.mpr c7
       subst c7
       have H1 : (slices_IndexFunc_string_string.l0 k1 l0 a1 (l0.length : Int) (wrap64 (x8_1 + 1))) = some r := by rw [if_neg (show ¬ (false = true) by decide)] at H; exact H
       clear H
       have H := H1
       clear H1
       have H' := Aside0.mk H
       clear H
       have p187 : 0 ≤ (x8_1 : Int) := of_decide_eq_true z0_
       have q187 : x8_1 < (l0.length : Int) := of_decide_eq_true z0_
       obtain ⟨ad187, e187, hx187_0⟩ := Kd.at_string HR0.out x8_1 p187 q187
       cases e187
       replace hx187_0 := (HB.out.cell (World.block_lt_of_cell? w _ hx187_0)).trans hx187_0
       replace p187 := eq_true p187
       replace q187 := eq_true q187
       go_wp2_with (first | (refine goesF_ (some 16) rfl rfl (g := G1_) (lb := B1_) eg1_ #[.string (rdOf ByteArray.empty l0 x8_1)] rfl rfl z8_ (#[.string (rdOf ByteArray.empty l0 x8_1)] ++ B1_) (by first | rfl | simp) ?_; (refine (hq1_ (rdOf ByteArray.empty l0 x8_1) false _  ?side1 A6.out).mono ?_); (case side1 => repeat (first | (with_reducible first | exact HB.out | apply below_alloc | apply pw_below_drewN | apply below_drew1) | exact HB.out)); rintro e w9 ⟨rfl, hb⟩; refine ⟨_, rfl, ?_⟩; replace HB := Aside0.mk (below_step (hb_ HB.out) hb); (try clear hb); (try clear hb2); (try clear hk); (try clear hi)))
       go_roundg k1
       case measure => have := HK1.out; omega
       case rel => exact ⟨(wrap64 (x8_1 + 1)), z1_, H', ⟨by have := HK1.out; omega⟩, ⟨hb_ HB.out⟩⟩
     ·rw [if_neg c5] at H
      exact absurd H (by simp)
    ·rw [if_neg c4] at H
     exact absurd H (by simp)
   ·rw [if_neg c3] at H
    have c3b0 := decide_eq_false c3
    clear c3
    obtain rfl := Option.some.inj H
    go_wp2
    go_ret
    exact ⟨z4_, hb_ HB.out⟩


def slices_ContainsFunc_string_string.f (k : Nat) (l0 : List ByteArray) (a1 : (ByteArray → Option (Bool))) : Option (Bool) := (slices_IndexFunc_string_string.f k l0 a1).bind fun t189 => (some (decide (t189 ≥ 0)))
theorem slices_ContainsFunc_string_string.mono : ∀ a0 a1 k, LeO (slices_ContainsFunc_string_string.f k a0 a1) (slices_ContainsFunc_string_string.f (k + 1) a0 a1) := by
 intro a0 a1 k
 unfold slices_ContainsFunc_string_string.f
 have m0_ := @slices_IndexFunc_string_string.mono
 exact mz_
set_option maxHeartbeats 8000000 in
set_option maxRecDepth 100000 in
theorem slices_ContainsFunc_string_string.calls (k : Nat) (A0 : Option Addr) (c0 : Nat) (l0 : List ByteArray) (G1_ : Nat) (B1_ : Array Value) (a1 : (ByteArray → Option (Bool))) (r : Bool) (w : World) (hr0 : Kd.C Kd.string w A0 l0.length l0) (hc0 : l0.length ≤ c0) (eg1_ : ∀ args w, (callFunc G1_ args).run Tryz.prog w = .ok (.enter G1_ args) w) (hq1_ : ∀ (z0 : ByteArray) (zr0 : Bool) (W_ : World), Below w.heap.size w W_ → a1 z0 = some zr0 → Calls Tryz.prog G1_ (#[.string z0] ++ B1_) W_ fun e w' => e = .returned (.bool zr0) ∧ Below W_.heap.size W_ w') (h : slices_ContainsFunc_string_string.f k l0 a1 = some r) :
  Calls Tryz.prog 66 #[.slice A0 l0.length c0, .func (.func G1_) #[] B1_] w fun e w' => e = .returned (.bool r) ∧ Below w.heap.size w w' := by
 have HR0 := Aside0.mk hr0
 have HC0 := Aside0.mk hc0
 clear hr0 hc0
 have HB := Aside0.mk (Below.refl w.heap.size w)
 have H : ((slices_IndexFunc_string_string.f k l0 a1).bind fun t189 => (some (decide (t189 ≥ 0)))) = some r := h
 clear h
 replace H := Option.bind_eq_some_iff.mp H
 obtain ⟨t189, A30, H⟩ := H
 have A3 := Aside0.mk A30
 clear A30
 obtain rfl := Option.some.inj H
 go_enter Tryz.func66, Tryz.ntmps66
 go_wp2_with (first | ((with_reducible refine gate_callee (f := 138) rfl ?_); refine goesL_ (some 7) rfl rfl Tryz.func138 (by kernel_rfl) rfl #[.slice A0 l0.length c0, .func (.func G1_) #[] B1_] rfl z2_ ?_; (with_reducible refine (slices_IndexFunc_string_string.calls k _ _ l0 G1_ B1_ a1 t189 _ ?side1 ?side2 ?side3 ?side4 A3.out).mono ?_); (case side1 => repeat (first | exact HR0.out | (with_reducible refine Kd.C_alloc ?_ _) | (with_reducible refine Kd.C_drewN ?_ _) | (with_reducible refine Kd.C_drew ?_))); (case side2 => exact HC0.out); (case side3 => exact eg1_); (case side4 => intro z0_ z1_ W_ hB_ h_; exact hq1_ z0_ z1_ _ (Below.trans (hb_ HB.out) (hB_.mono (below_size (hb_ HB.out)))) h_); rintro e w4 ⟨rfl, hb⟩; refine ⟨_, rfl, ?_⟩; replace HB := Aside0.mk (below_step (hb_ HB.out) hb); (try clear hb); (try clear hb2); (try clear hk); (try clear hi)))
 go_ret
 exact ⟨z4_, hb_ HB.out⟩

end Go.Proofs.YtbhfbbfjdklfgaaGreatDoor.Q


/- strings.Split at a separator of one byte returns the pieces, in new memory. -/
namespace Go.Proofs.YtbhfbbfjdklfgaaGreatDoor.Q
open Go.RowKit Go.Lib Go.Proofs.YtbhfbbfjdklfgaaGreatDoorW.PrintWords Go.Proofs.YtbhfbbfjdklfgaaGreatDoorW.PrintLast

theorem R_strings (e : Nat) (w : World) (l : List ByteArray) (hl : l.length ≤ maxLen) :
    Kd.R Kd.string e (w.alloc (.cells (l.map Value.string).toArray e)) w.heap.size (fun _ => True) (.slice (some ⟨w.heap.size, 0, none⟩) l.length l.length) l := by
  refine ⟨fun _ _ => trivial, l.map Value.string, ⟨by simp [Kd.string, Kd.scalar], .inr ⟨w.heap.size, l.length, (l.map Value.string).toArray, rfl, Nat.le_refl _, heap_alloc_new w _, Nat.le_refl _, hl, by simp [Kd.string, Kd.scalar], List.take_of_length_le (by simp [Kd.string, Kd.scalar])⟩⟩, by simp [Kd.string, Kd.scalar], fun j p hp => ?_⟩
  show ((l.map Value.string).drop (j * 1)).take 1 = [.string p]
  have hj := (List.getElem?_eq_some_iff.1 hp).1
  rw [Nat.mul_one, List.drop_eq_getElem_cons (by simpa using hj)]
  have : l[j] = p := by simpa [List.getElem?_eq_getElem hj] using hp
  simp [this]

def strings_Split.f (a0 : ByteArray) (a1 : ByteArray) : Option (List ByteArray) := if a1.size = 1 ∧ a0.size < 4294967281 then some (Lib.splitB a1 0 (Lib.countB a0 a1) a0) else none

set_option maxHeartbeats 1000000 in
theorem strings_Split.calls (a0 : ByteArray) (a1 : ByteArray) (r : List ByteArray) (w : World) (h : strings_Split.f a0 a1 = some r) :
    Calls Tryz.prog 200 #[.string a0, .string a1] w fun e w' => ∃ v0_ : Value, e = .returned (v0_) ∧ Kd.R Kd.string 9 w' w.heap.size (fun _ => True) v0_ r ∧ Below w.heap.size w w' := by
  unfold strings_Split.f at h
  split at h
  case isFalse => cases h
  case isTrue hc =>
  obtain rfl := Option.some.inj h
  obtain ⟨c, rfl⟩ := Lib.one_byte a1 hc.1
  have h1 : 1 ≤ (⟨#[c]⟩ : ByteArray).size := by rw [hc.1]; exact Nat.le_refl _
  have hle := Lib.countB_le ⟨#[c]⟩ h1 a0.size a0 (Nat.le_refl _)
  have hlen := Lib.splitB_all ⟨#[c]⟩ h1 0 _ a0 rfl
  have ct := Any.strings_genSplit_core Tryz.lays221 (by kernel_rfl) a0 ⟨#[c]⟩ 0 (-1) (Lib.countB a0 ⟨#[c]⟩ + 1) w hc.2 h1 (Nat.zero_le _)
    (fun x C hx => by
      refine (Tryz.strings_Index_one x c _).mono fun e w' ⟨he, hw⟩ => ⟨?_, hw⟩
      rw [he]
      show _ = Ending.returned (Value.int .i64 (Lib.index x.data.toList [c]))
      rw [Lib.index_one])
    (by
      refine (Tryz.strings_Count_one a0 c w).mono fun e w' ⟨he, hw⟩ => ⟨?_, hw⟩
      rw [he]
      show _ = Ending.returned (Value.int .i64 ((Lib.count a0.data.toList [c] : Nat) : Int))
      rw [Lib.count_one]
      rfl) (by decide) (by decide) (by rw [if_pos (by decide)]; omega)
  rw [Nat.add_sub_cancel, hlen] at ct
  have e2 : Lib.cellsOf (Lib.splitB ⟨#[c]⟩ 0 (Lib.countB a0 ⟨#[c]⟩) a0) (Lib.countB a0 ⟨#[c]⟩ + 1) = ((Lib.splitB ⟨#[c]⟩ 0 (Lib.countB a0 ⟨#[c]⟩) a0).map Value.string).toArray := by rw [← hlen]; exact Lib.cellsOf_full _
  rw [e2] at ct
  have HR := R_strings 9 w (Lib.splitB ⟨#[c]⟩ 0 (Lib.countB a0 ⟨#[c]⟩) a0) (by rw [hlen]; unfold maxLen; omega)
  rw [hlen] at HR
  go_enter Tryz.func200, Tryz.ntmps200
  go_wp2_with (go_at_call 234; refine (show Calls _ 234 _ _ _ from ct).mono ?_; rintro e w' ⟨rfl, hw⟩; rw [hw])
  go_ret
  exact ⟨_, rfl, HR, below_alloc (Below.refl _ _) _⟩
end Go.Proofs.YtbhfbbfjdklfgaaGreatDoor.Q


namespace Go.Proofs.YtbhfbbfjdklfgaaGreatDoor.Q
open Go.RowKit Go.Proofs.YtbhfbbfjdklfgaaGreatDoorW.PrintWords Go.Proofs.YtbhfbbfjdklfgaaGreatDoorW.PrintLast Go.Proofs.YtbhfbbfjdklfgaaGreatDoorW.PrintMore
attribute [local go_sem] max2_int min2_int max_two min_two max_three min_three max_four min_four   -- for this text's walks alone


mutual
def path_part.j0 : Nat → ByteArray → Bool → Option (Bool)
 | 0, _, _ => none
 | k + 1, x0, x23 => if x23 = true then (some false) else (path_part.l0 k x0 (x0.size : Int) 0)
def path_part.l0 : Nat → ByteArray → Int → Int → Option (Bool)
 | 0, _, _, _ => none
 | k + 1, x0, x25, x26 => if x26 < x25 then (if 0 ≤ x26 then (if x26 < (x0.size : Int) then (if (bt x0 x26) < 32 then (some false) else (path_part.l0 k x0 x25 (wrap64 (x26 + 1)))) else (none)) else (none)) else (some true)
end
def path_part.f (k : Nat) (a0 : ByteArray) : Option (Bool) := if (a0.size : Int) < 1 then (path_part.j0 k a0 true) else (if (a0.size : Int) > 64 then (path_part.j0 k a0 true) else (if a0.toList = ([46] : List UInt8) then (path_part.j0 k a0 true) else (if a0.toList = ([46, 46] : List UInt8) then (path_part.j0 k a0 true) else (path_part.j0 k a0 (a0.toList == ([46, 103, 114, 97, 102, 116] : List UInt8))))))
theorem path_part.mono_l : ∀ k, (∀ y0 y1, LeO (path_part.j0 k y0 y1) (path_part.j0 (k + 1) y0 y1)) ∧ (∀ y0 y1 y2, LeO (path_part.l0 k y0 y1 y2) (path_part.l0 (k + 1) y0 y1 y2))
 | 0 => ⟨fun _ _ r h => by simp [path_part.j0] at h, fun _ _ _ r h => by simp [path_part.l0] at h⟩
 | k + 1 => by
  obtain ⟨ih0, ih1⟩ := path_part.mono_l k
  refine ⟨?_, ?_⟩
  ·intro y0 y1
   unfold path_part.j0
   have m0_ := @ih0
   have m1_ := @ih1
   exact mz_
  ·intro y0 y1 y2
   unfold path_part.l0
   have m0_ := @ih0
   have m1_ := @ih1
   exact mz_
theorem path_part.mono : ∀ a0 k, LeO (path_part.f k a0) (path_part.f (k + 1) a0) := by
 intro a0 k
 obtain ⟨ih0, ih1⟩ := path_part.mono_l k
 unfold path_part.f
 have m0_ := @ih0
 have m1_ := @ih1
 exact mz_
set_option maxHeartbeats 8000000 in
set_option maxRecDepth 100000 in
theorem path_part.calls (k : Nat) (a0 : ByteArray) (r : Bool) (w : World) (h : path_part.f k a0 = some r) :
  Calls Tryz.prog 201 #[.string a0] w fun e w' => e = .returned (.bool r) ∧ Drawn0 w w' := by
 have H : (if (a0.size : Int) < 1 then (path_part.j0 k a0 true) else (if (a0.size : Int) > 64 then (path_part.j0 k a0 true) else (if a0.toList = ([46] : List UInt8) then (path_part.j0 k a0 true) else (if a0.toList = ([46, 46] : List UInt8) then (path_part.j0 k a0 true) else (path_part.j0 k a0 (a0.toList == ([46, 103, 114, 97, 102, 116] : List UInt8))))))) = some r := h
 clear h
 have HC2 := Aside0.mk H
 clear H
 go_enter Tryz.func201, Tryz.ntmps201
 go_upto_region 1 with (fail)
 go_cut [23] (fun v23 wc => ∃ (kq : Nat) (x23_1 : Bool), v23 = .bool x23_1 ∧ Aside0 (path_part.j0 kq a0 x23_1 = some r) ∧ Aside0 (kq ≤ k) ∧ Drawn0 w wc)
 case first =>
  have H := HC2.out
  clear HC2
  by_cases c3 : (a0.size : Int) < 1
  ·rw [if_pos c3] at H
   have c3b0 := decide_eq_true c3
   have c3b1 : decide (a0.size < 1) = true := decide_eq_true (by omega)
   clear c3
   (first | rw [c3b0] | (simp only [i64_w, i32_w]; rw [c3b0]) | skip)
   have H' := Aside0.mk H
   clear H
   go_wp2
   go_meet
   case rel => exact ⟨_, (true), z1_, H', ⟨z5_⟩, z3_⟩
  ·rw [if_neg c3] at H
   have c3b0 := decide_eq_false c3
   have c3b1 : decide (a0.size < 1) = false := decide_eq_false (by omega)
   clear c3
   (first | rw [c3b0] | (simp only [i64_w, i32_w]; rw [c3b0]) | skip)
   by_cases c4 : (a0.size : Int) > 64
   ·rw [if_pos c4] at H
    have c4b0 := decide_eq_true c4
    have c4b1 : decide (64 < a0.size) = true := decide_eq_true (by omega)
    clear c4
    have H' := Aside0.mk H
    clear H
    go_wp2
    go_meet
    case rel => exact ⟨_, (true), z1_, H', ⟨z5_⟩, z3_⟩
   ·rw [if_neg c4] at H
    have c4b0 := decide_eq_false c4
    have c4b1 : decide (64 < a0.size) = false := decide_eq_false (by omega)
    clear c4
    by_cases c5 : a0.toList = ([46] : List UInt8)
    ·rw [if_pos c5] at H
     have c5b0 := beq_iff_eq.mpr c5
     have c5b1 := bne_eq_false_iff_eq.mpr c5
     clear c5
     have H' := Aside0.mk H
     clear H
     go_wp2
     go_meet
     case rel => exact ⟨_, (true), z1_, H', ⟨z5_⟩, z3_⟩
    ·rw [if_neg c5] at H
     have c5b0 := beq_eq_false_iff_ne.mpr c5
     have c5b1 := bne_iff_ne.mpr c5
     by_cases c6 : a0.toList = ([46, 46] : List UInt8)
     ·rw [if_pos c6] at H
      have c6b0 := beq_iff_eq.mpr c6
      have c6b1 := bne_eq_false_iff_eq.mpr c6
      clear c6
      have H' := Aside0.mk H
      clear H
      go_wp2
      go_meet
      case rel => exact ⟨_, (true), z1_, H', ⟨z5_⟩, z3_⟩
     ·rw [if_neg c6] at H
      have c6b0 := beq_eq_false_iff_ne.mpr c6
      have c6b1 := bne_iff_ne.mpr c6
      have H' := Aside0.mk H
      clear H
      go_wp2
      go_meet
      case rel => exact ⟨_, ((a0.toList == ([46, 103, 114, 97, 102, 116] : List UInt8))), z1_, H', ⟨z5_⟩, z3_⟩
 case rest =>
  clear HC2
  try clear c2
  try clear p2
  try clear c3
  try clear c3b0
  try clear c3b1
  try clear c4
  try clear c4b0
  try clear c4b1
  try clear c5
  try clear c5b0
  try clear c5b1
  try clear c6
  try clear c6b0
  try clear c6b1
  obtain ⟨kq, x23_1, rfl, HA, HJ1, ⟨mc1, rfl⟩⟩ := hcut
  cases kq with
  | zero => exact absurd HA.out (by simp [path_part.j0])
  | succ kj1 =>
   have H := HA.out
   clear HA
   simp only [path_part.j0] at H
   by_cases c7 : x23_1 = true
   ·subst c7
    have H1 : (some false) = some r := by rw [if_pos rfl] at H; exact H
    clear H
    have H := H1
    clear H1
    obtain rfl := Option.some.inj H
    go_wp2
    go_ret
    exact ⟨z1_, z3_⟩
   ·replace c7 := Bool.eq_false_iff.mpr c7
    subst c7
    have H1 : (path_part.l0 kj1 a0 (a0.size : Int) 0) = some r := by rw [if_neg (show ¬ (false = true) by decide)] at H; exact H
    clear H
    have H := H1
    clear H1
    have H' := Aside0.mk H
    clear H
    go_wp2
    go_loopg [26] kj1 (fun kq v26 w' => ∃ (x26_2 : Int), v26 = .int .i64 x26_2 ∧ Aside0 (path_part.l0 kq a0 (a0.size : Int) x26_2 = some r) ∧ Aside0 (kq ≤ kj1) ∧ Drawn0 w w')
    case atStart => exact ⟨(0), z1_, H', ⟨Nat.le_refl _⟩, z3_⟩
    case round =>
     clear H'
     try clear c1
     try clear c2
     try clear p2
     try clear c3
     try clear c3b0
     try clear c3b1
     try clear c4
     try clear c4b0
     try clear c4b1
     try clear c5
     try clear c5b0
     try clear c5b1
     try clear c6
     try clear c6b0
     try clear c6b1
     try clear c7
     try clear p2
     obtain ⟨x26_2, rfl, HA, HK2, ⟨m2, rfl⟩⟩ := hrel
     cases gk with
     | zero => exact absurd HA.out (by simp [path_part.l0])
     | succ k2 =>
      have H := HA.out
      clear HA
      simp only [path_part.l0] at H
      by_cases c8 : x26_2 < (a0.size : Int)
      ·rw [if_pos c8] at H
       have c8b0 := decide_eq_true c8
       clear c8
       by_cases c9 : 0 ≤ x26_2
       ·rw [if_pos c9] at H
        have c9b0 := decide_eq_true c9
        clear c9
        by_cases c10 : x26_2 < (a0.size : Int)
        ·rw [if_pos c10] at H
         have c10b0 := decide_eq_true c10
         clear c10
         by_cases c12 : (bt a0 x26_2) < 32
         ·rw [if_pos c12] at H
          have c12b0 := decide_eq_true c12
          clear c12
          obtain rfl := Option.some.inj H
          have p11 : 0 ≤ (x26_2 : Int) := of_decide_eq_true z0_
          have q11 : x26_2 < (a0.size : Int) := of_decide_eq_true z0_
          have hx11 := bt_at a0 x26_2
          replace p11 := eq_true p11
          replace q11 := eq_true q11
          go_wp2
          go_ret
          exact ⟨z1_, z3_⟩
         ·rw [if_neg c12] at H
          have c12b0 := decide_eq_false c12
          clear c12
          have H' := Aside0.mk H
          clear H
          have p11 : 0 ≤ (x26_2 : Int) := of_decide_eq_true z0_
          have q11 : x26_2 < (a0.size : Int) := of_decide_eq_true z0_
          have hx11 := bt_at a0 x26_2
          replace p11 := eq_true p11
          replace q11 := eq_true q11
          go_wp2
          go_roundg k2
          case measure => have := HJ1.out; have := HK2.out; omega
          case rel => exact ⟨(wrap64 (x26_2 + 1)), z1_, H', ⟨by have := HJ1.out; have := HK2.out; omega⟩, z3_⟩
        ·rw [if_neg c10] at H
         exact absurd H (by simp)
       ·rw [if_neg c9] at H
        exact absurd H (by simp)
      ·rw [if_neg c8] at H
       have c8b0 := decide_eq_false c8
       clear c8
       obtain rfl := Option.some.inj H
       go_wp2
       go_ret
       exact ⟨z1_, z3_⟩


mutual
def path_Is.j0 : Nat → ByteArray → Bool → Option (Bool)
 | 0, _, _ => none
 | k + 1, x0, x12 => if x12 = true then (some false) else ((strings_Split.f x0 (⟨#[47]⟩ : ByteArray)).bind fun t107 => (path_Is.l0 k t107 t107 (t107.length : Int) 0))
def path_Is.l0 : Nat → List ByteArray → List ByteArray → Int → Int → Option (Bool)
 | 0, _, _, _, _ => none
 | k + 1, x3, x15, x16, x17 => if x17 < x16 then (if 0 ≤ x17 then (if x17 < (x15.length : Int) then ((path_part.f k (rdOf ByteArray.empty x15 x17)).bind fun t111 => (if t111 = true then (path_Is.l0 k x3 x15 x16 (wrap64 (x17 + 1))) else (some false))) else (none)) else (none)) else (some (decide ((x3.length : Int) ≤ 16)))
end
def path_Is.f (k : Nat) (a0 : ByteArray) : Option (Bool) := if a0.toList = ([] : List UInt8) then (path_Is.j0 k a0 true) else (path_Is.j0 k a0 (decide ((a0.size : Int) > 255)))
theorem path_Is.mono_l : ∀ k, (∀ y0 y1, LeO (path_Is.j0 k y0 y1) (path_Is.j0 (k + 1) y0 y1)) ∧ (∀ y0 y1 y2 y3, LeO (path_Is.l0 k y0 y1 y2 y3) (path_Is.l0 (k + 1) y0 y1 y2 y3))
 | 0 => ⟨fun _ _ r h => by simp [path_Is.j0] at h, fun _ _ _ _ r h => by simp [path_Is.l0] at h⟩
 | k + 1 => by
  obtain ⟨ih0, ih1⟩ := path_Is.mono_l k
  refine ⟨?_, ?_⟩
  ·intro y0 y1
   unfold path_Is.j0
   have m0_ := @ih0
   have m1_ := @ih1
   have m2_ := @path_part.mono
   exact mz_
  ·intro y0 y1 y2 y3
   unfold path_Is.l0
   have m0_ := @ih0
   have m1_ := @ih1
   have m2_ := @path_part.mono
   exact mz_
theorem path_Is.mono : ∀ a0 k, LeO (path_Is.f k a0) (path_Is.f (k + 1) a0) := by
 intro a0 k
 obtain ⟨ih0, ih1⟩ := path_Is.mono_l k
 unfold path_Is.f
 have m0_ := @ih0
 have m1_ := @ih1
 have m2_ := @path_part.mono
 exact mz_
set_option maxHeartbeats 8000000 in
set_option maxRecDepth 100000 in
theorem path_Is.calls (k : Nat) (a0 : ByteArray) (r : Bool) (w : World) (h : path_Is.f k a0 = some r) :
  Calls Tryz.prog 156 #[.string a0] w fun e w' => e = .returned (.bool r) ∧ Below w.heap.size w w' := by
 have HB := Aside0.mk (Below.refl w.heap.size w)
 have H : (if a0.toList = ([] : List UInt8) then (path_Is.j0 k a0 true) else (path_Is.j0 k a0 (decide ((a0.size : Int) > 255)))) = some r := h
 clear h
 have HC2 := Aside0.mk H
 clear H
 go_enter Tryz.func156, Tryz.ntmps156
 go_upto_region 1 with (fail)
 go_cut [12] (fun v12 wc => ∃ (kq : Nat) (x12_1 : Bool), v12 = .bool x12_1 ∧ Aside0 (path_Is.j0 kq a0 x12_1 = some r) ∧ Aside0 (kq ≤ k) ∧ Aside0 (Below w.heap.size w wc))
 case first =>
  have H := HC2.out
  clear HC2
  by_cases c3 : a0.toList = ([] : List UInt8)
  ·rw [if_pos c3] at H
   have c3b0 := beq_iff_eq.mpr c3
   have c3b1 := bne_eq_false_iff_eq.mpr c3
   clear c3
   (first | rw [c3b0] | (simp only [i64_w, i32_w]; rw [c3b0]) | skip)
   have H' := Aside0.mk H
   clear H
   go_wp2
   go_meet
   case rel => exact ⟨_, (true), z1_, H', ⟨z5_⟩, ⟨hb_ HB.out⟩⟩
  ·rw [if_neg c3] at H
   have c3b0 := beq_eq_false_iff_ne.mpr c3
   have c3b1 := bne_iff_ne.mpr c3
   (first | rw [c3b0] | (simp only [i64_w, i32_w]; rw [c3b0]) | skip)
   have H' := Aside0.mk H
   clear H
   go_wp2
   go_meet
   case rel => exact ⟨_, (decide ((a0.size : Int) > 255)), z1_, H', ⟨z5_⟩, ⟨hb_ HB.out⟩⟩
 case rest =>
  clear HC2
  try clear c1
  try clear p2
  try clear c3
  try clear c3b0
  try clear c3b1
  obtain ⟨kq, x12_1, rfl, HA, HJ1, HB⟩ := hcut
  cases kq with
  | zero => exact absurd HA.out (by simp [path_Is.j0])
  | succ kj1 =>
   have H := HA.out
   clear HA
   simp only [path_Is.j0] at H
   by_cases c4 : x12_1 = true
   ·subst c4
    have H1 : (some false) = some r := by rw [if_pos rfl] at H; exact H
    clear H
    have H := H1
    clear H1
    obtain rfl := Option.some.inj H
    go_wp2
    go_ret
    exact ⟨z4_, hb_ HB.out⟩
   ·replace c4 := Bool.eq_false_iff.mpr c4
    subst c4
    have H1 : ((strings_Split.f a0 (⟨#[47]⟩ : ByteArray)).bind fun t107 => (path_Is.l0 kj1 t107 t107 (t107.length : Int) 0)) = some r := by rw [if_neg (show ¬ (false = true) by decide)] at H; exact H
    clear H
    have H := H1
    clear H1
    replace H := Option.bind_eq_some_iff.mp H
    obtain ⟨t107, A50, H⟩ := H
    have A5 := Aside0.mk A50
    clear A50
    have H' := Aside0.mk H
    clear H
    go_wp2_with (first | ((with_reducible refine gate_callee (f := 200) rfl ?_); refine goesL_ (some 14) rfl rfl Tryz.func200 (by kernel_rfl) rfl #[.string a0, .string (⟨#[47]⟩ : ByteArray)] rfl z2_ ?_; (with_reducible refine (strings_Split.calls a0 (⟨#[47]⟩ : ByteArray) t107 _ A5.out).mono ?_); rintro e w6 ⟨v108, rfl, ho0, hb⟩; refine ⟨_, rfl, ?_⟩; have HO109 := Aside0.mk (Kd.R_lower ho0 (below_size (hb_ HB.out))); replace HB := Aside0.mk (below_step (hb_ HB.out) hb); (try clear hb); (try clear hb2); (try clear hk); (try clear hi); (try clear ho0); obtain ⟨Ao7, co7, eo7⟩ := Kd.R_slice HO109.out; subst eo7))
    go_loopg [17] kj1 (fun kq v17 w' => ∃ (x17_2 : Int), v17 = .int .i64 x17_2 ∧ Aside0 (path_Is.l0 kq t107 t107 (t107.length : Int) x17_2 = some r) ∧ Aside0 (kq ≤ kj1) ∧ Aside0 (Kd.R Kd.string 9 w' w.heap.size (fun _ => True) (.slice Ao7 t107.length co7) t107) ∧ Aside0 (Kd.R Kd.string 9 w' w.heap.size (fun _ => True) (.slice Ao7 t107.length co7) t107) ∧ Aside0 (Below w.heap.size w w'))
    case atStart => exact ⟨(0), z1_, H', ⟨Nat.le_refl _⟩, ⟨by (with_reducible repeat (first | apply Kd.R_alloc | apply Kd.R_drewN | apply Kd.R_drew)); exact HO109.out⟩, ⟨by (with_reducible repeat (first | apply Kd.R_alloc | apply Kd.R_drewN | apply Kd.R_drew)); exact HO109.out⟩, ⟨hb_ HB.out⟩⟩
    case round =>
     clear H'
     try clear c1
     try clear c2
     try clear p2
     try clear c3
     try clear c3b0
     try clear c3b1
     try clear c4
     try clear p2
     obtain ⟨x17_2, rfl, HA, HK2, HO_3, HO_15, HB⟩ := hrel
     cases gk with
     | zero => exact absurd HA.out (by simp [path_Is.l0])
     | succ k2 =>
      have H := HA.out
      clear HA
      simp only [path_Is.l0] at H
      by_cases c8 : x17_2 < (t107.length : Int)
      ·rw [if_pos c8] at H
       have c8b0 := decide_eq_true c8
       clear c8
       by_cases c9 : 0 ≤ x17_2
       ·rw [if_pos c9] at H
        have c9b0 := decide_eq_true c9
        clear c9
        by_cases c10 : x17_2 < (t107.length : Int)
        ·rw [if_pos c10] at H
         have c10b0 := decide_eq_true c10
         clear c10
         replace H := Option.bind_eq_some_iff.mp H
         obtain ⟨t111, A110, H⟩ := H
         have A11 := Aside0.mk A110
         clear A110
         by_cases c12 : t111 = true
         ·subst c12
          have H1 : (path_Is.l0 k2 t107 t107 (t107.length : Int) (wrap64 (x17_2 + 1))) = some r := by rw [if_pos rfl] at H; exact H
          clear H
          have H := H1
          clear H1
          have H' := Aside0.mk H
          clear H
          have p110 : 0 ≤ (x17_2 : Int) := of_decide_eq_true z0_
          have q110 : x17_2 < (t107.length : Int) := of_decide_eq_true z0_
          obtain ⟨ad110, e110, hx110_0⟩ := Kd.at_string (Kd.R_reads' HO_15.out).2.2 x17_2 p110 q110
          cases e110
          replace p110 := eq_true p110
          replace q110 := eq_true q110
          go_wp2_with (first | ((with_reducible refine gate_callee (f := 201) rfl ?_); refine goesL_ (some 22) rfl rfl Tryz.func201 (by kernel_rfl) rfl #[.string (rdOf ByteArray.empty t107 x17_2)] rfl z2_ ?_; (with_reducible refine (path_part.calls k2 (rdOf ByteArray.empty t107 x17_2) true _ A11.out).mono ?_); rintro e w' ⟨rfl, ⟨nd, rfl⟩⟩; refine ⟨_, rfl, ?_⟩))
          go_roundg k2
          case measure => have := HJ1.out; have := HK2.out; omega
          case rel => exact ⟨(wrap64 (x17_2 + 1)), z1_, H', ⟨by have := HJ1.out; have := HK2.out; omega⟩, ⟨z17_⟩, ⟨by (with_reducible repeat (first | apply Kd.R_alloc | apply Kd.R_drewN | apply Kd.R_drew)); exact HO_15.out⟩, ⟨hb_ HB.out⟩⟩
         ·replace c12 := Bool.eq_false_iff.mpr c12
          subst c12
          have H1 : (some false) = some r := by rw [if_neg (show ¬ (false = true) by decide)] at H; exact H
          clear H
          have H := H1
          clear H1
          obtain rfl := Option.some.inj H
          have p110 : 0 ≤ (x17_2 : Int) := of_decide_eq_true z0_
          have q110 : x17_2 < (t107.length : Int) := of_decide_eq_true z0_
          obtain ⟨ad110, e110, hx110_0⟩ := Kd.at_string (Kd.R_reads' HO_15.out).2.2 x17_2 p110 q110
          cases e110
          replace p110 := eq_true p110
          replace q110 := eq_true q110
          go_wp2_with (first | ((with_reducible refine gate_callee (f := 201) rfl ?_); refine goesL_ (some 22) rfl rfl Tryz.func201 (by kernel_rfl) rfl #[.string (rdOf ByteArray.empty t107 x17_2)] rfl z2_ ?_; (with_reducible refine (path_part.calls k2 (rdOf ByteArray.empty t107 x17_2) false _ A11.out).mono ?_); rintro e w' ⟨rfl, ⟨nd, rfl⟩⟩; refine ⟨_, rfl, ?_⟩))
          go_ret
          exact ⟨z4_, hb_ HB.out⟩
        ·rw [if_neg c10] at H
         exact absurd H (by simp)
       ·rw [if_neg c9] at H
        exact absurd H (by simp)
      ·rw [if_neg c8] at H
       have c8b0 := decide_eq_false c8
       clear c8
       obtain rfl := Option.some.inj H
       go_wp2
       go_ret
       exact ⟨z4_, hb_ HB.out⟩



mutual
def graftageref06_part.j0 : Nat → ByteArray → Bool → Option (Bool)
 | 0, _, _ => none
 | k + 1, x0, x23 => if x23 = true then (some false) else (graftageref06_part.l0 k x0 0)
def graftageref06_part.l0 : Nat → ByteArray → Int → Option (Bool)
 | 0, _, _ => none
 | k + 1, x0, x3 => if x3 < (x0.size : Int) then (if 0 ≤ x3 then (if (bt x0 x3) < 32 then (some false) else (if (bt x0 x3) = 47 then (some false) else (graftageref06_part.l0 k x0 (wrap64 (x3 + 1))))) else (none)) else (some true)
end
def graftageref06_part.f (k : Nat) (a0 : ByteArray) : Option (Bool) := if (a0.size : Int) < 1 then (graftageref06_part.j0 k a0 true) else (if (a0.size : Int) > 64 then (graftageref06_part.j0 k a0 true) else (if a0.toList = ([46] : List UInt8) then (graftageref06_part.j0 k a0 true) else (if a0.toList = ([46, 46] : List UInt8) then (graftageref06_part.j0 k a0 true) else (graftageref06_part.j0 k a0 (a0.toList == ([46, 103, 114, 97, 102, 116] : List UInt8))))))

mutual
def graftageref06_Is.j0 : Nat → List ByteArray → Bool → Option (Bool)
 | 0, _, _ => none
 | k + 1, x3, x19 => if x19 = true then (some false) else (graftageref06_Is.l0 k x3 0)
def graftageref06_Is.l0 : Nat → List ByteArray → Int → Option (Bool)
 | 0, _, _ => none
 | k + 1, x3, x4 => if x4 < (x3.length : Int) then (if 0 ≤ x4 then ((graftageref06_part.f k (rdOf ByteArray.empty x3 x4)).bind fun t170 => (if t170 = true then (graftageref06_Is.l0 k x3 (wrap64 (x4 + 1))) else (some false))) else (none)) else (some true)
end
end Go.Proofs.YtbhfbbfjdklfgaaGreatDoor.Q


/- Paths: the parts between slashes, and what is a path; the program's and the reference's. -/
namespace Go.Proofs.YtbhfbbfjdklfgaaGreatDoor.Q
open Go.RowKit Go.Proofs.YtbhfbbfjdklfgaaGreatDoorW.PrintWords Go.Proofs.YtbhfbbfjdklfgaaGreatDoorW.PrintLast Go.Proofs.YtbhfbbfjdklfgaaGreatDoorW.PrintMore

theorem wrap_id {x : Int} (h0 : -9223372036854775808 ≤ x) (h1 : x ≤ 9223372036854775807) : wrap64 x = x := by unfold wrap64; omega
theorem ba_ext {a b : ByteArray} (h : a.data.toList = b.data.toList) : a = b := by
  cases a; cases b; simp at h; simp [h]
theorem append_data (a b : ByteArray) : (a ++ b).data.toList = a.data.toList ++ b.data.toList := by simp
theorem bt_get (s : ByteArray) (i : Nat) (h : i < s.size) : bt s i = ((s.data.toList[i]'(by rw [← Lib.size_eq]; exact h)).toNat : Int) := by
  unfold bt
  simp only [Int.toNat_natCast]
  rw [dif_pos h]
  rfl
end Go.Proofs.YtbhfbbfjdklfgaaGreatDoor.Q


namespace Go.Proofs.YtbhfbbfjdklfgaaGreatDoor.Q
open Go.RowKit Go.Proofs.YtbhfbbfjdklfgaaGreatDoorW.PrintWords Go.Proofs.YtbhfbbfjdklfgaaGreatDoorW.PrintLast Go.Proofs.YtbhfbbfjdklfgaaGreatDoorW.PrintMore
attribute [local go_sem] max2_int min2_int max_two min_two max_three min_three max_four min_four   -- for this text's walks alone

def ident_value.f (a0 : Int) : Option (Int) := (strings_IndexByte.f (⟨#[48, 49, 50, 51, 52, 53, 54, 55, 56, 57, 97, 98, 99, 100, 101, 102]⟩ : ByteArray) a0).bind fun t101 => (some t101)
set_option maxHeartbeats 8000000 in
set_option maxRecDepth 100000 in
theorem ident_value.calls (a0 : Int) (r : Int) (w : World) (h : ident_value.f a0 = some r) :
  Calls Tryz.prog 181 #[.int .u8 a0] w fun e w' => e = .returned (.int .i64 r) ∧ Drawn0 w w' := by
 have H : ((strings_IndexByte.f (⟨#[48, 49, 50, 51, 52, 53, 54, 55, 56, 57, 97, 98, 99, 100, 101, 102]⟩ : ByteArray) a0).bind fun t101 => (some t101)) = some r := h
 clear h
 replace H := Option.bind_eq_some_iff.mp H
 obtain ⟨t101, A20, H⟩ := H
 have A2 := Aside0.mk A20
 clear A20
 obtain rfl := Option.some.inj H
 go_enter Tryz.func181, Tryz.ntmps181
 go_wp2_with (first | ((with_reducible refine gate_callee (f := 167) rfl ?_); refine goesL_ (some 4) rfl rfl Tryz.func167 (by kernel_rfl) rfl #[.string (⟨#[48, 49, 50, 51, 52, 53, 54, 55, 56, 57, 97, 98, 99, 100, 101, 102]⟩ : ByteArray), .int .u8 a0] rfl z2_ ?_; (with_reducible refine (strings_IndexByte.calls (⟨#[48, 49, 50, 51, 52, 53, 54, 55, 56, 57, 97, 98, 99, 100, 101, 102]⟩ : ByteArray) a0 t101 _ A2.out).mono ?_); rintro e w' ⟨rfl, ⟨nd, rfl⟩⟩; refine ⟨_, rfl, ?_⟩))
 go_ret
 exact ⟨z1_, z3_⟩


def ident_all.l0 : Nat → ByteArray → Int → Int → Option (Bool)
 | 0, _, _, _ => none
 | k + 1, x0, x5, x6 => if x6 < x5 then (if 0 ≤ x6 then (if x6 < (x0.size : Int) then ((ident_value.f (bt x0 x6)).bind fun t102 => (if t102 < 0 then (some false) else (ident_all.l0 k x0 x5 (wrap64 (x6 + 1))))) else (none)) else (none)) else (some true)
def ident_all.f (k : Nat) (a0 : ByteArray) : Option (Bool) := ident_all.l0 k a0 (a0.size : Int) 0
theorem ident_all.mono_l : ∀ k, (∀ y0 y1 y2, LeO (ident_all.l0 k y0 y1 y2) (ident_all.l0 (k + 1) y0 y1 y2))
 | 0 => fun _ _ _ r h => by simp [ident_all.l0] at h
 | k + 1 => by
  have ih0 := ident_all.mono_l k
  ·intro y0 y1 y2
   unfold ident_all.l0
   have m0_ := @ih0
   exact mz_
theorem ident_all.mono : ∀ a0 k, LeO (ident_all.f k a0) (ident_all.f (k + 1) a0) := by
 intro a0 k
 have ih0 := ident_all.mono_l k
 unfold ident_all.f
 have m0_ := @ih0
 exact mz_
set_option maxHeartbeats 8000000 in
set_option maxRecDepth 100000 in
theorem ident_all.calls (k : Nat) (a0 : ByteArray) (r : Bool) (w : World) (h : ident_all.f k a0 = some r) :
  Calls Tryz.prog 137 #[.string a0] w fun e w' => e = .returned (.bool r) ∧ Drawn0 w w' := by
 have H : (ident_all.l0 k a0 (a0.size : Int) 0) = some r := h
 clear h
 have H' := Aside0.mk H
 clear H
 go_enter Tryz.func137, Tryz.ntmps137
 go_wp2
 go_loopg [6] k (fun kq v6 w' => ∃ (x6_1 : Int), v6 = .int .i64 x6_1 ∧ Aside0 (ident_all.l0 kq a0 (a0.size : Int) x6_1 = some r) ∧ Aside0 (kq ≤ k) ∧ Drawn0 w w')
 case atStart => exact ⟨(0), z1_, H', ⟨Nat.le_refl _⟩, z3_⟩
 case round =>
  clear H'
  try clear c1
  obtain ⟨x6_1, rfl, HA, HK1, ⟨m1, rfl⟩⟩ := hrel
  cases gk with
  | zero => exact absurd HA.out (by simp [ident_all.l0])
  | succ k1 =>
   have H := HA.out
   clear HA
   simp only [ident_all.l0] at H
   by_cases c2 : x6_1 < (a0.size : Int)
   ·rw [if_pos c2] at H
    have c2b0 := decide_eq_true c2
    clear c2
    by_cases c3 : 0 ≤ x6_1
    ·rw [if_pos c3] at H
     have c3b0 := decide_eq_true c3
     clear c3
     by_cases c4 : x6_1 < (a0.size : Int)
     ·rw [if_pos c4] at H
      have c4b0 := decide_eq_true c4
      clear c4
      replace H := Option.bind_eq_some_iff.mp H
      obtain ⟨t102, A60, H⟩ := H
      have A6 := Aside0.mk A60
      clear A60
      by_cases c7 : t102 < 0
      ·rw [if_pos c7] at H
       have c7b0 := decide_eq_true c7
       clear c7
       obtain rfl := Option.some.inj H
       have p5 : 0 ≤ (x6_1 : Int) := of_decide_eq_true z0_
       have q5 : x6_1 < (a0.size : Int) := of_decide_eq_true z0_
       have hx5 := bt_at a0 x6_1
       replace p5 := eq_true p5
       replace q5 := eq_true q5
       go_wp2_with (first | ((with_reducible refine gate_callee (f := 181) rfl ?_); refine goesL_ (some 12) rfl rfl Tryz.func181 (by kernel_rfl) rfl #[.int .u8 (bt a0 x6_1)] rfl z2_ ?_; (with_reducible refine (ident_value.calls (bt a0 x6_1) t102 _ A6.out).mono ?_); rintro e w' ⟨rfl, ⟨nd, rfl⟩⟩; refine ⟨_, rfl, ?_⟩))
       go_ret
       exact ⟨z1_, z3_⟩
      ·rw [if_neg c7] at H
       have c7b0 := decide_eq_false c7
       clear c7
       have H' := Aside0.mk H
       clear H
       have p5 : 0 ≤ (x6_1 : Int) := of_decide_eq_true z0_
       have q5 : x6_1 < (a0.size : Int) := of_decide_eq_true z0_
       have hx5 := bt_at a0 x6_1
       replace p5 := eq_true p5
       replace q5 := eq_true q5
       go_wp2_with (first | ((with_reducible refine gate_callee (f := 181) rfl ?_); refine goesL_ (some 12) rfl rfl Tryz.func181 (by kernel_rfl) rfl #[.int .u8 (bt a0 x6_1)] rfl z2_ ?_; (with_reducible refine (ident_value.calls (bt a0 x6_1) t102 _ A6.out).mono ?_); rintro e w' ⟨rfl, ⟨nd, rfl⟩⟩; refine ⟨_, rfl, ?_⟩))
       go_roundg k1
       case measure => have := HK1.out; omega
       case rel => exact ⟨(wrap64 (x6_1 + 1)), z1_, H', ⟨by have := HK1.out; omega⟩, z3_⟩
     ·rw [if_neg c4] at H
      exact absurd H (by simp)
    ·rw [if_neg c3] at H
     exact absurd H (by simp)
   ·rw [if_neg c2] at H
    have c2b0 := decide_eq_false c2
    clear c2
    obtain rfl := Option.some.inj H
    go_wp2
    go_ret
    exact ⟨z1_, z3_⟩


def ident_Is.f (k : Nat) (a0 : ByteArray) : Option (Bool) := if (a0.size : Int) = 40 then ((ident_all.f k a0).bind fun t103 => (some t103)) else (some false)
theorem ident_Is.mono : ∀ a0 k, LeO (ident_Is.f k a0) (ident_Is.f (k + 1) a0) := by
 intro a0 k
 unfold ident_Is.f
 have m0_ := @ident_all.mono
 exact mz_
set_option maxHeartbeats 8000000 in
set_option maxRecDepth 100000 in
theorem ident_Is.calls (k : Nat) (a0 : ByteArray) (r : Bool) (w : World) (h : ident_Is.f k a0 = some r) :
  Calls Tryz.prog 65 #[.string a0] w fun e w' => e = .returned (.bool r) ∧ Drawn0 w w' := by
 have H : (if (a0.size : Int) = 40 then ((ident_all.f k a0).bind fun t103 => (some t103)) else (some false)) = some r := h
 clear h
 by_cases c2 : (a0.size : Int) = 40
 ·rw [if_pos c2] at H
  have c2b0 := beq_iff_eq.mpr c2
  have c2b1 := bne_eq_false_iff_eq.mpr c2
  clear c2
  replace H := Option.bind_eq_some_iff.mp H
  obtain ⟨t103, A30, H⟩ := H
  have A3 := Aside0.mk A30
  clear A30
  obtain rfl := Option.some.inj H
  go_enter Tryz.func65, Tryz.ntmps65
  go_wp2_with (first | (go_at_call 137; (with_reducible refine (ident_all.calls k a0 t103 _ A3.out).mono ?_); rintro e w' ⟨rfl, ⟨nd, rfl⟩⟩))
  go_ret
  exact ⟨z1_, z3_⟩
 ·rw [if_neg c2] at H
  have c2b0 := beq_eq_false_iff_ne.mpr c2
  have c2b1 := bne_iff_ne.mpr c2
  obtain rfl := Option.some.inj H
  go_enter Tryz.func65, Tryz.ntmps65
  go_wp2
  go_ret
  exact ⟨z1_, z3_⟩

end Go.Proofs.YtbhfbbfjdklfgaaGreatDoor.Q


/- Laws of no program: copy, clear and an insert on rows whose elements have several cells. -/
namespace Go.Proofs.YtbhfbbfjdklfgaaGreatDoor.Q
open Go.RowKit Go.Lib Go.Proofs.YtbhfbbfjdklfgaaGreatDoorW.PrintWords Go.Proofs.YtbhfbbfjdklfgaaGreatDoorW.PrintLast Go.Proofs.YtbhfbbfjdklfgaaGreatDoorW.PrintMore
section
variable {P : Program}
end
theorem reps_append {α : Type} {R : α → List Value → Prop} {size : Nat} {ps qs : List α} {cs ds : List Value} (h : Reps R size ps cs) (k : Reps R size qs ds) : Reps R size (ps ++ qs) (cs ++ ds) := by
  refine ⟨by rw [List.length_append, List.length_append, h.1, k.1, Nat.add_mul], fun j p hj => ?_⟩
  rcases Nat.lt_or_ge j ps.length with hlt | hge
  · rw [List.getElem?_append_left hlt] at hj
    have hle : j * size + size ≤ cs.length := by rw [h.1, ← Nat.succ_mul]; exact Nat.mul_le_mul_right _ hlt
    rw [List.drop_append_of_le_length (by omega), List.take_append_of_le_length (by rw [List.length_drop]; omega)]
    exact h.2 j p hj
  · rw [List.getElem?_append_right hge] at hj
    have e : j * size = cs.length + (j - ps.length) * size := by rw [h.1, ← Nat.add_mul]; congr 1; omega
    rw [e, List.drop_append, List.drop_of_length_le (by omega : cs.length ≤ cs.length + (j - ps.length) * size), List.nil_append]
    rw [show cs.length + (j - ps.length) * size - cs.length = (j - ps.length) * size by omega]
    exact k.2 _ p hj
section
variable {P : Program} {ops : Array Oper} {rest : List Oper} {o : Oper} {a : Act} {Q : Exit → Act → World → Prop} {α : Type}
/-- 'make([]T, 0, n)'. -/
theorem R_makecap (d : Kd α) {w0 W : World} (base e : Nat) (hgd : o.guard = none) {N : Tmp} (_hd : o.dst = some N) (t : TypeId) (x y : Operand) (ho : o.op = .makeSlice t x y) (n : Int) (hx : a.eval x = .int .i64 0) (hy : a.eval y = .int .i64 n)
    (ht : P.underlying t = some (.slice e)) (z : Value) (bytes : Nat) (hinfo : (P.info? e).map (fun i => (i.zero, i.size, i.bytes)) = some (some z, d.sz, bytes)) (hz : z.cells.size = d.sz) (hb0 : 0 < bytes)
    {ok : Nat → Prop} (hfresh : ok W.heap.size) (h0 : 0 ≤ n) (hl : n.toNat * bytes ≤ 281474976710656) (HB : Below base w0 W) (hbase : base ≤ W.heap.size)
    (h : ∀ v1 w1, d.R e w1 base ok v1 [] → Below base w0 w1 → W.grownBy w1 none → (∃ b, v1.ownBlock = some b ∧ W.heap.size ≤ b) → wpList P ops Q rest (a.put o.dst v1) w1) : wpList P ops Q (o :: rest) a W := by
  obtain ⟨m, rfl⟩ := Int.eq_ofNat_of_zero_le h0
  simp only [Int.toNat_natCast] at hl
  obtain ⟨i0, hi, hzz⟩ := Option.map_eq_some_iff.1 hinfo
  simp only [Prod.mk.injEq] at hzz
  obtain ⟨hz0, hz1, hz2⟩ := hzz
  have hm : m ≤ 281474976710656 := Nat.le_trans (Nat.le_mul_of_pos_right _ hb0) hl
  have hr := run_make (P := P) W t e i0 z ht hi hz0 .i64 .i64 0 (m : Int) (by omega) (by omega)
    (by
      have h3 : ((i0.bytes * m : Nat) : Int) ≤ 281474976710656 := by rw [hz2, Nat.mul_comm]; omega
      rwa [Int.natCast_mul] at h3) (by omega)
  simp only [Int.toNat_natCast] at hr
  rw [hz1] at hr
  refine Kd.event_run hgd (v := .slice (some ⟨W.heap.size, 0, none⟩) 0 m) (w1 := W.alloc (.cells (madeCells z.cells (m * d.sz)) e)) (by simp [execOp, ho, hx, hy, hr]) (h _ _ ⟨fun k hk => ?_, [], ?_, ⟨by simp, fun j p hj => by simp at hj⟩⟩ (HB.alloc hbase _) (World.grownBy_alloc W _ none) ⟨W.heap.size, by simp [Value.ownBlock], Nat.le_refl _⟩)
  · have : W.heap.size = k := by simpa [Value.ownBlock] using hk
    subst this
    exact hfresh
  · exact World.ownsRow_made W (madeCells z.cells (m * d.sz)) m hbase (by unfold maxLen; omega) (by simp [madeCells])
end
section
variable {P : Program} {ops : Array Oper} {o : Oper} {a : Act} {Q : Exit → Act → World → Prop} {Kc : Act → World → Prop}
end
end Go.Proofs.YtbhfbbfjdklfgaaGreatDoor.Q


namespace Go.Proofs.YtbhfbbfjdklfgaaGreatDoor.Q
open Go.RowKit Go.Proofs.YtbhfbbfjdklfgaaGreatDoorW.PrintWords Go.Proofs.YtbhfbbfjdklfgaaGreatDoorW.PrintLast Go.Proofs.YtbhfbbfjdklfgaaGreatDoorW.PrintMore
attribute [local go_sem] max2_int min2_int max_two min_two max_three min_three max_four min_four   -- for this text's walks alone

def ident_Hex.l0 : Nat → ByteArray → List Int → Int → Int → Option (ByteArray)
 | 0, _, _, _, _ => none
 | k + 1, x0, x3, x10, x11 => if x11 < x10 then (if 0 ≤ x11 then (if x11 < (x0.size : Int) then (if 0 ≤ ((bt x0 x11) / 16) then (if ((bt x0 x11) / 16) < 16 then (if 0 ≤ (Go.bits .and .u8 (bt x0 x11) 15) then (if (Go.bits .and .u8 (bt x0 x11) 15) < 16 then ((some (([bt (⟨#[48, 49, 50, 51, 52, 53, 54, 55, 56, 57, 97, 98, 99, 100, 101, 102]⟩ : ByteArray) ((bt x0 x11) / 16), bt (⟨#[48, 49, 50, 51, 52, 53, 54, 55, 56, 57, 97, 98, 99, 100, 101, 102]⟩ : ByteArray) (Go.bits .and .u8 (bt x0 x11) 15)] : List Int) : List Int)).bind fun y184 => (if x3.length + y184.length < 140737488355328 then (ident_Hex.l0 k x0 (x3 ++ y184) x10 (wrap64 (x11 + 1))) else (none))) else (none)) else (none)) else (none)) else (none)) else (none)) else (none)) else (some (strOfNums x3))
def ident_Hex.f (k : Nat) (a0 : ByteArray) : Option (ByteArray) := if 0 ≤ (wrap64 (2 * (a0.size : Int))) then (if (wrap64 (2 * (a0.size : Int)) : Int).toNat ≤ 281474976710656 then (ident_Hex.l0 k a0 (([] : List Int)) (a0.size : Int) 0) else (none)) else (none)
theorem ident_Hex.mono_l : ∀ k, (∀ y0 y1 y2 y3, LeO (ident_Hex.l0 k y0 y1 y2 y3) (ident_Hex.l0 (k + 1) y0 y1 y2 y3))
 | 0 => fun _ _ _ _ r h => by simp [ident_Hex.l0] at h
 | k + 1 => by
  have ih0 := ident_Hex.mono_l k
  ·intro y0 y1 y2 y3
   unfold ident_Hex.l0
   have m0_ := @ih0
   exact mz_
theorem ident_Hex.mono : ∀ a0 k, LeO (ident_Hex.f k a0) (ident_Hex.f (k + 1) a0) := by
 intro a0 k
 have ih0 := ident_Hex.mono_l k
 unfold ident_Hex.f
 have m0_ := @ih0
 exact mz_
def ident_Hex.T5 : Bool × List (List Nat × List Nat) := (true, [([], []), ([], []), ([], []), ([1, 2], [1, 2]), ([3], [3]), ([4], [4]), ([], []), ([], []), ([6, 7], [6, 7]), ([8], [8]), ([9], [9]), ([5, 10], [5, 10]), ([0, 11], [0, 11]), ([12, 12, 0, 1, 2, 3, 4, 5, 6, 7, 8, 9, 10, 11, 12], [0, 12])])
def ident_Hex.B5 : List Nat := [0, 0, 0, 6, 14, 30, 0, 0, 192, 448, 960, 2046, 4095, 8191]
theorem ident_Hex.tab5 : rtab .any (opsOf Tryz.f149 5) = ident_Hex.T5 := by kernel_rfl
theorem ident_Hex.bits5 : waitsOk ident_Hex.T5.2 ident_Hex.B5 = true := by kernel_rfl
set_option maxHeartbeats 8000000 in
set_option maxRecDepth 100000 in
theorem ident_Hex.calls (k : Nat) (a0 : ByteArray) (r : ByteArray) (w : World) (h : ident_Hex.f k a0 = some r) :
  Calls Tryz.prog 149 #[.string a0] w fun e w' => e = .returned (.string r) ∧ Below w.heap.size w w' := by
 have HB := Aside0.mk (Below.refl w.heap.size w)
 have H : (if 0 ≤ (wrap64 (2 * (a0.size : Int))) then (if (wrap64 (2 * (a0.size : Int)) : Int).toNat ≤ 281474976710656 then (ident_Hex.l0 k a0 (([] : List Int)) (a0.size : Int) 0) else (none)) else (none)) = some r := h
 clear h
 obtain ⟨ji2, hji2⟩ : ∃ j_ : Int, (wrap64 (2 * (a0.size : Int))) = j_ := ⟨_, rfl⟩
 replace H : (if 0 ≤ (ji2) then (if (ji2 : Int).toNat ≤ 281474976710656 then (ident_Hex.l0 k a0 (([] : List Int)) (a0.size : Int) 0) else (none)) else (none)) = some r := by first | (rw [hji2] at H; exact H) | (simp only [hji2] at H ⊢; exact H)
 have hji2w : (IntKind.i64.wrap (2 * (a0.size : Int))) = ji2 := (i64_w _).trans hji2
 by_cases c3 : 0 ≤ (ji2)
 ·rw [if_pos c3] at H
  have c3b0 := eq_true c3
  have c3b1 := decide_eq_true c3
  clear c3
  by_cases c4 : (ji2 : Int).toNat ≤ 281474976710656
  ·rw [if_pos c4] at H
   have c4b0 := eq_true c4
   have c4b1 := decide_eq_true c4
   clear c4
   obtain ⟨y181, hy181⟩ : ∃ y_ : List Int, y_ = (([] : List Int)) := ⟨_, rfl⟩
   replace H : (ident_Hex.l0 k a0 y181 (a0.size : Int) 0) = some r := by first | (rw [hy181]; with_reducible exact H) | (have H2_ := (Option.bind_some _ _).symm.trans H; rw [hy181]; with_reducible exact H2_) | (have H2_ := (Option.bind_some _ _).symm.trans H; with_reducible exact H2_) | with_reducible exact H | (rw [hy181]; exact H) | exact H
   have Ny181 := Aside0.mk hy181
   clear hy181
   have H' := Aside0.mk H
   clear H
   go_enter Tryz.func149, Tryz.ntmps149
   go_wp2_with (first | ((with_reducible refine gate_dst (N := 8) rfl ?_); refine R_makecap (Kd.int .u8) _ 5 rfl (N := 8) rfl 103 _ _ rfl ji2 rfl rfl Tryz.underlying103 (.int .u8 0) 1 info5 rfl (by decide) (ok := fun _ => True) trivial (of_decide_eq_true z0_) (Nat.le_trans (Nat.mul_le_mul_right _ (of_decide_eq_true z0_ : ji2.toNat ≤ 281474976710656)) (by omega)) (Below.refl _ _) (Nat.le_refl _) ?_; intro v182 w5 ho6 hb hg_ hnew_; clear hg_ hnew_; (first | rw [← Ny181.out] at ho6 | (simp only [Int.reduceToNat] at ho6; rw [← Ny181.out] at ho6)); have HO183 := Aside0.mk (Kd.R_lower ho6 (below_size (hb_ HB.out))); replace HB := Aside0.mk (below_step (hb_ HB.out) hb); clear hb ho6))
   go_loopg [3, 11] k (fun kq v3 v11 w' => ∃ (x3_1 : List Int) (x11_1 : Int), v11 = .int .i64 x11_1 ∧ Aside0 (ident_Hex.l0 kq a0 x3_1 (a0.size : Int) x11_1 = some r) ∧ Aside0 (kq ≤ k) ∧ Aside0 (Kd.R (Kd.int .u8) 5 w' w.heap.size (fun _ => True) v3 x3_1) ∧ Aside0 (Below w.heap.size w w'))
   case atStart => exact ⟨(y181), (0), z1_, H', ⟨Nat.le_refl _⟩, ⟨by (with_reducible repeat (first | apply Kd.R_alloc | apply Kd.R_drewN | apply Kd.R_drew)); exact HO183.out⟩, ⟨hb_ HB.out⟩⟩
   case round =>
    clear H'
    try clear c1
    try clear p2
    try clear c3
    try clear c3b0
    try clear c3b1
    try clear c4
    try clear c4b0
    try clear c4b1
    try clear p6
    obtain ⟨x3_1, x11_1, rfl, HA, HK1, HO_3, HB⟩ := hrel
    cases gk with
    | zero => exact absurd HA.out (by simp [ident_Hex.l0])
    | succ k1 =>
     have H := HA.out
     clear HA
     simp only [ident_Hex.l0] at H
     by_cases c7 : x11_1 < (a0.size : Int)
     ·rw [if_pos c7] at H
      have c7b0 := decide_eq_true c7
      clear c7
      by_cases c8 : 0 ≤ x11_1
      ·rw [if_pos c8] at H
       have c8b0 := decide_eq_true c8
       clear c8
       by_cases c9 : x11_1 < (a0.size : Int)
       ·rw [if_pos c9] at H
        have c9b0 := decide_eq_true c9
        clear c9
        obtain ⟨ji11, hji11⟩ : ∃ j_ : Int, ((bt a0 x11_1) / 16) = j_ := ⟨_, rfl⟩
        replace H : (if 0 ≤ (ji11) then (if (ji11) < 16 then (if 0 ≤ (Go.bits .and .u8 (bt a0 x11_1) 15) then (if (Go.bits .and .u8 (bt a0 x11_1) 15) < 16 then ((some (([bt (⟨#[48, 49, 50, 51, 52, 53, 54, 55, 56, 57, 97, 98, 99, 100, 101, 102]⟩ : ByteArray) (ji11), bt (⟨#[48, 49, 50, 51, 52, 53, 54, 55, 56, 57, 97, 98, 99, 100, 101, 102]⟩ : ByteArray) (Go.bits .and .u8 (bt a0 x11_1) 15)] : List Int) : List Int)).bind fun y184 => (if x3_1.length + y184.length < 140737488355328 then (ident_Hex.l0 k1 a0 (x3_1 ++ y184) (a0.size : Int) (wrap64 (x11_1 + 1))) else (none))) else (none)) else (none)) else (none)) else (none)) = some r := by first | (rw [hji11] at H; exact H) | (simp only [hji11] at H ⊢; exact H)
        by_cases c12 : 0 ≤ (ji11)
        ·rw [if_pos c12] at H
         have c12b0 := decide_eq_true c12
         clear c12
         by_cases c13 : (ji11) < 16
         ·rw [if_pos c13] at H
          have c13b0 := decide_eq_true c13
          clear c13
          by_cases c16 : 0 ≤ (Go.bits .and .u8 (bt a0 x11_1) 15)
          ·rw [if_pos c16] at H
           have c16b0 := decide_eq_true c16
           clear c16
           by_cases c17 : (Go.bits .and .u8 (bt a0 x11_1) 15) < 16
           ·rw [if_pos c17] at H
            have c17b0 := decide_eq_true c17
            clear c17
            obtain ⟨y184, hy184⟩ : ∃ y_ : List Int, y_ = (([bt (⟨#[48, 49, 50, 51, 52, 53, 54, 55, 56, 57, 97, 98, 99, 100, 101, 102]⟩ : ByteArray) (ji11), bt (⟨#[48, 49, 50, 51, 52, 53, 54, 55, 56, 57, 97, 98, 99, 100, 101, 102]⟩ : ByteArray) (Go.bits .and .u8 (bt a0 x11_1) 15)] : List Int)) := ⟨_, rfl⟩
            replace H : (if x3_1.length + y184.length < 140737488355328 then (ident_Hex.l0 k1 a0 (x3_1 ++ y184) (a0.size : Int) (wrap64 (x11_1 + 1))) else (none)) = some r := by first | (rw [hy184]; with_reducible exact H) | (have H2_ := (Option.bind_some _ _).symm.trans H; rw [hy184]; with_reducible exact H2_) | (have H2_ := (Option.bind_some _ _).symm.trans H; with_reducible exact H2_) | with_reducible exact H | (rw [hy184]; exact H) | exact H
            have Ny184 := Aside0.mk hy184
            clear hy184
            by_cases c19 : x3_1.length + y184.length < 140737488355328
            ·rw [if_pos c19] at H
             have LMc19 := Aside0.mk c19
             clear c19
             obtain ⟨y187, hy187⟩ : ∃ y_ : List Int, y_ = (x3_1 ++ y184) := ⟨_, rfl⟩
             replace H : (ident_Hex.l0 k1 a0 y187 (a0.size : Int) (wrap64 (x11_1 + 1))) = some r := by first | (rw [hy187]; with_reducible exact H) | (have H2_ := (Option.bind_some _ _).symm.trans H; rw [hy187]; with_reducible exact H2_) | (have H2_ := (Option.bind_some _ _).symm.trans H; with_reducible exact H2_) | with_reducible exact H | (rw [hy187]; exact H) | exact H
             have Ny187 := Aside0.mk hy187
             clear hy187
             have H' := Aside0.mk H
             clear H
             try go_wp2
             replace HO_3 := Aside0.mk (Kd.R_drew HO_3.out)
             replace HB := Aside0.mk (below_drew1 HB.out)
             have p10 : 0 ≤ (x11_1 : Int) := of_decide_eq_true z0_
             have q10 : x11_1 < (a0.size : Int) := of_decide_eq_true z0_
             have hx10 := bt_at a0 x11_1
             replace p10 := eq_true p10
             replace q10 := eq_true q10
             have p14 : 0 ≤ ((ji11) : Int) := of_decide_eq_true z0_
             have q14 : (ji11) < (16 : Int) := of_decide_eq_true z0_
             have hx14 := bt_at (⟨#[48, 49, 50, 51, 52, 53, 54, 55, 56, 57, 97, 98, 99, 100, 101, 102]⟩ : ByteArray) (ji11)
             replace p14 := eq_true p14
             replace q14 := eq_true q14
             have p15 : 0 ≤ (x11_1 : Int) := of_decide_eq_true z0_
             have q15 : x11_1 < (a0.size : Int) := of_decide_eq_true z0_
             have hx15 := bt_at a0 x11_1
             replace p15 := eq_true p15
             replace q15 := eq_true q15
             have p18 : 0 ≤ ((Go.bits .and .u8 (bt a0 x11_1) 15) : Int) := of_decide_eq_true z0_
             have q18 : (Go.bits .and .u8 (bt a0 x11_1) 15) < (16 : Int) := of_decide_eq_true z0_
             have hx18 := bt_at (⟨#[48, 49, 50, 51, 52, 53, 54, 55, 56, 57, 97, 98, 99, 100, 101, 102]⟩ : ByteArray) (Go.bits .and .u8 (bt a0 x11_1) 15)
             replace p18 := eq_true p18
             replace q18 := eq_true q18
             refine start_ (n := 14) (S := fun w' => True) (ds := []) (bs 14 0) (by kernel_rfl) rfl rfl trivial (fun hHeld => ?_); refine with_tabW ident_Hex.tab5 ident_Hex.bits5 (fun HT_ HW_ => ?_)
             generalize wr.drew = w20 at HO_3 HB hHeld ⊢
             refine pu_ (i := 0) (N := some 14) (bs 14 1) rfl rfl ?_
             refine pu_ (i := 1) (N := some 15) (bs 14 3) rfl rfl ?_
             refine pu_ (i := 2) (N := some 16) (bs 14 7) rfl rfl ?_
             refine pu_ (i := 6) (N := some 20) (bs 14 71) rfl rfl ?_
             refine pu_ (i := 7) (N := some 21) (bs 14 199) rfl rfl ?_
             refine tkW0_ (i := 3) (N := some 17) (bs 14 207) rfl rfl hHeld ?_
             refine pu_ (i := 4) (N := some 18) (bs 14 223) rfl rfl ?_
             refine tkW0_ (i := 5) (N := some 19) (bs 14 255) rfl rfl hHeld ?_
             refine tkW0_ (i := 8) (N := some 22) (bs 14 511) rfl rfl hHeld ?_
             refine pu_ (i := 9) (N := some 23) (bs 14 1023) rfl rfl ?_
             refine tkW0_ (i := 10) (N := some 24) (bs 14 2047) rfl rfl hHeld ?_
             refine one_ (i := 11) (N := some 25) (bs 14 4095) rfl rfl (one_of HT_.out (by kernel_rfl)) (by decide) (fun K hK => ?_)
             refine Kd.R_lit_step (Kd.int .u8) _ 5 ?hg (N := 25) ?hd (xs := ([bt (⟨#[48, 49, 50, 51, 52, 53, 54, 55, 56, 57, 97, 98, 99, 100, 101, 102]⟩ : ByteArray) (ji11), bt (⟨#[48, 49, 50, 51, 52, 53, 54, 55, 56, 57, 97, 98, 99, 100, 101, 102]⟩ : ByteArray) (Go.bits .and .u8 (bt a0 x11_1) 15)] : List Int)) (inner := [.int .u8 (bt (⟨#[48, 49, 50, 51, 52, 53, 54, 55, 56, 57, 97, 98, 99, 100, 101, 102]⟩ : ByteArray) (ji11)), .int .u8 (bt (⟨#[48, 49, 50, 51, 52, 53, 54, 55, 56, 57, 97, 98, 99, 100, 101, 102]⟩ : ByteArray) (Go.bits .and .u8 (bt a0 x11_1) 15))]) (ok := fun _ => True) (okp := fun _ => True) ?hr ?hp (fun _ hk => hk) trivial (Below.refl _ _) (Nat.le_refl _) (by simp) ?_; (case hd => rfl); (case hg => rfl); (case hr => first | (go_simp; done) | (go_simp; rfl)); (case hp => exact (Reps.one (show Kd.M (Kd.int .u8) _ _ _ (bt (⟨#[48, 49, 50, 51, 52, 53, 54, 55, 56, 57, 97, 98, 99, 100, 101, 102]⟩ : ByteArray) (ji11)) [.int .u8 (bt (⟨#[48, 49, 50, 51, 52, 53, 54, 55, 56, 57, 97, 98, 99, 100, 101, 102]⟩ : ByteArray) (ji11))] from rfl) (Reps.one (show Kd.M (Kd.int .u8) _ _ _ (bt (⟨#[48, 49, 50, 51, 52, 53, 54, 55, 56, 57, 97, 98, 99, 100, 101, 102]⟩ : ByteArray) (Go.bits .and .u8 (bt a0 x11_1) 15)) [.int .u8 (bt (⟨#[48, 49, 50, 51, 52, 53, 54, 55, 56, 57, 97, 98, 99, 100, 101, 102]⟩ : ByteArray) (Go.bits .and .u8 (bt a0 x11_1) 15))] from rfl) (Reps.none _ _))))
             intro v185 w21 ho22 hb hg_ hnew_
             clear hg_ hnew_
             (first | rw [← Ny184.out] at ho22 | (simp only [Int.reduceToNat] at ho22; rw [← Ny184.out] at ho22))
             have HO186 := Aside0.mk (Kd.R_lower (Kd.R_new' ho22 (Kd.R_lt (rk_ HO_3.out))) (below_size (hb_ HB.out)))
             replace HO_3 := Aside0.mk (Kd.R_elder' (rk_ HO_3.out) (Kd.R_base ho22) hb)
             replace HB := Aside0.mk (below_step (hb_ HB.out) hb)
             clear hb ho22
             obtain ⟨Ao24, co24, eo24⟩ := Kd.R_slice HO186.out
             (first | subst eo24 | (injection eo24 with f1_ f2_ f3_; have f4_ := f1_.symm; have f5_ := f3_.symm; clear f1_ f2_ f3_; subst f4_; subst f5_))
             refine hK.out _ _ trivial (fun hHeld => ?_)
             clear hK K
             refine norm_ (a' := ?_) ?_ ?_
             rotate_left
             ·show Act.put _ (some 25) _ = _
              simp only [Act.put, List.setIfInBounds_toArray, List.set_cons_zero, List.set_cons_succ, i64_w, i32_w]
              rfl
             refine one_ (i := 12) (N := some 26) (bs 14 8191) rfl rfl (one_of HT_.out (by kernel_rfl)) (by decide) (fun K hK => ?_)
             refine Kd.R_append_rows_step (Kd.int .u8) (w0 := w) w.heap.size (by rfl) (.tmp 14) (.tmp 25) 103 5 (.int .u8 0) 1 rfl Tryz.underlying103 info5 rfl (by decide) (by omega) u3 x3_1 y184 _ _ _ (fun k_ => some k_ ≠ (.slice Ao24 y184.length co24 : Value).ownBlock) (fun _ => False) rfl rfl ?aO ?aR (fun _ _ h => h) (fun _ h => h.elim) ?aF ?aB ?aS ?aL ?_
             (case aR => repeat (first | exact (Kd.R_reads' HO186.out).2.2 | (with_reducible refine Kd.C_alloc ?_ _) | (with_reducible refine Kd.C_drewN ?_ _) | (with_reducible refine Kd.C_drew ?_)))
             (case aB => exact (hb_ HB.out))
             (case aF => exact (fun k_ hk => Kd.fresh' (Kd.R_lt (rk_ HO186.out)) k_ hk))
             (case aO => exact (by (with_reducible repeat (first | apply Kd.R_alloc | apply Kd.R_drewN | apply Kd.R_drew)); exact Kd.R_mono HO_3.out (fun _ hk => hk.2)))
             (case aS => exact (below_size (hb_ HB.out)))
             (case aL => have := LMc19.out; omega)
             intro v188 w23 ho hb hg hat
             rw [← Ny187.out] at ho
             have n0_ := Aside0.mk (Kd.R_after (ok := (fun _ => True)) (rk_ HO186.out) hg hat)
             have n1_ := Aside0.mk (hb)
             have n2_ := Aside0.mk (ho)
             clear HO186
             clear HB
             clear HO_3
             have HO186 := n0_
             have HB := n1_
             have HO189 := n2_
             clear n0_ n1_ n2_
             clear ho hb hg hat
             refine hK.out _ _ trivial (fun hHeld => ?_)
             clear hK K
             refine norm_ (a' := ?_) ?_ ?_
             rotate_left
             ·show Act.put _ (some 26) _ = _
              simp only [Act.put, List.setIfInBounds_toArray, List.set_cons_zero, List.set_cons_succ, i64_w, i32_w]
              rfl
             refine pu_ (i := 13) (N := some 3) (bs 14 16383) rfl rfl ?_
             refine done_ (done_of HT_.out (by kernel_rfl)) ?_
             try go_wp2
             go_roundg k1
             case measure => have := HK1.out; omega
             case rel => exact ⟨(y187), (wrap64 (x11_1 + 1)), z1_, H', ⟨by have := HK1.out; omega⟩, ⟨by (with_reducible repeat (first | apply Kd.R_alloc | apply Kd.R_drewN | apply Kd.R_drew)); exact Kd.R_mono HO189.out (fun _ hk => trivial)⟩, ⟨hb_ HB.out⟩⟩
            ·rw [if_neg c19] at H
             exact absurd H (by simp)
           ·rw [if_neg c17] at H
            exact absurd H (by simp)
          ·rw [if_neg c16] at H
           exact absurd H (by simp)
         ·rw [if_neg c13] at H
          exact absurd H (by simp)
        ·rw [if_neg c12] at H
         exact absurd H (by simp)
       ·rw [if_neg c9] at H
        exact absurd H (by simp)
      ·rw [if_neg c8] at H
       exact absurd H (by simp)
     ·rw [if_neg c7] at H
      have c7b0 := decide_eq_false c7
      clear c7
      obtain rfl := Option.some.inj H
      have hcv25 := own_string (P := Tryz.prog) Tryz.underlying103 Tryz.underlying5 Tryz.underlying9 (Kd.own_of_R HO_3.out)
      go_wp2
      go_ret
      exact ⟨by first | rfl | (simp [errW_none, errW_some] <;> rfl) | (simp only [← hji2]; first | rfl | (simp [errW_none, errW_some] <;> rfl)) | (simp [*, errW_none, errW_some] <;> rfl) | (simp [ne_nil_bool]; done) | (simp [*, ne_nil_bool]; done), hb_ HB.out⟩
  ·rw [if_neg c4] at H
   exact absurd H (by simp)
 ·rw [if_neg c3] at H
  exact absurd H (by simp)





def graftageref02_Hex.T6 : Bool × List (List Nat × List Nat) := (true, [([], []), ([], []), ([], []), ([], []), ([2, 3], [2, 3]), ([4], [4]), ([1, 5], [1, 5]), ([], []), ([], []), ([], []), ([8, 9], [8, 9]), ([10], [10]), ([7, 11], [7, 11]), ([6, 12], [6, 12]), ([0, 13], [0, 13]), ([14, 14, 0, 1, 2, 3, 4, 5, 6, 7, 8, 9, 10, 11, 12, 13, 14], [0, 14])])
def graftageref02_Hex.B6 : List Nat := [0, 0, 0, 0, 12, 28, 62, 0, 0, 0, 768, 1792, 3968, 8190, 16383, 32767]
theorem graftageref02_Hex.tab6 : rtab .any (opsOf Tryz.f197 6) = graftageref02_Hex.T6 := by kernel_rfl
theorem graftageref02_Hex.bits6 : waitsOk graftageref02_Hex.T6.2 graftageref02_Hex.B6 = true := by kernel_rfl
end Go.Proofs.YtbhfbbfjdklfgaaGreatDoor.Q


/- Ids: digits, bytes and their digits; the program's and the reference's. -/
namespace Go.Proofs.YtbhfbbfjdklfgaaGreatDoor.Q
open Go.RowKit Go.Proofs.YtbhfbbfjdklfgaaGreatDoorW.PrintWords Go.Proofs.YtbhfbbfjdklfgaaGreatDoorW.PrintLast Go.Proofs.YtbhfbbfjdklfgaaGreatDoorW.PrintMore

def hexD : List UInt8 := [48, 49, 50, 51, 52, 53, 54, 55, 56, 57, 97, 98, 99, 100, 101, 102]
/-- A digit's value; -1. -/
def dv (b : Int) : Int := Lib.indexByte hexD b.toNat.toUInt8
theorem value_eq (b : Int) : ident_value.f b = some (dv b) := rfl
/-- Are all digits, from a place on? -/
def hexF (s : ByteArray) : Nat → Nat → Bool
  | 0, _ => true
  | d + 1, i => decide (0 ≤ dv (bt s i)) && hexF s d (i + 1)
theorem all_l0 (s : ByteArray) (hs : s.size ≤ 140737488351232) : ∀ (d k i : Nat), i + d = s.size → d < k → ident_all.l0 k s s.size i = some (hexF s d i) := by
  intro d
  induction d with
  | zero =>
    intro k i hi hk
    obtain ⟨k, rfl⟩ : ∃ m, k = m + 1 := ⟨k - 1, by omega⟩
    simp only [ident_all.l0]
    rw [if_neg (by omega)]; rfl
  | succ d ih =>
    intro k i hi hk
    obtain ⟨k, rfl⟩ : ∃ m, k = m + 1 := ⟨k - 1, by omega⟩
    have := ih k (i + 1) (by omega) (by omega)
    simp only [ident_all.l0]
    rw [if_pos (by omega), if_pos (by omega), if_pos (by omega), value_eq, wrap_id (by omega) (by omega)]
    simp only [Option.bind_some]
    rw [hexF]
    by_cases h : dv (bt s i) < 0
    · rw [if_pos h, decide_eq_false (by omega)]; rfl
    · rw [if_neg h, decide_eq_true (by omega), Bool.true_and]; exact_mod_cast this
def idOk (s : ByteArray) : Bool := decide (s.size = 40) && hexF s s.size 0
theorem ident_Is_ev (s : ByteArray) : Ev (fun k => ident_Is.f k s) (idOk s) := by
  unfold idOk
  by_cases h : s.size = 40
  · refine Ev.congr (f := fun k => (ident_all.f k s).bind fun t => some t) (fun k => by unfold ident_Is.f; rw [if_pos (by omega)]) ?_
    refine Ev.bind (Ev.of (fun k => ident_all.mono s k) (k := 60) (r := hexF s s.size 0) ?_) ?_
    · unfold ident_all.f
      exact_mod_cast all_l0 s (by omega) s.size 60 0 (by omega) (by omega)
    · rw [decide_eq_true h, Bool.true_and]; exact Ev.now _
  · refine Ev.congr (f := fun _ => some false) (fun k => by unfold ident_Is.f; rw [if_neg (by omega)]) ?_
    rw [decide_eq_false h, Bool.false_and]; exact Ev.now _
def hx (n : Int) : Int := bt (⟨#[48, 49, 50, 51, 52, 53, 54, 55, 56, 57, 97, 98, 99, 100, 101, 102]⟩ : ByteArray) n
end Go.Proofs.YtbhfbbfjdklfgaaGreatDoor.Q


/- A closure of commit.Check, told without rounds: no id? -/
namespace Go.Proofs.YtbhfbbfjdklfgaaGreatDoor.Q
open Go.RowKit Go.Proofs.YtbhfbbfjdklfgaaGreatDoorW.PrintWords Go.Proofs.YtbhfbbfjdklfgaaGreatDoorW.PrintLast Go.Proofs.YtbhfbbfjdklfgaaGreatDoorW.PrintMore
theorem ev_take {α : Type} {g : Nat → Option α} {r : α} (h : Ev g r) : ∃ k, g k = some r := h.rounds
def commit_Check_1.f (a0 : ByteArray) : Option Bool := some (!idOk a0)
theorem commit_Check_1.calls (a0 : ByteArray) (r : Bool) (w : World) (h : commit_Check_1.f a0 = some r) :
    Calls Tryz.prog 64 #[.string a0] w fun e w' => e = .returned (.bool r) ∧ Drawn0 w w' := by
  obtain rfl := Option.some.inj h
  clear h
  obtain ⟨k, hk⟩ := ev_take (ident_Is_ev a0)
  have HK := Aside0.mk hk
  clear hk
  obtain ⟨b, hb⟩ : ∃ b, b = idOk a0 := ⟨_, rfl⟩
  rw [← hb] at HK ⊢
  clear hb
  go_enter Tryz.func64, Tryz.ntmps64
  go_wp2_with (go_at_call 65; (with_reducible refine (ident_Is.calls k a0 b _ HK.out).mono ?_); rintro e w1 ⟨rfl, hb⟩; have HB := Aside0.mk hb; clear hb)
  go_ret
  exact ⟨rfl, HB.out⟩
end Go.Proofs.YtbhfbbfjdklfgaaGreatDoor.Q


/- A map from strings to truth values that the call makes, as a state: how often it was written, and what stands at a key. -/
namespace Go.Proofs.YtbhfbbfjdklfgaaGreatDoor.Q
open Go.RowKit Go.Maps Go.Proofs.YtbhfbbfjdklfgaaGreatDoorW.PrintWords Go.Proofs.YtbhfbbfjdklfgaaGreatDoorW.PrintLast Go.Proofs.YtbhfbbfjdklfgaaGreatDoorW.PrintMore
structure MSB where
  n : Nat
  f : List UInt8 → Option Bool
def MSB.nil : MSB := ⟨0, fun _ => none⟩
def MSB.get (m : MSB) (k : ByteArray) : Bool := (m.f k.data.toList).getD false
def MSB.has (m : MSB) (k : ByteArray) : Bool := (m.f k.data.toList).isSome
def MSB.put (m : MSB) (k : ByteArray) (v : Bool) : MSB := ⟨m.n + 1, fun x => if x = k.data.toList then some v else m.f x⟩
def IsS84 (w0 W : World) (g : Nat) (f0 : MSB) : Prop := w0.heap.size ≤ g ∧ ∃ D : DataW Unit, W.ownsMap Tryz.prog 9 (plainElem Tryz.prog 4) g f0.n D ∧
  ∀ s : List UInt8, s.length ≤ maxLen → D.atKey (.string s) (.lit (.bool false)) = .lit (.bool ((f0.f s).getD false)) ∧ Maps.has D (.string s) = (f0.f s).isSome
theorem plainElem_bool_inv {H : Type} {P : Program} {e : TypeId} (he : P.underlying e = some .bool) {v : Value} {z : DataW H × List MemPlace} (h : plainElem P e v = some z) : ∃ a, v = .bool a ∧ z = (.lit (.bool a), []) := by
  unfold plainElem at h
  rw [he] at h
  cases v <;> simp at h
  subst h
  exact ⟨_, rfl, rfl⟩
theorem wpList_lookup_own_bool {H : Type} {P : Program} (w : World) {ops : Array Oper} {rest : List Oper} {o : Oper} {a : Act} {Q : Exit → Act → World → Prop}
    (hg : o.guard = none) (m x : Operand) (t : TypeId) (hop : o.op = Op.lookup t m x false)
    (k e : TypeId) (K : Keyed P k) (ht : P.underlying t = some (.map k e)) (he : P.underlying e = some .bool) (hz : (zeroValue e).run P w = .ok (.bool false) w) (b n : Nat) (D : DataW H)
    (hm : a.eval m = .map (some b)) (hown : w.ownsMap P k (plainElem P e) b n D) (key : Value) (kl : Lit) (hx : a.eval x = key) (hkey : keyOf P k key = some kl)
    (hK : ∀ c : Bool, D.atKey kl (.lit (.bool false)) = .lit (.bool c) → wpList P ops Q rest (a.put o.dst (.bool c)) w) :
    wpList P ops Q (o :: rest) a w := by
  refine wpList_plain hg fun K' hK' => ?_
  obtain ⟨v, ps, hrun, hv⟩ := hown.lookup K ht hz (plainElem_bool he false) hkey
  obtain ⟨c, rfl, hc⟩ := plainElem_bool_inv he hv
  unfold Oper.wp
  simp [execOp, hop, hm, hx, hrun, Result.andThen]
  exact hK' _ _ (hK c (congrArg Prod.fst hc))
theorem mapLawB : Keyed Tryz.prog 9 := string_keyed Tryz.underlying9
theorem mapZeroB (w : World) : (zeroValue 4).run Tryz.prog w = .ok (.bool false) w := by kernel_rfl
section
variable {w0 W W1 : World} {g : Nat} {f0 : MSB}
theorem IsS84.block (h : IsS84 w0 W g f0) : ∃ es clock, W.heap[g]? = some (.map es clock) := by
  obtain ⟨_, D, ⟨es, c, hb, _⟩, _⟩ := h
  exact ⟨es, c, hb⟩
theorem IsS84.grown {row : Option Nat} (h : IsS84 w0 W g f0) (hw : W.grownBy W1 row) (hne : some g ≠ row) : IsS84 w0 W1 g f0 := by
  obtain ⟨h0, D, h1, h2⟩ := h
  exact ⟨h0, D, h1.kept hw hne, h2⟩
theorem IsS84.below (h : IsS84 w0 W g f0) (hw : Below W.heap.size W W1) : IsS84 w0 W1 g f0 := h.grown (grown_of_below hw none) (by simp)
theorem IsS84.alloc (h : IsS84 w0 W g f0) (o : Obj) : IsS84 w0 (W.alloc o) g f0 := h.below (below_alloc (Below.refl _ _) o)
theorem IsS84.drewN (h : IsS84 w0 W g f0) (m : Nat) : IsS84 w0 (W.drewN m) g f0 := h
theorem IsS84.drew (h : IsS84 w0 W g f0) : IsS84 w0 W.drew g f0 := h
theorem IsS84.at_ {m : Nat} (hq : W.drewN m = W1) (h : IsS84 w0 W g f0) : IsS84 w0 W1 g f0 := by subst hq; exact h
theorem IsS84.ge (h : IsS84 w0 W g f0) : w0.heap.size ≤ g := h.1
theorem IsS84.lt (h : IsS84 w0 W g f0) : g < W.heap.size := by
  obtain ⟨_, D, h1, _⟩ := h
  exact h1.lt
theorem IsS84.fresh (h : IsS84 w0 W g f0) : ∀ k, W.heap.size ≤ k → k ≠ g := fun k hk e => by have := h.lt; omega
theorem IsS84.far {p : Addr} (h : IsS84 w0 W g f0) (hne : g ≠ p.block) (u : Value) : IsS84 w0 (W.setCell p u) g f0 := by
  obtain ⟨h0, D, h1, h2⟩ := h
  exact ⟨h0, D, h1.setCell hne u, h2⟩
theorem IsS84.apart {α : Type} {d : Kd α} {e : Nat} {base : Nat} {ok : Nat → Prop} {v : Value} {xs : List α} (h : IsS84 w0 W g f0) (ho : d.R e W base ok v xs) (ht : ∀ q, q ∈ e :: d.E → q ≠ 84) : d.R e W base (fun k => ok k ∧ k ≠ g) v xs := by
  obtain ⟨es, c, hb⟩ := h.block
  refine Kd.R_mono (Kd.R_bound ho) (fun k hk => ⟨hk.1, ?_⟩)
  rintro rfl
  obtain ⟨_, _, _, q, _, cells, hc⟩ := hk
  rw [hc] at hb
  cases hb
theorem IsS84.own_ne {α : Type} {d : Kd α} {e : Nat} {base : Nat} {ok : Nat → Prop} {v : Value} {xs : List α} (h : IsS84 w0 W g f0) (ho : d.R e W base ok v xs) (ht : e ≠ 84) : some g ≠ v.ownBlock := by
  obtain ⟨es, c, hb⟩ := h.block
  intro he
  obtain ⟨_, _, _, q, _, cells, hc⟩ := (Kd.R_bound ho).1 g he.symm
  rw [hc] at hb
  cases hb
theorem IsS84.made (hb : W.ownsMap Tryz.prog 9 (plainElem (H := Unit) Tryz.prog 4) g 0 (.map [])) (hg : w0.heap.size ≤ g) : IsS84 w0 W g MSB.nil :=
  ⟨hg, .map [], hb, fun s hs => ⟨by simp [DataW.atKey, MSB.nil], by simp [Maps.has, MSB.nil]⟩⟩
end
section
variable {ops : Array Oper} {rest : List Oper} {o : Oper} {a : Act} {Q : Exit → Act → World → Prop} {w0 W : World} {g : Nat} {f0 : MSB}
theorem mkmapB_event (hgd : o.guard = none) {N : Tmp} (hd : o.dst = some N) (hop : o.op = .makeMap 84 none)
    (h : ∀ g, g = W.heap.size → ∀ w1, w1.ownsMap Tryz.prog 9 (plainElem (H := Unit) Tryz.prog 4) g 0 (.map []) → Below W.heap.size W w1 → wpList Tryz.prog ops Q rest (a.put o.dst (.map (some g))) w1) : wpList Tryz.prog ops Q (o :: rest) a W := by
  have hmm := @run_makeMap Tryz.prog
  refine Kd.event_run hgd (v := .map (some W.heap.size)) (w1 := W.alloc (.map #[] 0)) ?_ (h _ rfl _ (World.ownsMap_made _ _ _ _) (below_alloc (Below.refl _ _) _))
  simp [execOp, hop, hmm, Result.andThen]
theorem IsS84.look {m x : Operand} {k : ByteArray} (h : IsS84 w0 W g f0) (hgd : o.guard = none) (hop : o.op = .lookup 84 m x false) (hm : a.eval m = .map (some g)) (hx : a.eval x = .string k) (hs : k.size ≤ 9223372036854775807)
    {c_ : Bool} (he_ : MSB.get f0 k = c_) (K : wpList Tryz.prog ops Q rest (a.put o.dst (.bool c_)) W) : wpList Tryz.prog ops Q (o :: rest) a W := by
  subst he_
  obtain ⟨h0, D, h1, h2⟩ := h
  refine wpList_lookup_own_bool _ hgd m x 84 hop 9 4 mapLawB Tryz.underlying84 Tryz.underlying4 (mapZeroB _) g f0.n D hm h1 _ _ hx (WideMaps.keyOf_string_mk Tryz.underlying9 (by unfold maxLen; exact hs)) ?_
  intro c hat
  have := (h2 k.data.toList (by unfold maxLen; exact hs)).1
  rw [this] at hat
  have e : c = MSB.get f0 k := by
    injection hat with hat
    injection hat with hat
    exact hat.symm
  rw [e]
  exact K
theorem IsS84.put_ {m x v : Operand} {k : ByteArray} {n : Bool} (h : IsS84 w0 W g f0) (hgd : o.guard = none) (hop : o.op = .mapUpdate 84 m x v) (hm : a.eval m = .map (some g)) (hx : a.eval x = .string k) (hv : a.eval v = .bool n) (hs : k.size ≤ 9223372036854775807) (hn : f0.n < 4611686018427387904) (hw : True)
    (K : ∀ w1, IsS84 w0 w1 g (MSB.put f0 k n) → W.grownBy w1 (some g) → wpList Tryz.prog ops Q rest (a.put o.dst undef) w1) : wpList Tryz.prog ops Q (o :: rest) a W := by
  obtain ⟨h0, D, h1, h2⟩ := h
  have hk : keyOf Tryz.prog 9 (.string k) = some (.string k.data.toList) := WideMaps.keyOf_string_mk Tryz.underlying9 (by unfold maxLen; exact hs)
  refine wpList_mapUpdate_own _ hgd m x v 84 hop 9 4 mapLawB Tryz.underlying84 _ g f0.n D hm h1 (by unfold maxLen; omega) _ _ _ hx hv hk _ [] (plainElem_bool Tryz.underlying4 n) ?_
  intro w1 hown hg
  refine K w1 ⟨h0, _, hown, fun s hl => ?_⟩ hg
  have hD : IsMap D := by
    obtain ⟨es, c, _, _, _, rfl⟩ := h1
    exact ⟨_, rfl⟩
  have hkl : WideAt.IsKeyLit (.string k.data.toList) := trivial
  by_cases e : s = k.data.toList
  · subst e
    refine ⟨?_, ?_⟩
    · rw [atKey_put_same hD hkl]; simp [MSB.put]
    · rw [has_put_same hD hkl]; simp [MSB.put]
  · have hne : (Lit.string s) ≠ .string k.data.toList := fun h => e (by injection h)
    have := h2 s hl
    refine ⟨?_, ?_⟩
    · rw [atKey_put_other hne, this.1]; simp [MSB.put, e]
    · rw [has_put_other hne, this.2]; simp [MSB.put, e]
end
end Go.Proofs.YtbhfbbfjdklfgaaGreatDoor.Q


namespace Go.Proofs.YtbhfbbfjdklfgaaGreatDoor.Q
open Go.RowKit Go.Proofs.YtbhfbbfjdklfgaaGreatDoorW.PrintWords Go.Proofs.YtbhfbbfjdklfgaaGreatDoorW.PrintLast Go.Proofs.YtbhfbbfjdklfgaaGreatDoorW.PrintMore
attribute [local go_sem] max2_int min2_int max_two min_two max_three min_three max_four min_four   -- for this text's walks alone

mutual
def commit_Check.j0 : Nat → Bool → ByteArray → List ByteArray → ByteArray → ByteArray → Int → Int → ByteArray → ByteArray → Int → Int → ByteArray → Option (Int)
 | 0, _, _, _, _, _, _, _, _, _, _, _, _ => none
 | k + 1, x33, x102000, x102001, x102002, x102003, x102004, x102005, x102006, x102007, x102008, x102009, x102010 => if x33 = true then (some 1) else (if (x102010.size : Int) > 4096 then (commit_Check.j1 k true x102000 x102001 x102002 x102003 x102004 x102005 x102006 x102007 x102008 x102009 x102010) else (commit_Check.j1 k (decide ((x102001.length : Int) > 8)) x102000 x102001 x102002 x102003 x102004 x102005 x102006 x102007 x102008 x102009 x102010))
def commit_Check.j1 : Nat → Bool → ByteArray → List ByteArray → ByteArray → ByteArray → Int → Int → ByteArray → ByteArray → Int → Int → ByteArray → Option (Int)
 | 0, _, _, _, _, _, _, _, _, _, _, _, _ => none
 | k + 1, x43, x102000, x102001, x102002, x102003, x102004, x102005, x102006, x102007, x102008, x102009, x102010 => if x43 = true then (some 4) else (commit_Check.l0 k x102001 (x102001.length : Int) 0 MSB.nil)
def commit_Check.l0 : Nat → List ByteArray → Int → Int → MSB → Option (Int)
 | 0, _, _, _, _ => none
 | k + 1, x46, x47, x48, x108000 => if x48 < x47 then (if 0 ≤ x48 then (if x48 < (x46.length : Int) then (if (rdOf ByteArray.empty x46 x48).size ≤ 9223372036854775807 then (if MSB.get x108000 (rdOf ByteArray.empty x46 x48) = true then (some 6) else (if x108000.n < 4611686018427387904 then (commit_Check.l0 k x46 x47 (wrap64 (x48 + 1)) (MSB.put x108000 (rdOf ByteArray.empty x46 x48) true)) else (none))) else (none)) else (none)) else (none)) else (some 0)
end
def commit_Check.f (k : Nat) (a0_0 : ByteArray) (l0_1 : List ByteArray) (a0_2 : ByteArray) (a0_3 : ByteArray) (a0_4 : Int) (a0_5 : Int) (a0_6 : ByteArray) (a0_7 : ByteArray) (a0_8 : Int) (a0_9 : Int) (a0_10 : ByteArray) : Option (Int) := (commit_Check_1.f a0_0).bind fun t102 => (if t102 = true then (commit_Check.j0 k true a0_0 l0_1 a0_2 a0_3 a0_4 a0_5 a0_6 a0_7 a0_8 a0_9 a0_10) else ((slices_ContainsFunc_string_string.f k l0_1 (fun z0 => commit_Check_1.f z0)).bind fun t103 => (if t103 = true then (commit_Check.j0 k true a0_0 l0_1 a0_2 a0_3 a0_4 a0_5 a0_6 a0_7 a0_8 a0_9 a0_10) else ((commit_somebody.f k a0_2 a0_3 a0_4 a0_5).bind fun t104 => (if t104 = true then ((commit_somebody.f k a0_6 a0_7 a0_8 a0_9).bind fun t105 => (if t105 = true then ((strings_Contains2.f a0_10 (⟨#[0]⟩ : ByteArray)).bind fun t106 => (commit_Check.j0 k t106 a0_0 l0_1 a0_2 a0_3 a0_4 a0_5 a0_6 a0_7 a0_8 a0_9 a0_10)) else (commit_Check.j0 k true a0_0 l0_1 a0_2 a0_3 a0_4 a0_5 a0_6 a0_7 a0_8 a0_9 a0_10))) else (commit_Check.j0 k true a0_0 l0_1 a0_2 a0_3 a0_4 a0_5 a0_6 a0_7 a0_8 a0_9 a0_10))))))
theorem commit_Check.mono_l : ∀ k, (∀ y0 y1 y2 y3 y4 y5 y6 y7 y8 y9 y10 y11, LeO (commit_Check.j0 k y0 y1 y2 y3 y4 y5 y6 y7 y8 y9 y10 y11) (commit_Check.j0 (k + 1) y0 y1 y2 y3 y4 y5 y6 y7 y8 y9 y10 y11)) ∧ (∀ y0 y1 y2 y3 y4 y5 y6 y7 y8 y9 y10 y11, LeO (commit_Check.j1 k y0 y1 y2 y3 y4 y5 y6 y7 y8 y9 y10 y11) (commit_Check.j1 (k + 1) y0 y1 y2 y3 y4 y5 y6 y7 y8 y9 y10 y11)) ∧ (∀ y0 y1 y2 y3, LeO (commit_Check.l0 k y0 y1 y2 y3) (commit_Check.l0 (k + 1) y0 y1 y2 y3))
 | 0 => ⟨fun _ _ _ _ _ _ _ _ _ _ _ _ r h => by simp [commit_Check.j0] at h, fun _ _ _ _ _ _ _ _ _ _ _ _ r h => by simp [commit_Check.j1] at h, fun _ _ _ _ r h => by simp [commit_Check.l0] at h⟩
 | k + 1 => by
  obtain ⟨ih0, ih1, ih2⟩ := commit_Check.mono_l k
  refine ⟨?_, ?_, ?_⟩
  ·intro y0 y1 y2 y3 y4 y5 y6 y7 y8 y9 y10 y11
   unfold commit_Check.j0
   have m0_ := @ih0
   have m1_ := @ih1
   have m2_ := @ih2
   have m3_ := @commit_somebody.mono
   have m4_ := @slices_ContainsFunc_string_string.mono
   exact mz_
  ·intro y0 y1 y2 y3 y4 y5 y6 y7 y8 y9 y10 y11
   unfold commit_Check.j1
   have m0_ := @ih0
   have m1_ := @ih1
   have m2_ := @ih2
   have m3_ := @commit_somebody.mono
   have m4_ := @slices_ContainsFunc_string_string.mono
   exact mz_
  ·intro y0 y1 y2 y3
   unfold commit_Check.l0
   have m0_ := @ih0
   have m1_ := @ih1
   have m2_ := @ih2
   have m3_ := @commit_somebody.mono
   have m4_ := @slices_ContainsFunc_string_string.mono
   exact mz_
theorem commit_Check.mono : ∀ a0 a1 a2 a3 a4 a5 a6 a7 a8 a9 a10 k, LeO (commit_Check.f k a0 a1 a2 a3 a4 a5 a6 a7 a8 a9 a10) (commit_Check.f (k + 1) a0 a1 a2 a3 a4 a5 a6 a7 a8 a9 a10) := by
 intro a0 a1 a2 a3 a4 a5 a6 a7 a8 a9 a10 k
 obtain ⟨ih0, ih1, ih2⟩ := commit_Check.mono_l k
 unfold commit_Check.f
 have m0_ := @ih0
 have m1_ := @ih1
 have m2_ := @ih2
 have m3_ := @commit_somebody.mono
 have m4_ := @slices_ContainsFunc_string_string.mono
 exact mz_
set_option maxHeartbeats 8000000 in
set_option maxRecDepth 100000 in
theorem commit_Check.calls (k : Nat) (a0_0 : ByteArray) (A0_1 : Option Addr) (c0_1 : Nat) (l0_1 : List ByteArray) (a0_2 : ByteArray) (a0_3 : ByteArray) (a0_4 : Int) (a0_5 : Int) (a0_6 : ByteArray) (a0_7 : ByteArray) (a0_8 : Int) (a0_9 : Int) (a0_10 : ByteArray) (r : Int) (w : World) (hr0_1 : Kd.C Kd.string w A0_1 l0_1.length l0_1) (hc0_1 : l0_1.length ≤ c0_1) (hgv : GV w) (h : commit_Check.f k a0_0 l0_1 a0_2 a0_3 a0_4 a0_5 a0_6 a0_7 a0_8 a0_9 a0_10 = some r) :
  Calls Tryz.prog 18 #[.agg #[.string a0_0, .slice A0_1 l0_1.length c0_1, .string a0_2, .string a0_3, .int .i64 a0_4, .int .i64 a0_5, .string a0_6, .string a0_7, .int .i64 a0_8, .int .i64 a0_9, .string a0_10]] w fun e w' => e = .returned (.int .i64 r) ∧ Below w.heap.size w w' := by
 have hu26 := Tryz.underlying26
 have hu24 := Tryz.underlying24
 have HR0_1 := Aside0.mk hr0_1
 have HC0_1 := Aside0.mk hc0_1
 clear hr0_1 hc0_1
 have HB := Aside0.mk (Below.refl w.heap.size w)
 have H : ((commit_Check_1.f a0_0).bind fun t102 => (if t102 = true then (commit_Check.j0 k true a0_0 l0_1 a0_2 a0_3 a0_4 a0_5 a0_6 a0_7 a0_8 a0_9 a0_10) else ((slices_ContainsFunc_string_string.f k l0_1 (fun z0 => commit_Check_1.f z0)).bind fun t103 => (if t103 = true then (commit_Check.j0 k true a0_0 l0_1 a0_2 a0_3 a0_4 a0_5 a0_6 a0_7 a0_8 a0_9 a0_10) else ((commit_somebody.f k a0_2 a0_3 a0_4 a0_5).bind fun t104 => (if t104 = true then ((commit_somebody.f k a0_6 a0_7 a0_8 a0_9).bind fun t105 => (if t105 = true then ((strings_Contains2.f a0_10 (⟨#[0]⟩ : ByteArray)).bind fun t106 => (commit_Check.j0 k t106 a0_0 l0_1 a0_2 a0_3 a0_4 a0_5 a0_6 a0_7 a0_8 a0_9 a0_10)) else (commit_Check.j0 k true a0_0 l0_1 a0_2 a0_3 a0_4 a0_5 a0_6 a0_7 a0_8 a0_9 a0_10))) else (commit_Check.j0 k true a0_0 l0_1 a0_2 a0_3 a0_4 a0_5 a0_6 a0_7 a0_8 a0_9 a0_10))))))) = some r := h
 clear h
 have HC2 := Aside0.mk H
 clear H
 go_enter Tryz.func18, Tryz.ntmps18
 go_upto_region 2 with (first | ((with_reducible refine gate_dst (N := 1) rfl ?_); (try (refine gate_guard (by rfl) ?_; dsimp only)); refine be_ (cs := #[.string a0_0, .slice A0_1 l0_1.length c0_1, .string a0_2, .string a0_3, .int .i64 a0_4, .int .i64 a0_5, .string a0_6, .string a0_7, .int .i64 a0_8, .int .i64 a0_9, .string a0_10]) (t := 26) ?_; intro gb101 hg w3 hbox hb; have BK101 := Aside0.mk (hbox); have GW101 := Aside0.mk (gw_ hg HB.out); have GE101 := Aside0.mk (gw_ hg HB.out); replace HB := Aside0.mk (below_step (hb_ HB.out) hb); clear hb hbox hg))
 (try simp only [Act.put, List.setIfInBounds_toArray, List.set_cons_zero, List.set_cons_succ])
 go_cut [33] (fun v33 wc => ∃ (kq : Nat) (x33_1 : Bool), v33 = .bool x33_1 ∧ Aside0 (commit_Check.j0 kq x33_1 a0_0 l0_1 a0_2 a0_3 a0_4 a0_5 a0_6 a0_7 a0_8 a0_9 a0_10 = some r) ∧ Aside0 (kq ≤ k) ∧ Aside0 (wc.heap[gb101]? = some (.cells #[.string a0_0, (.slice A0_1 l0_1.length c0_1), .string a0_2, .string a0_3, .int .i64 a0_4, .int .i64 a0_5, .string a0_6, .string a0_7, .int .i64 a0_8, .int .i64 a0_9, .string a0_10] 26 (0, 0))) ∧ Aside0 (Below w.heap.size w wc))
 case first =>
  have H := HC2.out
  clear HC2
  replace H := Option.bind_eq_some_iff.mp H
  obtain ⟨t102, A40, H⟩ := H
  have A4 := Aside0.mk A40
  clear A40
  by_cases c5 : t102 = true
  ·subst c5
   have H1 : (commit_Check.j0 k true a0_0 l0_1 a0_2 a0_3 a0_4 a0_5 a0_6 a0_7 a0_8 a0_9 a0_10) = some r := by rw [if_pos rfl] at H; exact H
   clear H
   have H := H1
   clear H1
   have H' := Aside0.mk H
   clear H
   obtain ⟨hcz6_0, hcz6_1, hcz6_2, hcz6_3, hcz6_4, hcz6_5, hcz6_6, hcz6_7, hcz6_8, hcz6_9, hcz6_10, hfz6_0, hfz6_1, hfz6_2, hfz6_3, hfz6_4, hfz6_5, hfz6_6, hfz6_7, hfz6_8, hfz6_9, hfz6_10⟩ := bc11 BK101.out
   go_wp2_with (first | (refine goesF_ (some 10) rfl rfl (g := 64) (lb := #[]) (fun args w => enters_ Tryz.func64 rfl rfl args w) #[.string a0_0] rfl rfl z8_ #[.string a0_0] (by first | rfl | simp) ?_; (with_reducible refine (commit_Check_1.calls a0_0  true _ A4.out).mono ?_); rintro e w' ⟨rfl, ⟨nd, rfl⟩⟩; refine ⟨_, rfl, ?_⟩))
   go_meet
   case rel => exact ⟨_, (true), z1_, H', ⟨z5_⟩, ⟨bk_ BK101.out⟩, ⟨hs_⟩⟩
  ·replace c5 := Bool.eq_false_iff.mpr c5
   subst c5
   have H1 : ((slices_ContainsFunc_string_string.f k l0_1 (fun z0 => commit_Check_1.f z0)).bind fun t103 => (if t103 = true then (commit_Check.j0 k true a0_0 l0_1 a0_2 a0_3 a0_4 a0_5 a0_6 a0_7 a0_8 a0_9 a0_10) else ((commit_somebody.f k a0_2 a0_3 a0_4 a0_5).bind fun t104 => (if t104 = true then ((commit_somebody.f k a0_6 a0_7 a0_8 a0_9).bind fun t105 => (if t105 = true then ((strings_Contains2.f a0_10 (⟨#[0]⟩ : ByteArray)).bind fun t106 => (commit_Check.j0 k t106 a0_0 l0_1 a0_2 a0_3 a0_4 a0_5 a0_6 a0_7 a0_8 a0_9 a0_10)) else (commit_Check.j0 k true a0_0 l0_1 a0_2 a0_3 a0_4 a0_5 a0_6 a0_7 a0_8 a0_9 a0_10))) else (commit_Check.j0 k true a0_0 l0_1 a0_2 a0_3 a0_4 a0_5 a0_6 a0_7 a0_8 a0_9 a0_10))))) = some r := by rw [if_neg (show ¬ (false = true) by decide)] at H; exact H
   clear H
   have H := H1
   clear H1
   replace H := Option.bind_eq_some_iff.mp H
   obtain ⟨t103, A70, H⟩ := H
   have A7 := Aside0.mk A70
   clear A70
   by_cases c8 : t103 = true
   ·subst c8
    have H1 : (commit_Check.j0 k true a0_0 l0_1 a0_2 a0_3 a0_4 a0_5 a0_6 a0_7 a0_8 a0_9 a0_10) = some r := by rw [if_pos rfl] at H; exact H
    clear H
    have H := H1
    clear H1
    have H' := Aside0.mk H
    clear H
    obtain ⟨hcz9_0, hcz9_1, hcz9_2, hcz9_3, hcz9_4, hcz9_5, hcz9_6, hcz9_7, hcz9_8, hcz9_9, hcz9_10, hfz9_0, hfz9_1, hfz9_2, hfz9_3, hfz9_4, hfz9_5, hfz9_6, hfz9_7, hfz9_8, hfz9_9, hfz9_10⟩ := bc11 BK101.out
    go_wp2_with (first | (refine goesF_ (some 10) rfl rfl (g := 64) (lb := #[]) (fun args w => enters_ Tryz.func64 rfl rfl args w) #[.string a0_0] rfl rfl z8_ #[.string a0_0] (by first | rfl | simp) ?_; (with_reducible refine (commit_Check_1.calls a0_0  false _ A4.out).mono ?_); rintro e w' ⟨rfl, ⟨nd, rfl⟩⟩; refine ⟨_, rfl, ?_⟩) | (go_at_call 66; (with_reducible refine (slices_ContainsFunc_string_string.calls k _ _ l0_1 64 #[] (fun z0 => commit_Check_1.f z0) true _ ?side1 ?side2 ?side3 ?side4 A7.out).mono ?_); (case side1 => repeat (first | exact (Kd.C_below HR0_1.out (hs_)) | (with_reducible refine Kd.C_alloc ?_ _) | (with_reducible refine Kd.C_drewN ?_ _) | (with_reducible refine Kd.C_drew ?_))); (case side2 => exact HC0_1.out); (case side3 => exact fun args w => enters_ Tryz.func64 rfl rfl args w); (case side4 => intro z0_ z1_ W_ hB_ h_; exact (commit_Check_1.calls z0_ z1_ W_  h_).mono (fun e w' hx_ => ⟨hx_.1, hx_.2.below⟩)); rintro e w10 ⟨rfl, hb⟩; replace BK101 := Aside0.mk (bb_ BK101.out hb); replace HB := Aside0.mk (below_step (hs_) hb); (try clear hb); (try clear hb2); (try clear hk); (try clear hi)))
    go_meet
    case rel => exact ⟨_, (true), z1_, H', ⟨z5_⟩, ⟨bk_ BK101.out⟩, ⟨hs_⟩⟩
   ·replace c8 := Bool.eq_false_iff.mpr c8
    subst c8
    have H1 : ((commit_somebody.f k a0_2 a0_3 a0_4 a0_5).bind fun t104 => (if t104 = true then ((commit_somebody.f k a0_6 a0_7 a0_8 a0_9).bind fun t105 => (if t105 = true then ((strings_Contains2.f a0_10 (⟨#[0]⟩ : ByteArray)).bind fun t106 => (commit_Check.j0 k t106 a0_0 l0_1 a0_2 a0_3 a0_4 a0_5 a0_6 a0_7 a0_8 a0_9 a0_10)) else (commit_Check.j0 k true a0_0 l0_1 a0_2 a0_3 a0_4 a0_5 a0_6 a0_7 a0_8 a0_9 a0_10))) else (commit_Check.j0 k true a0_0 l0_1 a0_2 a0_3 a0_4 a0_5 a0_6 a0_7 a0_8 a0_9 a0_10))) = some r := by rw [if_neg (show ¬ (false = true) by decide)] at H; exact H
    clear H
    have H := H1
    clear H1
    replace H := Option.bind_eq_some_iff.mp H
    obtain ⟨t104, A110, H⟩ := H
    have A11 := Aside0.mk A110
    clear A110
    by_cases c12 : t104 = true
    ·subst c12
     have H1 : ((commit_somebody.f k a0_6 a0_7 a0_8 a0_9).bind fun t105 => (if t105 = true then ((strings_Contains2.f a0_10 (⟨#[0]⟩ : ByteArray)).bind fun t106 => (commit_Check.j0 k t106 a0_0 l0_1 a0_2 a0_3 a0_4 a0_5 a0_6 a0_7 a0_8 a0_9 a0_10)) else (commit_Check.j0 k true a0_0 l0_1 a0_2 a0_3 a0_4 a0_5 a0_6 a0_7 a0_8 a0_9 a0_10))) = some r := by rw [if_pos rfl] at H; exact H
     clear H
     have H := H1
     clear H1
     replace H := Option.bind_eq_some_iff.mp H
     obtain ⟨t105, A130, H⟩ := H
     have A13 := Aside0.mk A130
     clear A130
     by_cases c14 : t105 = true
     ·subst c14
      have H1 : ((strings_Contains2.f a0_10 (⟨#[0]⟩ : ByteArray)).bind fun t106 => (commit_Check.j0 k t106 a0_0 l0_1 a0_2 a0_3 a0_4 a0_5 a0_6 a0_7 a0_8 a0_9 a0_10)) = some r := by rw [if_pos rfl] at H; exact H
      clear H
      have H := H1
      clear H1
      replace H := Option.bind_eq_some_iff.mp H
      obtain ⟨t106, A150, H⟩ := H
      have A15 := Aside0.mk A150
      clear A150
      have H' := Aside0.mk H
      clear H
      obtain ⟨hcz16_0, hcz16_1, hcz16_2, hcz16_3, hcz16_4, hcz16_5, hcz16_6, hcz16_7, hcz16_8, hcz16_9, hcz16_10, hfz16_0, hfz16_1, hfz16_2, hfz16_3, hfz16_4, hfz16_5, hfz16_6, hfz16_7, hfz16_8, hfz16_9, hfz16_10⟩ := bc11 BK101.out
      have tk1_ : True := trivial
      have tk2_ : True := trivial
      go_wp2_with (first | (refine goesF_ (some 10) rfl rfl (g := 64) (lb := #[]) (fun args w => enters_ Tryz.func64 rfl rfl args w) #[.string a0_0] rfl rfl z8_ #[.string a0_0] (by first | rfl | simp) ?_; (with_reducible refine (commit_Check_1.calls a0_0  false _ A4.out).mono ?_); rintro e w' ⟨rfl, ⟨nd, rfl⟩⟩; refine ⟨_, rfl, ?_⟩) | (go_at_call 66; (with_reducible refine (slices_ContainsFunc_string_string.calls k _ _ l0_1 64 #[] (fun z0 => commit_Check_1.f z0) false _ ?side1 ?side2 ?side3 ?side4 A7.out).mono ?_); (case side1 => repeat (first | exact (Kd.C_below HR0_1.out (hs_)) | (with_reducible refine Kd.C_alloc ?_ _) | (with_reducible refine Kd.C_drewN ?_ _) | (with_reducible refine Kd.C_drew ?_))); (case side2 => exact HC0_1.out); (case side3 => exact fun args w => enters_ Tryz.func64 rfl rfl args w); (case side4 => intro z0_ z1_ W_ hB_ h_; exact (commit_Check_1.calls z0_ z1_ W_  h_).mono (fun e w' hx_ => ⟨hx_.1, hx_.2.below⟩)); rintro e w17 ⟨rfl, hb⟩; replace BK101 := Aside0.mk (bb_ BK101.out hb); replace HB := Aside0.mk (below_step (hs_) hb); (try clear hb); (try clear hb2); (try clear hk); (try clear hi); obtain ⟨hcz18_0, hcz18_1, hcz18_2, hcz18_3, hcz18_4, hcz18_5, hcz18_6, hcz18_7, hcz18_8, hcz18_9, hcz18_10, hfz18_0, hfz18_1, hfz18_2, hfz18_3, hfz18_4, hfz18_5, hfz18_6, hfz18_7, hfz18_8, hfz18_9, hfz18_10⟩ := bc11 BK101.out) | (go_at_call 67; have _t := tk1_; (with_reducible refine (commit_somebody.calls k a0_2 a0_3 a0_4 a0_5 true _ A11.out).mono ?_); rintro e w19 ⟨rfl, hb⟩; replace BK101 := Aside0.mk (bb_ BK101.out hb); replace HB := Aside0.mk (below_step (hs_) hb); (try clear hb); (try clear hb2); (try clear hk); (try clear hi); obtain ⟨hcz20_0, hcz20_1, hcz20_2, hcz20_3, hcz20_4, hcz20_5, hcz20_6, hcz20_7, hcz20_8, hcz20_9, hcz20_10, hfz20_0, hfz20_1, hfz20_2, hfz20_3, hfz20_4, hfz20_5, hfz20_6, hfz20_7, hfz20_8, hfz20_9, hfz20_10⟩ := bc11 BK101.out; clear tk1_) | (go_at_call 67; have _t := tk2_; (with_reducible refine (commit_somebody.calls k a0_6 a0_7 a0_8 a0_9 true _ A13.out).mono ?_); rintro e w21 ⟨rfl, hb⟩; replace BK101 := Aside0.mk (bb_ BK101.out hb); replace HB := Aside0.mk (below_step (hs_) hb); (try clear hb); (try clear hb2); (try clear hk); (try clear hi); obtain ⟨hcz22_0, hcz22_1, hcz22_2, hcz22_3, hcz22_4, hcz22_5, hcz22_6, hcz22_7, hcz22_8, hcz22_9, hcz22_10, hfz22_0, hfz22_1, hfz22_2, hfz22_3, hfz22_4, hfz22_5, hfz22_6, hfz22_7, hfz22_8, hfz22_9, hfz22_10⟩ := bc11 BK101.out; clear tk2_) | (go_at_call 68; (with_reducible refine (strings_Contains2.calls a0_10 (⟨#[0]⟩ : ByteArray) t106 _ ?side1 A15.out).mono ?_); (case side1 => exact GV.below hgv (hs_)); rintro e w' ⟨rfl, ⟨nd, rfl⟩⟩))
      go_meet
      case rel => exact ⟨_, (t106), z1_, H', ⟨z5_⟩, ⟨bk_ BK101.out⟩, ⟨hs_⟩⟩
     ·replace c14 := Bool.eq_false_iff.mpr c14
      subst c14
      have H1 : (commit_Check.j0 k true a0_0 l0_1 a0_2 a0_3 a0_4 a0_5 a0_6 a0_7 a0_8 a0_9 a0_10) = some r := by rw [if_neg (show ¬ (false = true) by decide)] at H; exact H
      clear H
      have H := H1
      clear H1
      have H' := Aside0.mk H
      clear H
      obtain ⟨hcz23_0, hcz23_1, hcz23_2, hcz23_3, hcz23_4, hcz23_5, hcz23_6, hcz23_7, hcz23_8, hcz23_9, hcz23_10, hfz23_0, hfz23_1, hfz23_2, hfz23_3, hfz23_4, hfz23_5, hfz23_6, hfz23_7, hfz23_8, hfz23_9, hfz23_10⟩ := bc11 BK101.out
      have tk3_ : True := trivial
      have tk4_ : True := trivial
      go_wp2_with (first | (refine goesF_ (some 10) rfl rfl (g := 64) (lb := #[]) (fun args w => enters_ Tryz.func64 rfl rfl args w) #[.string a0_0] rfl rfl z8_ #[.string a0_0] (by first | rfl | simp) ?_; (with_reducible refine (commit_Check_1.calls a0_0  false _ A4.out).mono ?_); rintro e w' ⟨rfl, ⟨nd, rfl⟩⟩; refine ⟨_, rfl, ?_⟩) | (go_at_call 66; (with_reducible refine (slices_ContainsFunc_string_string.calls k _ _ l0_1 64 #[] (fun z0 => commit_Check_1.f z0) false _ ?side1 ?side2 ?side3 ?side4 A7.out).mono ?_); (case side1 => repeat (first | exact (Kd.C_below HR0_1.out (hs_)) | (with_reducible refine Kd.C_alloc ?_ _) | (with_reducible refine Kd.C_drewN ?_ _) | (with_reducible refine Kd.C_drew ?_))); (case side2 => exact HC0_1.out); (case side3 => exact fun args w => enters_ Tryz.func64 rfl rfl args w); (case side4 => intro z0_ z1_ W_ hB_ h_; exact (commit_Check_1.calls z0_ z1_ W_  h_).mono (fun e w' hx_ => ⟨hx_.1, hx_.2.below⟩)); rintro e w24 ⟨rfl, hb⟩; replace BK101 := Aside0.mk (bb_ BK101.out hb); replace HB := Aside0.mk (below_step (hs_) hb); (try clear hb); (try clear hb2); (try clear hk); (try clear hi); obtain ⟨hcz25_0, hcz25_1, hcz25_2, hcz25_3, hcz25_4, hcz25_5, hcz25_6, hcz25_7, hcz25_8, hcz25_9, hcz25_10, hfz25_0, hfz25_1, hfz25_2, hfz25_3, hfz25_4, hfz25_5, hfz25_6, hfz25_7, hfz25_8, hfz25_9, hfz25_10⟩ := bc11 BK101.out) | (go_at_call 67; have _t := tk3_; (with_reducible refine (commit_somebody.calls k a0_2 a0_3 a0_4 a0_5 true _ A11.out).mono ?_); rintro e w26 ⟨rfl, hb⟩; replace BK101 := Aside0.mk (bb_ BK101.out hb); replace HB := Aside0.mk (below_step (hs_) hb); (try clear hb); (try clear hb2); (try clear hk); (try clear hi); obtain ⟨hcz27_0, hcz27_1, hcz27_2, hcz27_3, hcz27_4, hcz27_5, hcz27_6, hcz27_7, hcz27_8, hcz27_9, hcz27_10, hfz27_0, hfz27_1, hfz27_2, hfz27_3, hfz27_4, hfz27_5, hfz27_6, hfz27_7, hfz27_8, hfz27_9, hfz27_10⟩ := bc11 BK101.out; clear tk3_) | (go_at_call 67; have _t := tk4_; (with_reducible refine (commit_somebody.calls k a0_6 a0_7 a0_8 a0_9 false _ A13.out).mono ?_); rintro e w28 ⟨rfl, hb⟩; replace BK101 := Aside0.mk (bb_ BK101.out hb); replace HB := Aside0.mk (below_step (hs_) hb); (try clear hb); (try clear hb2); (try clear hk); (try clear hi); clear tk4_))
      go_meet
      case rel => exact ⟨_, (true), z1_, H', ⟨z5_⟩, ⟨bk_ BK101.out⟩, ⟨hs_⟩⟩
    ·replace c12 := Bool.eq_false_iff.mpr c12
     subst c12
     have H1 : (commit_Check.j0 k true a0_0 l0_1 a0_2 a0_3 a0_4 a0_5 a0_6 a0_7 a0_8 a0_9 a0_10) = some r := by rw [if_neg (show ¬ (false = true) by decide)] at H; exact H
     clear H
     have H := H1
     clear H1
     have H' := Aside0.mk H
     clear H
     obtain ⟨hcz29_0, hcz29_1, hcz29_2, hcz29_3, hcz29_4, hcz29_5, hcz29_6, hcz29_7, hcz29_8, hcz29_9, hcz29_10, hfz29_0, hfz29_1, hfz29_2, hfz29_3, hfz29_4, hfz29_5, hfz29_6, hfz29_7, hfz29_8, hfz29_9, hfz29_10⟩ := bc11 BK101.out
     go_wp2_with (first | (refine goesF_ (some 10) rfl rfl (g := 64) (lb := #[]) (fun args w => enters_ Tryz.func64 rfl rfl args w) #[.string a0_0] rfl rfl z8_ #[.string a0_0] (by first | rfl | simp) ?_; (with_reducible refine (commit_Check_1.calls a0_0  false _ A4.out).mono ?_); rintro e w' ⟨rfl, ⟨nd, rfl⟩⟩; refine ⟨_, rfl, ?_⟩) | (go_at_call 66; (with_reducible refine (slices_ContainsFunc_string_string.calls k _ _ l0_1 64 #[] (fun z0 => commit_Check_1.f z0) false _ ?side1 ?side2 ?side3 ?side4 A7.out).mono ?_); (case side1 => repeat (first | exact (Kd.C_below HR0_1.out (hs_)) | (with_reducible refine Kd.C_alloc ?_ _) | (with_reducible refine Kd.C_drewN ?_ _) | (with_reducible refine Kd.C_drew ?_))); (case side2 => exact HC0_1.out); (case side3 => exact fun args w => enters_ Tryz.func64 rfl rfl args w); (case side4 => intro z0_ z1_ W_ hB_ h_; exact (commit_Check_1.calls z0_ z1_ W_  h_).mono (fun e w' hx_ => ⟨hx_.1, hx_.2.below⟩)); rintro e w30 ⟨rfl, hb⟩; replace BK101 := Aside0.mk (bb_ BK101.out hb); replace HB := Aside0.mk (below_step (hs_) hb); (try clear hb); (try clear hb2); (try clear hk); (try clear hi); obtain ⟨hcz31_0, hcz31_1, hcz31_2, hcz31_3, hcz31_4, hcz31_5, hcz31_6, hcz31_7, hcz31_8, hcz31_9, hcz31_10, hfz31_0, hfz31_1, hfz31_2, hfz31_3, hfz31_4, hfz31_5, hfz31_6, hfz31_7, hfz31_8, hfz31_9, hfz31_10⟩ := bc11 BK101.out) | (go_at_call 67; (with_reducible refine (commit_somebody.calls k a0_2 a0_3 a0_4 a0_5 false _ A11.out).mono ?_); rintro e w32 ⟨rfl, hb⟩; replace BK101 := Aside0.mk (bb_ BK101.out hb); replace HB := Aside0.mk (below_step (hs_) hb); (try clear hb); (try clear hb2); (try clear hk); (try clear hi)))
     go_meet
     case rel => exact ⟨_, (true), z1_, H', ⟨z5_⟩, ⟨bk_ BK101.out⟩, ⟨hs_⟩⟩
 case rest =>
  clear HC2
  try clear c1
  try clear p2
  try clear c5
  try clear c6
  try clear c8
  try clear c12
  try clear c14
  try clear c18
  try clear hcz16_0 hcz16_1 hcz16_10 hcz16_2 hcz16_3 hcz16_4 hcz16_5 hcz16_6 hcz16_7 hcz16_8 hcz16_9
  try clear hcz18_0 hcz18_1 hcz18_10 hcz18_2 hcz18_3 hcz18_4 hcz18_5 hcz18_6 hcz18_7 hcz18_8 hcz18_9
  try clear hcz20_0 hcz20_1 hcz20_10 hcz20_2 hcz20_3 hcz20_4 hcz20_5 hcz20_6 hcz20_7 hcz20_8 hcz20_9
  try clear hcz22_0 hcz22_1 hcz22_10 hcz22_2 hcz22_3 hcz22_4 hcz22_5 hcz22_6 hcz22_7 hcz22_8 hcz22_9
  try clear hcz23_0 hcz23_1 hcz23_10 hcz23_2 hcz23_3 hcz23_4 hcz23_5 hcz23_6 hcz23_7 hcz23_8 hcz23_9
  try clear hcz25_0 hcz25_1 hcz25_10 hcz25_2 hcz25_3 hcz25_4 hcz25_5 hcz25_6 hcz25_7 hcz25_8 hcz25_9
  try clear hcz27_0 hcz27_1 hcz27_10 hcz27_2 hcz27_3 hcz27_4 hcz27_5 hcz27_6 hcz27_7 hcz27_8 hcz27_9
  try clear hcz29_0 hcz29_1 hcz29_10 hcz29_2 hcz29_3 hcz29_4 hcz29_5 hcz29_6 hcz29_7 hcz29_8 hcz29_9
  try clear hcz31_0 hcz31_1 hcz31_10 hcz31_2 hcz31_3 hcz31_4 hcz31_5 hcz31_6 hcz31_7 hcz31_8 hcz31_9
  try clear hcz6_0 hcz6_1 hcz6_10 hcz6_2 hcz6_3 hcz6_4 hcz6_5 hcz6_6 hcz6_7 hcz6_8 hcz6_9
  try clear hcz9_0 hcz9_1 hcz9_10 hcz9_2 hcz9_3 hcz9_4 hcz9_5 hcz9_6 hcz9_7 hcz9_8 hcz9_9
  try clear hfz16_0 hfz16_1 hfz16_10 hfz16_2 hfz16_3 hfz16_4 hfz16_5 hfz16_6 hfz16_7 hfz16_8 hfz16_9
  try clear hfz18_0 hfz18_1 hfz18_10 hfz18_2 hfz18_3 hfz18_4 hfz18_5 hfz18_6 hfz18_7 hfz18_8 hfz18_9
  try clear hfz20_0 hfz20_1 hfz20_10 hfz20_2 hfz20_3 hfz20_4 hfz20_5 hfz20_6 hfz20_7 hfz20_8 hfz20_9
  try clear hfz22_0 hfz22_1 hfz22_10 hfz22_2 hfz22_3 hfz22_4 hfz22_5 hfz22_6 hfz22_7 hfz22_8 hfz22_9
  try clear hfz23_0 hfz23_1 hfz23_10 hfz23_2 hfz23_3 hfz23_4 hfz23_5 hfz23_6 hfz23_7 hfz23_8 hfz23_9
  try clear hfz25_0 hfz25_1 hfz25_10 hfz25_2 hfz25_3 hfz25_4 hfz25_5 hfz25_6 hfz25_7 hfz25_8 hfz25_9
  try clear hfz27_0 hfz27_1 hfz27_10 hfz27_2 hfz27_3 hfz27_4 hfz27_5 hfz27_6 hfz27_7 hfz27_8 hfz27_9
  try clear hfz29_0 hfz29_1 hfz29_10 hfz29_2 hfz29_3 hfz29_4 hfz29_5 hfz29_6 hfz29_7 hfz29_8 hfz29_9
  try clear hfz31_0 hfz31_1 hfz31_10 hfz31_2 hfz31_3 hfz31_4 hfz31_5 hfz31_6 hfz31_7 hfz31_8 hfz31_9
  try clear hfz6_0 hfz6_1 hfz6_10 hfz6_2 hfz6_3 hfz6_4 hfz6_5 hfz6_6 hfz6_7 hfz6_8 hfz6_9
  try clear hfz9_0 hfz9_1 hfz9_10 hfz9_2 hfz9_3 hfz9_4 hfz9_5 hfz9_6 hfz9_7 hfz9_8 hfz9_9
  obtain ⟨kq, x33_1, rfl, HA, HJ1, BK101, HB⟩ := hcut
  cases kq with
  | zero => exact absurd HA.out (by simp [commit_Check.j0])
  | succ kj1 =>
   have H := HA.out
   clear HA
   simp only [commit_Check.j0] at H
   by_cases c33 : x33_1 = true
   ·subst c33
    have H1 : (some 1) = some r := by rw [if_pos rfl] at H; exact H
    clear H
    have H := H1
    clear H1
    obtain rfl := Option.some.inj H
    go_wp2
    go_ret
    exact ⟨z4_, hs_⟩
   ·replace c33 := Bool.eq_false_iff.mpr c33
    subst c33
    have H1 : (if (a0_10.size : Int) > 4096 then (commit_Check.j1 kj1 true a0_0 l0_1 a0_2 a0_3 a0_4 a0_5 a0_6 a0_7 a0_8 a0_9 a0_10) else (commit_Check.j1 kj1 (decide ((l0_1.length : Int) > 8)) a0_0 l0_1 a0_2 a0_3 a0_4 a0_5 a0_6 a0_7 a0_8 a0_9 a0_10)) = some r := by rw [if_neg (show ¬ (false = true) by decide)] at H; exact H
    clear H
    have H := H1
    clear H1
    have HC34 := Aside0.mk H
    clear H
    go_upto_region 4 with (fail)
    go_cut [43] (fun v43 wc => ∃ (kq : Nat) (x43_33 : Bool), v43 = .bool x43_33 ∧ Aside0 (commit_Check.j1 kq x43_33 a0_0 l0_1 a0_2 a0_3 a0_4 a0_5 a0_6 a0_7 a0_8 a0_9 a0_10 = some r) ∧ Aside0 (kq ≤ kj1) ∧ Aside0 (wc.heap[gb101]? = some (.cells #[.string a0_0, (.slice A0_1 l0_1.length c0_1), .string a0_2, .string a0_3, .int .i64 a0_4, .int .i64 a0_5, .string a0_6, .string a0_7, .int .i64 a0_8, .int .i64 a0_9, .string a0_10] 26 (0, 0))) ∧ Aside0 (Below w.heap.size w wc))
    case first =>
     have H := HC34.out
     clear HC34
     by_cases c35 : (a0_10.size : Int) > 4096
     ·rw [if_pos c35] at H
      have c35b0 := decide_eq_true c35
      have c35b1 : decide (4096 < a0_10.size) = true := decide_eq_true (by omega)
      clear c35
      (first | rw [c35b0] | (simp only [i64_w, i32_w]; rw [c35b0]) | skip)
      have H' := Aside0.mk H
      clear H
      obtain ⟨hcz36_0, hcz36_1, hcz36_2, hcz36_3, hcz36_4, hcz36_5, hcz36_6, hcz36_7, hcz36_8, hcz36_9, hcz36_10, hfz36_0, hfz36_1, hfz36_2, hfz36_3, hfz36_4, hfz36_5, hfz36_6, hfz36_7, hfz36_8, hfz36_9, hfz36_10⟩ := bc11 BK101.out
      go_wp2
      go_meet
      case rel => exact ⟨_, (true), z1_, H', ⟨by have := HJ1.out; first | omega | exact Nat.le_refl _⟩, ⟨bk_ BK101.out⟩, ⟨hs_⟩⟩
     ·rw [if_neg c35] at H
      have c35b0 := decide_eq_false c35
      have c35b1 : decide (4096 < a0_10.size) = false := decide_eq_false (by omega)
      clear c35
      (first | rw [c35b0] | (simp only [i64_w, i32_w]; rw [c35b0]) | skip)
      have H' := Aside0.mk H
      clear H
      obtain ⟨hcz37_0, hcz37_1, hcz37_2, hcz37_3, hcz37_4, hcz37_5, hcz37_6, hcz37_7, hcz37_8, hcz37_9, hcz37_10, hfz37_0, hfz37_1, hfz37_2, hfz37_3, hfz37_4, hfz37_5, hfz37_6, hfz37_7, hfz37_8, hfz37_9, hfz37_10⟩ := bc11 BK101.out
      go_wp2
      go_meet
      case rel => exact ⟨_, (decide ((l0_1.length : Int) > 8)), z1_, H', ⟨by have := HJ1.out; first | omega | exact Nat.le_refl _⟩, ⟨bk_ BK101.out⟩, ⟨hs_⟩⟩
    case rest =>
     clear HC34
     try clear c1
     try clear p2
     try clear c3
     try clear c5
     try clear c6
     try clear c8
     try clear c12
     try clear c14
     try clear c18
     try clear c33
     try clear c35
     try clear c35b0
     try clear c35b1
     try clear hcz16_0 hcz16_1 hcz16_10 hcz16_2 hcz16_3 hcz16_4 hcz16_5 hcz16_6 hcz16_7 hcz16_8 hcz16_9
     try clear hcz18_0 hcz18_1 hcz18_10 hcz18_2 hcz18_3 hcz18_4 hcz18_5 hcz18_6 hcz18_7 hcz18_8 hcz18_9
     try clear hcz20_0 hcz20_1 hcz20_10 hcz20_2 hcz20_3 hcz20_4 hcz20_5 hcz20_6 hcz20_7 hcz20_8 hcz20_9
     try clear hcz22_0 hcz22_1 hcz22_10 hcz22_2 hcz22_3 hcz22_4 hcz22_5 hcz22_6 hcz22_7 hcz22_8 hcz22_9
     try clear hcz23_0 hcz23_1 hcz23_10 hcz23_2 hcz23_3 hcz23_4 hcz23_5 hcz23_6 hcz23_7 hcz23_8 hcz23_9
     try clear hcz25_0 hcz25_1 hcz25_10 hcz25_2 hcz25_3 hcz25_4 hcz25_5 hcz25_6 hcz25_7 hcz25_8 hcz25_9
     try clear hcz27_0 hcz27_1 hcz27_10 hcz27_2 hcz27_3 hcz27_4 hcz27_5 hcz27_6 hcz27_7 hcz27_8 hcz27_9
     try clear hcz29_0 hcz29_1 hcz29_10 hcz29_2 hcz29_3 hcz29_4 hcz29_5 hcz29_6 hcz29_7 hcz29_8 hcz29_9
     try clear hcz31_0 hcz31_1 hcz31_10 hcz31_2 hcz31_3 hcz31_4 hcz31_5 hcz31_6 hcz31_7 hcz31_8 hcz31_9
     try clear hcz36_0 hcz36_1 hcz36_10 hcz36_2 hcz36_3 hcz36_4 hcz36_5 hcz36_6 hcz36_7 hcz36_8 hcz36_9
     try clear hcz37_0 hcz37_1 hcz37_10 hcz37_2 hcz37_3 hcz37_4 hcz37_5 hcz37_6 hcz37_7 hcz37_8 hcz37_9
     try clear hcz6_0 hcz6_1 hcz6_10 hcz6_2 hcz6_3 hcz6_4 hcz6_5 hcz6_6 hcz6_7 hcz6_8 hcz6_9
     try clear hcz9_0 hcz9_1 hcz9_10 hcz9_2 hcz9_3 hcz9_4 hcz9_5 hcz9_6 hcz9_7 hcz9_8 hcz9_9
     try clear hfz16_0 hfz16_1 hfz16_10 hfz16_2 hfz16_3 hfz16_4 hfz16_5 hfz16_6 hfz16_7 hfz16_8 hfz16_9
     try clear hfz18_0 hfz18_1 hfz18_10 hfz18_2 hfz18_3 hfz18_4 hfz18_5 hfz18_6 hfz18_7 hfz18_8 hfz18_9
     try clear hfz20_0 hfz20_1 hfz20_10 hfz20_2 hfz20_3 hfz20_4 hfz20_5 hfz20_6 hfz20_7 hfz20_8 hfz20_9
     try clear hfz22_0 hfz22_1 hfz22_10 hfz22_2 hfz22_3 hfz22_4 hfz22_5 hfz22_6 hfz22_7 hfz22_8 hfz22_9
     try clear hfz23_0 hfz23_1 hfz23_10 hfz23_2 hfz23_3 hfz23_4 hfz23_5 hfz23_6 hfz23_7 hfz23_8 hfz23_9
     try clear hfz25_0 hfz25_1 hfz25_10 hfz25_2 hfz25_3 hfz25_4 hfz25_5 hfz25_6 hfz25_7 hfz25_8 hfz25_9
     try clear hfz27_0 hfz27_1 hfz27_10 hfz27_2 hfz27_3 hfz27_4 hfz27_5 hfz27_6 hfz27_7 hfz27_8 hfz27_9
     try clear hfz29_0 hfz29_1 hfz29_10 hfz29_2 hfz29_3 hfz29_4 hfz29_5 hfz29_6 hfz29_7 hfz29_8 hfz29_9
     try clear hfz31_0 hfz31_1 hfz31_10 hfz31_2 hfz31_3 hfz31_4 hfz31_5 hfz31_6 hfz31_7 hfz31_8 hfz31_9
     try clear hfz36_0 hfz36_1 hfz36_10 hfz36_2 hfz36_3 hfz36_4 hfz36_5 hfz36_6 hfz36_7 hfz36_8 hfz36_9
     try clear hfz37_0 hfz37_1 hfz37_10 hfz37_2 hfz37_3 hfz37_4 hfz37_5 hfz37_6 hfz37_7 hfz37_8 hfz37_9
     try clear hfz6_0 hfz6_1 hfz6_10 hfz6_2 hfz6_3 hfz6_4 hfz6_5 hfz6_6 hfz6_7 hfz6_8 hfz6_9
     try clear hfz9_0 hfz9_1 hfz9_10 hfz9_2 hfz9_3 hfz9_4 hfz9_5 hfz9_6 hfz9_7 hfz9_8 hfz9_9
     try clear p2
     obtain ⟨kq, x43_33, rfl, HA, HJ33, BK101, HB⟩ := hcut
     cases kq with
     | zero => exact absurd HA.out (by simp [commit_Check.j1])
     | succ kj33 =>
      have H := HA.out
      clear HA
      simp only [commit_Check.j1] at H
      by_cases c38 : x43_33 = true
      ·subst c38
       have H1 : (some 4) = some r := by rw [if_pos rfl] at H; exact H
       clear H
       have H := H1
       clear H1
       obtain rfl := Option.some.inj H
       go_wp2
       go_ret
       exact ⟨z4_, hs_⟩
      ·replace c38 := Bool.eq_false_iff.mpr c38
       subst c38
       have H1 : (commit_Check.l0 kj33 l0_1 (l0_1.length : Int) 0 MSB.nil) = some r := by rw [if_neg (show ¬ (false = true) by decide)] at H; exact H
       clear H
       have H := H1
       clear H1
       have H' := Aside0.mk H
       clear H
       go_wp2_with (first | ((with_reducible refine gate_dst (N := 44) rfl ?_); (try (refine gate_guard (by rfl) ?_; dsimp only)); refine mkmapB_event rfl (N := 44) rfl rfl ?_; intro gb107 hg w39 hbox hb; have HI107 := Aside0.mk (IsS84.made hbox (by rw [hg]; exact (below_size (hs_)) : w.heap.size ≤ gb107)); replace HB := Aside0.mk (below_step (hs_) hb); have NB101_107 := Aside0.mk (nl2_ hg BK101.out); have NB107_101 := Aside0.mk (ng2_ hg BK101.out); replace BK101 := Aside0.mk (bb_ BK101.out hb); clear hb hbox hg; have hnb40 := NB101_107.out; have hnc40 := NB107_101.out; obtain ⟨hcz41_0, hcz41_1, hcz41_2, hcz41_3, hcz41_4, hcz41_5, hcz41_6, hcz41_7, hcz41_8, hcz41_9, hcz41_10, hfz41_0, hfz41_1, hfz41_2, hfz41_3, hfz41_4, hfz41_5, hfz41_6, hfz41_7, hfz41_8, hfz41_9, hfz41_10⟩ := bc11 BK101.out))
       go_loopg [48] kj33 (fun kq v48 w' => ∃ (x48_3 : Int) (x108000_3 : MSB), v48 = .int .i64 x48_3 ∧ Aside0 (commit_Check.l0 kq l0_1 (l0_1.length : Int) x48_3 x108000_3 = some r) ∧ Aside0 (kq ≤ kj33) ∧ Aside0 (w'.heap[gb101]? = some (.cells #[.string a0_0, (.slice A0_1 l0_1.length c0_1), .string a0_2, .string a0_3, .int .i64 a0_4, .int .i64 a0_5, .string a0_6, .string a0_7, .int .i64 a0_8, .int .i64 a0_9, .string a0_10] 26 (0, 0))) ∧ Aside0 (IsS84 w w' gb107 x108000_3) ∧ Aside0 (Below w.heap.size w w'))
       case atStart => exact ⟨(0), (MSB.nil), z1_, H', ⟨Nat.le_refl _⟩, ⟨bk_ BK101.out⟩, ⟨z29_⟩, ⟨z27_⟩⟩
       case round =>
        clear H'
        try clear c1
        try clear p2
        try clear c3
        try clear c4
        try clear c5
        try clear c6
        try clear c8
        try clear c12
        try clear c14
        try clear c18
        try clear c33
        try clear c35
        try clear c35b0
        try clear c35b1
        try clear c38
        try clear c40
        try clear hcz16_0 hcz16_1 hcz16_10 hcz16_2 hcz16_3 hcz16_4 hcz16_5 hcz16_6 hcz16_7 hcz16_8 hcz16_9
        try clear hcz18_0 hcz18_1 hcz18_10 hcz18_2 hcz18_3 hcz18_4 hcz18_5 hcz18_6 hcz18_7 hcz18_8 hcz18_9
        try clear hcz20_0 hcz20_1 hcz20_10 hcz20_2 hcz20_3 hcz20_4 hcz20_5 hcz20_6 hcz20_7 hcz20_8 hcz20_9
        try clear hcz22_0 hcz22_1 hcz22_10 hcz22_2 hcz22_3 hcz22_4 hcz22_5 hcz22_6 hcz22_7 hcz22_8 hcz22_9
        try clear hcz23_0 hcz23_1 hcz23_10 hcz23_2 hcz23_3 hcz23_4 hcz23_5 hcz23_6 hcz23_7 hcz23_8 hcz23_9
        try clear hcz25_0 hcz25_1 hcz25_10 hcz25_2 hcz25_3 hcz25_4 hcz25_5 hcz25_6 hcz25_7 hcz25_8 hcz25_9
        try clear hcz27_0 hcz27_1 hcz27_10 hcz27_2 hcz27_3 hcz27_4 hcz27_5 hcz27_6 hcz27_7 hcz27_8 hcz27_9
        try clear hcz29_0 hcz29_1 hcz29_10 hcz29_2 hcz29_3 hcz29_4 hcz29_5 hcz29_6 hcz29_7 hcz29_8 hcz29_9
        try clear hcz31_0 hcz31_1 hcz31_10 hcz31_2 hcz31_3 hcz31_4 hcz31_5 hcz31_6 hcz31_7 hcz31_8 hcz31_9
        try clear hcz36_0 hcz36_1 hcz36_10 hcz36_2 hcz36_3 hcz36_4 hcz36_5 hcz36_6 hcz36_7 hcz36_8 hcz36_9
        try clear hcz37_0 hcz37_1 hcz37_10 hcz37_2 hcz37_3 hcz37_4 hcz37_5 hcz37_6 hcz37_7 hcz37_8 hcz37_9
        try clear hcz41_0 hcz41_1 hcz41_10 hcz41_2 hcz41_3 hcz41_4 hcz41_5 hcz41_6 hcz41_7 hcz41_8 hcz41_9
        try clear hcz6_0 hcz6_1 hcz6_10 hcz6_2 hcz6_3 hcz6_4 hcz6_5 hcz6_6 hcz6_7 hcz6_8 hcz6_9
        try clear hcz9_0 hcz9_1 hcz9_10 hcz9_2 hcz9_3 hcz9_4 hcz9_5 hcz9_6 hcz9_7 hcz9_8 hcz9_9
        try clear hfz16_0 hfz16_1 hfz16_10 hfz16_2 hfz16_3 hfz16_4 hfz16_5 hfz16_6 hfz16_7 hfz16_8 hfz16_9
        try clear hfz18_0 hfz18_1 hfz18_10 hfz18_2 hfz18_3 hfz18_4 hfz18_5 hfz18_6 hfz18_7 hfz18_8 hfz18_9
        try clear hfz20_0 hfz20_1 hfz20_10 hfz20_2 hfz20_3 hfz20_4 hfz20_5 hfz20_6 hfz20_7 hfz20_8 hfz20_9
        try clear hfz22_0 hfz22_1 hfz22_10 hfz22_2 hfz22_3 hfz22_4 hfz22_5 hfz22_6 hfz22_7 hfz22_8 hfz22_9
        try clear hfz23_0 hfz23_1 hfz23_10 hfz23_2 hfz23_3 hfz23_4 hfz23_5 hfz23_6 hfz23_7 hfz23_8 hfz23_9
        try clear hfz25_0 hfz25_1 hfz25_10 hfz25_2 hfz25_3 hfz25_4 hfz25_5 hfz25_6 hfz25_7 hfz25_8 hfz25_9
        try clear hfz27_0 hfz27_1 hfz27_10 hfz27_2 hfz27_3 hfz27_4 hfz27_5 hfz27_6 hfz27_7 hfz27_8 hfz27_9
        try clear hfz29_0 hfz29_1 hfz29_10 hfz29_2 hfz29_3 hfz29_4 hfz29_5 hfz29_6 hfz29_7 hfz29_8 hfz29_9
        try clear hfz31_0 hfz31_1 hfz31_10 hfz31_2 hfz31_3 hfz31_4 hfz31_5 hfz31_6 hfz31_7 hfz31_8 hfz31_9
        try clear hfz36_0 hfz36_1 hfz36_10 hfz36_2 hfz36_3 hfz36_4 hfz36_5 hfz36_6 hfz36_7 hfz36_8 hfz36_9
        try clear hfz37_0 hfz37_1 hfz37_10 hfz37_2 hfz37_3 hfz37_4 hfz37_5 hfz37_6 hfz37_7 hfz37_8 hfz37_9
        try clear hfz41_0 hfz41_1 hfz41_10 hfz41_2 hfz41_3 hfz41_4 hfz41_5 hfz41_6 hfz41_7 hfz41_8 hfz41_9
        try clear hfz6_0 hfz6_1 hfz6_10 hfz6_2 hfz6_3 hfz6_4 hfz6_5 hfz6_6 hfz6_7 hfz6_8 hfz6_9
        try clear hfz9_0 hfz9_1 hfz9_10 hfz9_2 hfz9_3 hfz9_4 hfz9_5 hfz9_6 hfz9_7 hfz9_8 hfz9_9
        try clear p2
        obtain ⟨x48_3, x108000_3, rfl, HA, HK3, BK101, HI107, HB⟩ := hrel
        cases gk with
        | zero => exact absurd HA.out (by simp [commit_Check.l0])
        | succ k3 =>
         have H := HA.out
         clear HA
         simp only [commit_Check.l0] at H
         by_cases c42 : x48_3 < (l0_1.length : Int)
         ·rw [if_pos c42] at H
          have c42b0 := decide_eq_true c42
          clear c42
          by_cases c43 : 0 ≤ x48_3
          ·rw [if_pos c43] at H
           have c43b0 := decide_eq_true c43
           clear c43
           by_cases c44 : x48_3 < (l0_1.length : Int)
           ·rw [if_pos c44] at H
            have c44b0 := decide_eq_true c44
            clear c44
            by_cases c45 : (rdOf ByteArray.empty l0_1 x48_3).size ≤ 9223372036854775807
            ·rw [if_pos c45] at H
             have c45b0 := eq_true c45
             have c45b1 := decide_eq_true c45
             try have c45b2 := nl_ c45
             clear c45
             by_cases c46 : MSB.get x108000_3 (rdOf ByteArray.empty l0_1 x48_3) = true
             ·rw [if_pos c46] at H
              have c46b0 : MSB.get x108000_3 (rdOf ByteArray.empty l0_1 x48_3) = true := c46
              clear c46
              obtain rfl := Option.some.inj H
              have p108 : 0 ≤ (x48_3 : Int) := of_decide_eq_true z0_
              have q108 : x48_3 < (l0_1.length : Int) := of_decide_eq_true z0_
              obtain ⟨ad108, e108, hx108_0⟩ := Kd.at_string HR0_1.out x48_3 p108 q108
              cases e108
              replace hx108_0 := (HB.out.cell (World.block_lt_of_cell? w _ hx108_0)).trans hx108_0
              replace p108 := eq_true p108
              replace q108 := eq_true q108
              go_wp2_with (first | ((with_reducible refine gate_dst (N := 54) rfl ?_); (try (refine gate_guard (by rfl) ?_; dsimp only)); refine IsS84.look (show IsS84 w _ gb107 x108000_3 from z29_) rfl rfl rfl rfl (of_decide_eq_true z0_ : (rdOf ByteArray.empty l0_1 x48_3).size ≤ 9223372036854775807) (by first | (with_reducible assumption) | exact rfl) ?_))
              go_ret
              exact ⟨z4_, z27_⟩
             ·rw [if_neg c46] at H
              have c46b0 : MSB.get x108000_3 (rdOf ByteArray.empty l0_1 x48_3) = false := by simpa using c46
              clear c46
              have c47b0 := eq_true (of_decide_eq_true z0_ : (rdOf ByteArray.empty l0_1 x48_3).size ≤ 9223372036854775807)
              by_cases c48 : x108000_3.n < 4611686018427387904
              ·rw [if_pos c48] at H
               have c48b0 := eq_true c48
               have c48b1 := decide_eq_true c48
               clear c48
               have H' := Aside0.mk H
               clear H
               have p108 : 0 ≤ (x48_3 : Int) := of_decide_eq_true z0_
               have q108 : x48_3 < (l0_1.length : Int) := of_decide_eq_true z0_
               obtain ⟨ad108, e108, hx108_0⟩ := Kd.at_string HR0_1.out x48_3 p108 q108
               cases e108
               replace hx108_0 := (HB.out.cell (World.block_lt_of_cell? w _ hx108_0)).trans hx108_0
               replace p108 := eq_true p108
               replace q108 := eq_true q108
               go_wp2_with (first | ((with_reducible refine gate_dst (N := 54) rfl ?_); (try (refine gate_guard (by rfl) ?_; dsimp only)); refine IsS84.look (show IsS84 w _ gb107 x108000_3 from z29_) rfl rfl rfl rfl (of_decide_eq_true z0_ : (rdOf ByteArray.empty l0_1 x48_3).size ≤ 9223372036854775807) (by first | (with_reducible assumption) | exact rfl) ?_) | (at_mapUpdate; refine IsS84.put_ (k := (rdOf ByteArray.empty l0_1 x48_3)) (n := true) (show IsS84 w _ gb107 x108000_3 from z29_) rfl rfl rfl rfl rfl (of_decide_eq_true z0_ : (rdOf ByteArray.empty l0_1 x48_3).size ≤ 9223372036854775807) (of_decide_eq_true z0_ : x108000_3.n < 4611686018427387904) trivial ?_; intro w49 hi hg; replace BK101 := Aside0.mk (blk_grown (g := gb101) (o := .cells #[.string a0_0, .slice (some ad108) l0_1.length c0_1, .string a0_2, .string a0_3, .int .i64 a0_4, .int .i64 a0_5, .string a0_6, .string a0_7, .int .i64 a0_8, .int .i64 a0_9, .string a0_10] 26 (0, 0)) (bk_ BK101.out) hg (fun e_ => NB101_107.out (Option.some.inj e_))); replace HB := Aside0.mk (Below.grown z27_ hg ((below_size z27_)) (fun k_ e_ => (Option.some.inj e_) ▸ (IsS84.ge hi))); replace HI107 := Aside0.mk (hi); clear hi hg))
               go_roundg k3
               case measure => have := HJ1.out; have := HJ33.out; have := HK3.out; omega
               case rel => exact ⟨(wrap64 (x48_3 + 1)), (MSB.put x108000_3 (rdOf ByteArray.empty l0_1 x48_3) true), z1_, H', ⟨by have := HJ1.out; have := HJ33.out; have := HK3.out; omega⟩, ⟨bk_ BK101.out⟩, ⟨z29_⟩, ⟨z27_⟩⟩
              ·rw [if_neg c48] at H
               exact absurd H (by simp)
            ·rw [if_neg c45] at H
             exact absurd H (by simp)
           ·rw [if_neg c44] at H
            exact absurd H (by simp)
          ·rw [if_neg c43] at H
           exact absurd H (by simp)
         ·rw [if_neg c42] at H
          have c42b0 := decide_eq_false c42
          clear c42
          obtain rfl := Option.some.inj H
          go_wp2
          go_ret
          exact ⟨z4_, z27_⟩


def commit_Body.l0 : Nat → ByteArray → List ByteArray → Int → Int → ByteArray → List ByteArray → ByteArray → ByteArray → Int → Int → ByteArray → ByteArray → Int → Int → ByteArray → Option (ByteArray × Int)
 | 0, _, _, _, _, _, _, _, _, _, _, _, _, _, _, _ => none
 | k + 1, x5, x18, x19, x20, x102000, x102001, x102002, x102003, x102004, x102005, x102006, x102007, x102008, x102009, x102010 => if x20 < x19 then (if 0 ≤ x20 then (if x20 < (x18.length : Int) then (if 7 + (rdOf ByteArray.empty x18 x20).size ≤ 9223372036854775807 then (if ((⟨#[112, 97, 114, 101, 110, 116, 32]⟩ : ByteArray) ++ (rdOf ByteArray.empty x18 x20)).size + 1 ≤ 9223372036854775807 then (if x5.size + (((⟨#[112, 97, 114, 101, 110, 116, 32]⟩ : ByteArray) ++ (rdOf ByteArray.empty x18 x20)) ++ (⟨#[10]⟩ : ByteArray)).size ≤ 9223372036854775807 then (commit_Body.l0 k (x5 ++ (((⟨#[112, 97, 114, 101, 110, 116, 32]⟩ : ByteArray) ++ (rdOf ByteArray.empty x18 x20)) ++ (⟨#[10]⟩ : ByteArray))) x18 x19 (wrap64 (x20 + 1)) x102000 x102001 x102002 x102003 x102004 x102005 x102006 x102007 x102008 x102009 x102010) else (none)) else (none)) else (none)) else (none)) else (none)) else (if x5.size + 7 ≤ 9223372036854775807 then ((commit_Who.f x102002 x102003 x102004 x102005).bind fun t104 => (if (x5 ++ (⟨#[97, 117, 116, 104, 111, 114, 32]⟩ : ByteArray)).size + t104.size ≤ 9223372036854775807 then (if ((x5 ++ (⟨#[97, 117, 116, 104, 111, 114, 32]⟩ : ByteArray)) ++ t104).size + 11 ≤ 9223372036854775807 then ((commit_Who.f x102006 x102007 x102008 x102009).bind fun t105 => (if (((x5 ++ (⟨#[97, 117, 116, 104, 111, 114, 32]⟩ : ByteArray)) ++ t104) ++ (⟨#[10, 99, 111, 109, 109, 105, 116, 116, 101, 114, 32]⟩ : ByteArray)).size + t105.size ≤ 9223372036854775807 then (if ((((x5 ++ (⟨#[97, 117, 116, 104, 111, 114, 32]⟩ : ByteArray)) ++ t104) ++ (⟨#[10, 99, 111, 109, 109, 105, 116, 116, 101, 114, 32]⟩ : ByteArray)) ++ t105).size + 2 ≤ 9223372036854775807 then (if (((((x5 ++ (⟨#[97, 117, 116, 104, 111, 114, 32]⟩ : ByteArray)) ++ t104) ++ (⟨#[10, 99, 111, 109, 109, 105, 116, 116, 101, 114, 32]⟩ : ByteArray)) ++ t105) ++ (⟨#[10, 10]⟩ : ByteArray)).size + x102010.size ≤ 9223372036854775807 then (some ((((((x5 ++ (⟨#[97, 117, 116, 104, 111, 114, 32]⟩ : ByteArray)) ++ t104) ++ (⟨#[10, 99, 111, 109, 109, 105, 116, 116, 101, 114, 32]⟩ : ByteArray)) ++ t105) ++ (⟨#[10, 10]⟩ : ByteArray)) ++ x102010, 0)) else (none)) else (none)) else (none))) else (none)) else (none))) else (none))
def commit_Body.f (k : Nat) (a0_0 : ByteArray) (l0_1 : List ByteArray) (a0_2 : ByteArray) (a0_3 : ByteArray) (a0_4 : Int) (a0_5 : Int) (a0_6 : ByteArray) (a0_7 : ByteArray) (a0_8 : Int) (a0_9 : Int) (a0_10 : ByteArray) : Option (ByteArray × Int) := (commit_Check.f k a0_0 l0_1 a0_2 a0_3 a0_4 a0_5 a0_6 a0_7 a0_8 a0_9 a0_10).bind fun t102 => (if t102 = 0 then (if 5 + a0_0.size ≤ 9223372036854775807 then (if ((⟨#[116, 114, 101, 101, 32]⟩ : ByteArray) ++ a0_0).size + 1 ≤ 9223372036854775807 then (commit_Body.l0 k (((⟨#[116, 114, 101, 101, 32]⟩ : ByteArray) ++ a0_0) ++ (⟨#[10]⟩ : ByteArray)) l0_1 (l0_1.length : Int) 0 a0_0 l0_1 a0_2 a0_3 a0_4 a0_5 a0_6 a0_7 a0_8 a0_9 a0_10) else (none)) else (none)) else (some ((⟨#[]⟩ : ByteArray), t102)))
theorem commit_Body.mono_l : ∀ k, (∀ y0 y1 y2 y3 y4 y5 y6 y7 y8 y9 y10 y11 y12 y13 y14, LeO (commit_Body.l0 k y0 y1 y2 y3 y4 y5 y6 y7 y8 y9 y10 y11 y12 y13 y14) (commit_Body.l0 (k + 1) y0 y1 y2 y3 y4 y5 y6 y7 y8 y9 y10 y11 y12 y13 y14))
 | 0 => fun _ _ _ _ _ _ _ _ _ _ _ _ _ _ _ r h => by simp [commit_Body.l0] at h
 | k + 1 => by
  have ih0 := commit_Body.mono_l k
  ·intro y0 y1 y2 y3 y4 y5 y6 y7 y8 y9 y10 y11 y12 y13 y14
   unfold commit_Body.l0
   have m0_ := @ih0
   have m1_ := @commit_Check.mono
   exact mz_
theorem commit_Body.mono : ∀ a0 a1 a2 a3 a4 a5 a6 a7 a8 a9 a10 k, LeO (commit_Body.f k a0 a1 a2 a3 a4 a5 a6 a7 a8 a9 a10) (commit_Body.f (k + 1) a0 a1 a2 a3 a4 a5 a6 a7 a8 a9 a10) := by
 intro a0 a1 a2 a3 a4 a5 a6 a7 a8 a9 a10 k
 have ih0 := commit_Body.mono_l k
 unfold commit_Body.f
 have m0_ := @ih0
 have m1_ := @commit_Check.mono
 exact mz_
def commit_Body.T10 : Bool × List (List Nat × List Nat) := (true, [([], []), ([0], [0]), ([], []), ([2], [2]), ([3], [3]), ([1, 4], [1, 4]), ([5], [5]), ([], []), ([7], [7]), ([8, 4], [8]), ([6, 9], [6, 9]), ([10], [10]), ([], []), ([12], [12]), ([11, 13], [11, 13]), ([14, 9, 0, 1, 2, 3, 4, 5, 6, 7, 8, 9, 10, 11, 12, 13, 14], [14]), ([15, 0, 1, 2, 3, 4, 5, 6, 7, 8, 9, 10, 11, 12, 13, 14, 15], [])])
def commit_Body.B10 : List Nat := [0, 1, 0, 4, 12, 31, 63, 0, 128, 412, 1023, 2047, 0, 4096, 16383, 32767, 65535]
theorem commit_Body.tab10 : rtab .any (opsOf Tryz.f16 10) = commit_Body.T10 := by kernel_rfl
theorem commit_Body.bits10 : waitsOk commit_Body.T10.2 commit_Body.B10 = true := by kernel_rfl
set_option maxHeartbeats 8000000 in
set_option maxRecDepth 100000 in
theorem commit_Body.calls (k : Nat) (a0_0 : ByteArray) (A0_1 : Option Addr) (c0_1 : Nat) (l0_1 : List ByteArray) (a0_2 : ByteArray) (a0_3 : ByteArray) (a0_4 : Int) (a0_5 : Int) (a0_6 : ByteArray) (a0_7 : ByteArray) (a0_8 : Int) (a0_9 : Int) (a0_10 : ByteArray) (r1 : ByteArray) (r2 : Int) (w : World) (hr0_1 : Kd.C Kd.string w A0_1 l0_1.length l0_1) (hc0_1 : l0_1.length ≤ c0_1) (hgv : GV w) (h : commit_Body.f k a0_0 l0_1 a0_2 a0_3 a0_4 a0_5 a0_6 a0_7 a0_8 a0_9 a0_10 = some (r1, r2)) :
  Calls Tryz.prog 16 #[.agg #[.string a0_0, .slice A0_1 l0_1.length c0_1, .string a0_2, .string a0_3, .int .i64 a0_4, .int .i64 a0_5, .string a0_6, .string a0_7, .int .i64 a0_8, .int .i64 a0_9, .string a0_10]] w fun e w' => e = .returned (.tuple #[.string r1, .int .i64 r2]) ∧ Below w.heap.size w w' := by
 have hu26 := Tryz.underlying26
 have hu24 := Tryz.underlying24
 have HR0_1 := Aside0.mk hr0_1
 have HC0_1 := Aside0.mk hc0_1
 clear hr0_1 hc0_1
 have HB := Aside0.mk (Below.refl w.heap.size w)
 have H : ((commit_Check.f k a0_0 l0_1 a0_2 a0_3 a0_4 a0_5 a0_6 a0_7 a0_8 a0_9 a0_10).bind fun t102 => (if t102 = 0 then (if 5 + a0_0.size ≤ 9223372036854775807 then (if ((⟨#[116, 114, 101, 101, 32]⟩ : ByteArray) ++ a0_0).size + 1 ≤ 9223372036854775807 then (commit_Body.l0 k (((⟨#[116, 114, 101, 101, 32]⟩ : ByteArray) ++ a0_0) ++ (⟨#[10]⟩ : ByteArray)) l0_1 (l0_1.length : Int) 0 a0_0 l0_1 a0_2 a0_3 a0_4 a0_5 a0_6 a0_7 a0_8 a0_9 a0_10) else (none)) else (none)) else (some ((⟨#[]⟩ : ByteArray), t102)))) = some (r1, r2) := h
 clear h
 replace H := Option.bind_eq_some_iff.mp H
 obtain ⟨t102, A20, H⟩ := H
 have A2 := Aside0.mk A20
 clear A20
 by_cases c3 : t102 = 0
 ·rw [if_pos c3] at H
  have c3b0 := beq_iff_eq.mpr c3
  have c3b1 := bne_eq_false_iff_eq.mpr c3
  clear c3
  by_cases c4 : 5 + a0_0.size ≤ 9223372036854775807
  ·rw [if_pos c4] at H
   have c4b0 := eq_true c4
   have c4b1 := decide_eq_true c4
   try have c4b2 := nl_ c4
   by_cases c5 : ((⟨#[116, 114, 101, 101, 32]⟩ : ByteArray) ++ a0_0).size + 1 ≤ 9223372036854775807
   ·rw [if_pos c5] at H
    have c5b0 := eq_true c5
    have c5b1 := decide_eq_true c5
    try have c5b3 : (9223372036854775807 < 5 + a0_0.size + 1) = False := have h_ := c5; ns_
    try have c5b2 := nl_ c5
    have H' := Aside0.mk H
    clear H
    go_enter Tryz.func16, Tryz.ntmps16
    go_wp2_with (first | ((with_reducible refine gate_dst (N := 1) rfl ?_); refine be_ (cs := #[.string a0_0, .slice A0_1 l0_1.length c0_1, .string a0_2, .string a0_3, .int .i64 a0_4, .int .i64 a0_5, .string a0_6, .string a0_7, .int .i64 a0_8, .int .i64 a0_9, .string a0_10]) (t := 26) ?_; intro gb101 hg w6 hbox hb; have BK101 := Aside0.mk (hbox); have GW101 := Aside0.mk (gw_ hg HB.out); have GE101 := Aside0.mk (gw_ hg HB.out); replace HB := Aside0.mk (below_step (hb_ HB.out) hb); clear hb hbox hg; obtain ⟨hcz7_0, hcz7_1, hcz7_2, hcz7_3, hcz7_4, hcz7_5, hcz7_6, hcz7_7, hcz7_8, hcz7_9, hcz7_10, hfz7_0, hfz7_1, hfz7_2, hfz7_3, hfz7_4, hfz7_5, hfz7_6, hfz7_7, hfz7_8, hfz7_9, hfz7_10⟩ := bc11 BK101.out) | ((with_reducible refine gate_callee (f := 18) rfl ?_); refine goesL_ (some 9) rfl rfl Tryz.func18 (by kernel_rfl) rfl #[.agg #[.string a0_0, .slice A0_1 l0_1.length c0_1, .string a0_2, .string a0_3, .int .i64 a0_4, .int .i64 a0_5, .string a0_6, .string a0_7, .int .i64 a0_8, .int .i64 a0_9, .string a0_10]] rfl z2_ ?_; (with_reducible refine (commit_Check.calls k a0_0 _ _ l0_1 a0_2 a0_3 a0_4 a0_5 a0_6 a0_7 a0_8 a0_9 a0_10 t102 _ ?side1 ?side2 ?side3 A2.out).mono ?_); (case side1 => repeat (first | exact (Kd.C_below HR0_1.out HB.out) | (with_reducible refine Kd.C_alloc ?_ _) | (with_reducible refine Kd.C_drewN ?_ _) | (with_reducible refine Kd.C_drew ?_))); (case side2 => exact HC0_1.out); (case side3 => exact GV.below hgv (hs_)); rintro e w8 ⟨rfl, hb⟩; refine ⟨_, rfl, ?_⟩; replace BK101 := Aside0.mk (bb_ BK101.out hb); replace HB := Aside0.mk (below_step (hs_) hb); (try clear hb); (try clear hb2); (try clear hk); (try clear hi); obtain ⟨hcz9_0, hcz9_1, hcz9_2, hcz9_3, hcz9_4, hcz9_5, hcz9_6, hcz9_7, hcz9_8, hcz9_9, hcz9_10, hfz9_0, hfz9_1, hfz9_2, hfz9_3, hfz9_4, hfz9_5, hfz9_6, hfz9_7, hfz9_8, hfz9_9, hfz9_10⟩ := bc11 BK101.out))
    go_loopg [5, 20] k (fun kq v5 v20 w' => ∃ (x5_1 : ByteArray) (x20_1 : Int), v5 = .string x5_1 ∧ v20 = .int .i64 x20_1 ∧ Aside0 (commit_Body.l0 kq x5_1 l0_1 (l0_1.length : Int) x20_1 a0_0 l0_1 a0_2 a0_3 a0_4 a0_5 a0_6 a0_7 a0_8 a0_9 a0_10 = some (r1, r2)) ∧ Aside0 (kq ≤ k) ∧ Aside0 (w'.heap[gb101]? = some (.cells #[.string a0_0, (.slice A0_1 l0_1.length c0_1), .string a0_2, .string a0_3, .int .i64 a0_4, .int .i64 a0_5, .string a0_6, .string a0_7, .int .i64 a0_8, .int .i64 a0_9, .string a0_10] 26 (0, 0))) ∧ Aside0 (Below w.heap.size w w'))
    case atStart => exact ⟨(((⟨#[116, 114, 101, 101, 32]⟩ : ByteArray) ++ a0_0) ++ (⟨#[10]⟩ : ByteArray)), (0), z1_, z1_, H', ⟨Nat.le_refl _⟩, ⟨bk_ BK101.out⟩, ⟨hs_⟩⟩
    case round =>
     clear H'
     try clear c1
     try clear p2
     try clear c3
     try clear c3b0
     try clear c3b1
     try clear c4
     try clear c4b0
     try clear c4b1
     try clear c4b2
     try clear c5
     try clear c5b0
     try clear c5b1
     try clear c5b2
     try clear hcz7_0 hcz7_1 hcz7_10 hcz7_2 hcz7_3 hcz7_4 hcz7_5 hcz7_6 hcz7_7 hcz7_8 hcz7_9
     try clear hcz9_0 hcz9_1 hcz9_10 hcz9_2 hcz9_3 hcz9_4 hcz9_5 hcz9_6 hcz9_7 hcz9_8 hcz9_9
     try clear hfz7_0 hfz7_1 hfz7_10 hfz7_2 hfz7_3 hfz7_4 hfz7_5 hfz7_6 hfz7_7 hfz7_8 hfz7_9
     try clear hfz9_0 hfz9_1 hfz9_10 hfz9_2 hfz9_3 hfz9_4 hfz9_5 hfz9_6 hfz9_7 hfz9_8 hfz9_9
     obtain ⟨x5_1, x20_1, rfl, rfl, HA, HK1, BK101, HB⟩ := hrel
     cases gk with
     | zero => exact absurd HA.out (by simp [commit_Body.l0])
     | succ k1 =>
      have H := HA.out
      clear HA
      simp only [commit_Body.l0] at H
      by_cases c10 : x20_1 < (l0_1.length : Int)
      ·rw [if_pos c10] at H
       have c10b0 := decide_eq_true c10
       clear c10
       by_cases c11 : 0 ≤ x20_1
       ·rw [if_pos c11] at H
        have c11b0 := decide_eq_true c11
        clear c11
        by_cases c12 : x20_1 < (l0_1.length : Int)
        ·rw [if_pos c12] at H
         have c12b0 := decide_eq_true c12
         clear c12
         by_cases c13 : 7 + (rdOf ByteArray.empty l0_1 x20_1).size ≤ 9223372036854775807
         ·rw [if_pos c13] at H
          have c13b0 := eq_true c13
          have c13b1 := decide_eq_true c13
          try have c13b2 := nl_ c13
          by_cases c14 : ((⟨#[112, 97, 114, 101, 110, 116, 32]⟩ : ByteArray) ++ (rdOf ByteArray.empty l0_1 x20_1)).size + 1 ≤ 9223372036854775807
          ·rw [if_pos c14] at H
           have c14b0 := eq_true c14
           have c14b1 := decide_eq_true c14
           try have c14b3 : (9223372036854775807 < 7 + (rdOf ByteArray.empty l0_1 x20_1).size + 1) = False := have h_ := c14; ns_
           try have c14b2 := nl_ c14
           by_cases c15 : x5_1.size + (((⟨#[112, 97, 114, 101, 110, 116, 32]⟩ : ByteArray) ++ (rdOf ByteArray.empty l0_1 x20_1)) ++ (⟨#[10]⟩ : ByteArray)).size ≤ 9223372036854775807
           ·rw [if_pos c15] at H
            have c15b0 := eq_true c15
            have c15b1 := decide_eq_true c15
            try have c15b3 : (9223372036854775807 < x5_1.size + (7 + (rdOf ByteArray.empty l0_1 x20_1).size + 1)) = False := have h_ := c15; ns_
            try have c15b2 := nl_ c15
            have H' := Aside0.mk H
            clear H
            have p103 : 0 ≤ (x20_1 : Int) := of_decide_eq_true z0_
            have q103 : x20_1 < (l0_1.length : Int) := of_decide_eq_true z0_
            obtain ⟨ad103, e103, hx103_0⟩ := Kd.at_string HR0_1.out x20_1 p103 q103
            cases e103
            replace hx103_0 := (HB.out.cell (World.block_lt_of_cell? w _ hx103_0)).trans hx103_0
            replace p103 := eq_true p103
            replace q103 := eq_true q103
            go_wp2
            go_roundg k1
            case measure => have := HK1.out; omega
            case rel => exact ⟨(x5_1 ++ (((⟨#[112, 97, 114, 101, 110, 116, 32]⟩ : ByteArray) ++ (rdOf ByteArray.empty l0_1 x20_1)) ++ (⟨#[10]⟩ : ByteArray))), (wrap64 (x20_1 + 1)), z1_, z1_, H', ⟨by have := HK1.out; omega⟩, ⟨bk_ BK101.out⟩, ⟨hs_⟩⟩
           ·rw [if_neg c15] at H
            exact absurd H (by simp)
          ·rw [if_neg c14] at H
           exact absurd H (by simp)
         ·rw [if_neg c13] at H
          exact absurd H (by simp)
        ·rw [if_neg c12] at H
         exact absurd H (by simp)
       ·rw [if_neg c11] at H
        exact absurd H (by simp)
      ·rw [if_neg c10] at H
       have c10b0 := decide_eq_false c10
       clear c10
       by_cases c16 : x5_1.size + 7 ≤ 9223372036854775807
       ·rw [if_pos c16] at H
        have c16b0 := eq_true c16
        have c16b1 := decide_eq_true c16
        try have c16b2 := nl_ c16
        replace H := Option.bind_eq_some_iff.mp H
        obtain ⟨t104, A170, H⟩ := H
        have A17 := Aside0.mk A170
        clear A170
        by_cases c18 : (x5_1 ++ (⟨#[97, 117, 116, 104, 111, 114, 32]⟩ : ByteArray)).size + t104.size ≤ 9223372036854775807
        ·rw [if_pos c18] at H
         have c18b0 := eq_true c18
         have c18b1 := decide_eq_true c18
         try have c18b3 : (9223372036854775807 < x5_1.size + 7 + t104.size) = False := have h_ := c18; ns_
         try have c18b2 := nl_ c18
         by_cases c19 : ((x5_1 ++ (⟨#[97, 117, 116, 104, 111, 114, 32]⟩ : ByteArray)) ++ t104).size + 11 ≤ 9223372036854775807
         ·rw [if_pos c19] at H
          have c19b0 := eq_true c19
          have c19b1 := decide_eq_true c19
          try have c19b3 : (9223372036854775807 < x5_1.size + 7 + t104.size + 11) = False := have h_ := c19; ns_
          try have c19b2 := nl_ c19
          replace H := Option.bind_eq_some_iff.mp H
          obtain ⟨t105, A200, H⟩ := H
          have A20 := Aside0.mk A200
          clear A200
          by_cases c21 : (((x5_1 ++ (⟨#[97, 117, 116, 104, 111, 114, 32]⟩ : ByteArray)) ++ t104) ++ (⟨#[10, 99, 111, 109, 109, 105, 116, 116, 101, 114, 32]⟩ : ByteArray)).size + t105.size ≤ 9223372036854775807
          ·rw [if_pos c21] at H
           have c21b0 := eq_true c21
           have c21b1 := decide_eq_true c21
           try have c21b3 : (9223372036854775807 < x5_1.size + 7 + t104.size + 11 + t105.size) = False := have h_ := c21; ns_
           try have c21b2 := nl_ c21
           by_cases c22 : ((((x5_1 ++ (⟨#[97, 117, 116, 104, 111, 114, 32]⟩ : ByteArray)) ++ t104) ++ (⟨#[10, 99, 111, 109, 109, 105, 116, 116, 101, 114, 32]⟩ : ByteArray)) ++ t105).size + 2 ≤ 9223372036854775807
           ·rw [if_pos c22] at H
            have c22b0 := eq_true c22
            have c22b1 := decide_eq_true c22
            try have c22b3 : (9223372036854775807 < x5_1.size + 7 + t104.size + 11 + t105.size + 2) = False := have h_ := c22; ns_
            try have c22b2 := nl_ c22
            by_cases c23 : (((((x5_1 ++ (⟨#[97, 117, 116, 104, 111, 114, 32]⟩ : ByteArray)) ++ t104) ++ (⟨#[10, 99, 111, 109, 109, 105, 116, 116, 101, 114, 32]⟩ : ByteArray)) ++ t105) ++ (⟨#[10, 10]⟩ : ByteArray)).size + a0_10.size ≤ 9223372036854775807
            ·rw [if_pos c23] at H
             have c23b0 := eq_true c23
             have c23b1 := decide_eq_true c23
             try have c23b3 : (9223372036854775807 < x5_1.size + 7 + t104.size + 11 + t105.size + 2 + a0_10.size) = False := have h_ := c23; ns_
             try have c23b2 := nl_ c23
             simp only [Option.some.injEq, Prod.mk.injEq] at H
             obtain ⟨rfl, rfl⟩ := H
             try go_wp2
             replace BK101 := Aside0.mk (blk_drew BK101.out)
             replace HB := Aside0.mk (below_drew1 HB.out)
             refine start_ (n := 17) (S := fun w' => w'.cell? ⟨gb101, 0, none⟩ = some (.string a0_0) ∧ w'.cell? ⟨gb101, 1, none⟩ = some (.slice A0_1 l0_1.length c0_1) ∧ w'.cell? ⟨gb101, 2, none⟩ = some (.string a0_2) ∧ w'.cell? ⟨gb101, 3, none⟩ = some (.string a0_3) ∧ w'.cell? ⟨gb101, 4, none⟩ = some (.int .i64 a0_4) ∧ w'.cell? ⟨gb101, 5, none⟩ = some (.int .i64 a0_5) ∧ w'.cell? ⟨gb101, 6, none⟩ = some (.string a0_6) ∧ w'.cell? ⟨gb101, 7, none⟩ = some (.string a0_7) ∧ w'.cell? ⟨gb101, 8, none⟩ = some (.int .i64 a0_8) ∧ w'.cell? ⟨gb101, 9, none⟩ = some (.int .i64 a0_9) ∧ w'.cell? ⟨gb101, 10, none⟩ = some (.string a0_10)) (ds := []) (bs 17 0) (by kernel_rfl) rfl rfl ⟨(blk_cell BK101.out 0).trans rfl, (blk_cell BK101.out 1).trans rfl, (blk_cell BK101.out 2).trans rfl, (blk_cell BK101.out 3).trans rfl, (blk_cell BK101.out 4).trans rfl, (blk_cell BK101.out 5).trans rfl, (blk_cell BK101.out 6).trans rfl, (blk_cell BK101.out 7).trans rfl, (blk_cell BK101.out 8).trans rfl, (blk_cell BK101.out 9).trans rfl, (blk_cell BK101.out 10).trans rfl⟩ (fun hHeld => ?_); refine with_tabW commit_Body.tab10 commit_Body.bits10 (fun HT_ HW_ => ?_)
             generalize wr.drew = w24 at BK101 HB hHeld ⊢
             refine pu_ (i := 0) (N := some 30) (bs 17 1) rfl rfl ?_
             refine pu_ (i := 1) (N := some 31) (bs 17 3) rfl rfl ?_
             refine pu_ (i := 2) (N := some 32) (bs 17 7) rfl rfl ?_
             refine pu_ (i := 7) (N := some 37) (bs 17 135) rfl rfl ?_
             refine pu_ (i := 12) (N := some 42) (bs 17 4231) rfl rfl ?_
             refine tkW11_ (i := 3) (N := some 33) (bs 17 4239) rfl rfl hHeld ?_
             refine tkW11_ (i := 8) (N := some 38) (bs 17 4495) rfl rfl hHeld ?_
             refine tkW11_ (i := 13) (N := some 43) (bs 17 12687) rfl rfl hHeld ?_
             refine one_ (i := 4) (N := some 34) (bs 17 12703) rfl rfl (one_of HT_.out (by kernel_rfl)) (by decide) (fun K hK => ?_)
             refine goes_ Tryz.func31 (by kernel_rfl) rfl #[.agg #[.string a0_2, .string a0_3, .int .i64 a0_4, .int .i64 a0_5]] (by rfl) rfl rfl z2_ ?_
             with_reducible refine (commit_Who.calls a0_2 a0_3 a0_4 a0_5 t104 _ ?side1 A17.out).mono ?_
             (case side1 => exact GV.below hgv (hs_))
             rintro e w25 ⟨rfl, hb⟩
             refine ⟨_, rfl, ?_⟩
             replace BK101 := Aside0.mk (bb_ BK101.out hb)
             replace HB := Aside0.mk (below_step (hs_) hb)
             (try clear hb)
             (try clear hb2)
             (try clear hk)
             (try clear hi)
             refine hK.out _ _ ⟨(blk_cell BK101.out 0).trans rfl, (blk_cell BK101.out 1).trans rfl, (blk_cell BK101.out 2).trans rfl, (blk_cell BK101.out 3).trans rfl, (blk_cell BK101.out 4).trans rfl, (blk_cell BK101.out 5).trans rfl, (blk_cell BK101.out 6).trans rfl, (blk_cell BK101.out 7).trans rfl, (blk_cell BK101.out 8).trans rfl, (blk_cell BK101.out 9).trans rfl, (blk_cell BK101.out 10).trans rfl⟩ (fun hHeld => ?_)
             clear hK K
             refine norm_ (a' := ?_) ?_ ?_
             rotate_left
             ·show Act.put _ (some 34) _ = _
              simp only [Act.put, List.setIfInBounds_toArray, List.set_cons_zero, List.set_cons_succ, i64_w, i32_w]
              rfl
             refine pu_ (i := 5) (N := some 35) (bs 17 12735) rfl rfl ?_
             refine pu_ (i := 6) (N := some 36) (bs 17 12799) rfl rfl ?_
             refine one_ (i := 9) (N := some 39) (bs 17 13311) rfl rfl (one_of HT_.out (by kernel_rfl)) (by decide) (fun K hK => ?_)
             refine goes_ Tryz.func31 (by kernel_rfl) rfl #[.agg #[.string a0_6, .string a0_7, .int .i64 a0_8, .int .i64 a0_9]] (by rfl) rfl rfl z2_ ?_
             with_reducible refine (commit_Who.calls a0_6 a0_7 a0_8 a0_9 t105 _ ?side1 A20.out).mono ?_
             (case side1 => exact GV.below hgv (hs_))
             rintro e w26 ⟨rfl, hb⟩
             refine ⟨_, rfl, ?_⟩
             replace BK101 := Aside0.mk (bb_ BK101.out hb)
             replace HB := Aside0.mk (below_step (hs_) hb)
             (try clear hb)
             (try clear hb2)
             (try clear hk)
             (try clear hi)
             refine hK.out _ _ ⟨(blk_cell BK101.out 0).trans rfl, (blk_cell BK101.out 1).trans rfl, (blk_cell BK101.out 2).trans rfl, (blk_cell BK101.out 3).trans rfl, (blk_cell BK101.out 4).trans rfl, (blk_cell BK101.out 5).trans rfl, (blk_cell BK101.out 6).trans rfl, (blk_cell BK101.out 7).trans rfl, (blk_cell BK101.out 8).trans rfl, (blk_cell BK101.out 9).trans rfl, (blk_cell BK101.out 10).trans rfl⟩ (fun hHeld => ?_)
             clear hK K
             refine norm_ (a' := ?_) ?_ ?_
             rotate_left
             ·show Act.put _ (some 39) _ = _
              simp only [Act.put, List.setIfInBounds_toArray, List.set_cons_zero, List.set_cons_succ, i64_w, i32_w]
              rfl
             refine pu_ (i := 10) (N := some 40) (bs 17 14335) rfl rfl ?_
             refine pu_ (i := 11) (N := some 41) (bs 17 16383) rfl rfl ?_
             refine pu_ (i := 14) (N := some 44) (bs 17 32767) rfl rfl ?_
             refine pu_ (i := 15) (N := some 2) (bs 17 65535) rfl rfl ?_
             refine pu_ (i := 16) (N := some 3) (bs 17 131071) rfl rfl ?_
             refine done_ (done_of HT_.out (by kernel_rfl)) ?_
             try go_wp2
             go_ret2
             exact ⟨z4_, hs_⟩
            ·rw [if_neg c23] at H
             exact absurd H (by simp)
           ·rw [if_neg c22] at H
            exact absurd H (by simp)
          ·rw [if_neg c21] at H
           exact absurd H (by simp)
         ·rw [if_neg c19] at H
          exact absurd H (by simp)
        ·rw [if_neg c18] at H
         exact absurd H (by simp)
       ·rw [if_neg c16] at H
        exact absurd H (by simp)
   ·rw [if_neg c5] at H
    exact absurd H (by simp)
  ·rw [if_neg c4] at H
   exact absurd H (by simp)
 ·rw [if_neg c3] at H
  have c3b0 := beq_eq_false_iff_ne.mpr c3
  have c3b1 := bne_iff_ne.mpr c3
  simp only [Option.some.injEq, Prod.mk.injEq] at H
  obtain ⟨rfl, rfl⟩ := H
  go_enter Tryz.func16, Tryz.ntmps16
  go_wp2_with (first | ((with_reducible refine gate_dst (N := 1) rfl ?_); refine be_ (cs := #[.string a0_0, .slice A0_1 l0_1.length c0_1, .string a0_2, .string a0_3, .int .i64 a0_4, .int .i64 a0_5, .string a0_6, .string a0_7, .int .i64 a0_8, .int .i64 a0_9, .string a0_10]) (t := 26) ?_; intro gb101 hg w27 hbox hb; have BK101 := Aside0.mk (hbox); have GW101 := Aside0.mk (gw_ hg HB.out); have GE101 := Aside0.mk (gw_ hg HB.out); replace HB := Aside0.mk (below_step (hb_ HB.out) hb); clear hb hbox hg; obtain ⟨hcz28_0, hcz28_1, hcz28_2, hcz28_3, hcz28_4, hcz28_5, hcz28_6, hcz28_7, hcz28_8, hcz28_9, hcz28_10, hfz28_0, hfz28_1, hfz28_2, hfz28_3, hfz28_4, hfz28_5, hfz28_6, hfz28_7, hfz28_8, hfz28_9, hfz28_10⟩ := bc11 BK101.out) | ((with_reducible refine gate_callee (f := 18) rfl ?_); refine goesL_ (some 9) rfl rfl Tryz.func18 (by kernel_rfl) rfl #[.agg #[.string a0_0, .slice A0_1 l0_1.length c0_1, .string a0_2, .string a0_3, .int .i64 a0_4, .int .i64 a0_5, .string a0_6, .string a0_7, .int .i64 a0_8, .int .i64 a0_9, .string a0_10]] rfl z2_ ?_; (with_reducible refine (commit_Check.calls k a0_0 _ _ l0_1 a0_2 a0_3 a0_4 a0_5 a0_6 a0_7 a0_8 a0_9 a0_10 t102 _ ?side1 ?side2 ?side3 A2.out).mono ?_); (case side1 => repeat (first | exact (Kd.C_below HR0_1.out HB.out) | (with_reducible refine Kd.C_alloc ?_ _) | (with_reducible refine Kd.C_drewN ?_ _) | (with_reducible refine Kd.C_drew ?_))); (case side2 => exact HC0_1.out); (case side3 => exact GV.below hgv (hs_)); rintro e w29 ⟨rfl, hb⟩; refine ⟨_, rfl, ?_⟩; replace BK101 := Aside0.mk (bb_ BK101.out hb); replace HB := Aside0.mk (below_step (hs_) hb); (try clear hb); (try clear hb2); (try clear hk); (try clear hi)))
  go_ret2
  exact ⟨z4_, hs_⟩


def commit_tagged.l0 : Nat → ByteArray → Int → Int → Option (Bool)
 | 0, _, _, _ => none
 | k + 1, x0, x5, x6 => if x6 < x5 then (if 0 ≤ x6 then (if x6 < (x0.size : Int) then (if (bt x0 x6) ≤ 32 then (some false) else (commit_tagged.l0 k x0 x5 (wrap64 (x6 + 1)))) else (none)) else (none)) else (if (x0.size : Int) ≥ 1 then (some (decide ((x0.size : Int) ≤ 64))) else (some false))
def commit_tagged.f (k : Nat) (a0 : ByteArray) : Option (Bool) := commit_tagged.l0 k a0 (a0.size : Int) 0
theorem commit_tagged.mono_l : ∀ k, (∀ y0 y1 y2, LeO (commit_tagged.l0 k y0 y1 y2) (commit_tagged.l0 (k + 1) y0 y1 y2))
 | 0 => fun _ _ _ r h => by simp [commit_tagged.l0] at h
 | k + 1 => by
  have ih0 := commit_tagged.mono_l k
  ·intro y0 y1 y2
   unfold commit_tagged.l0
   have m0_ := @ih0
   exact mz_
theorem commit_tagged.mono : ∀ a0 k, LeO (commit_tagged.f k a0) (commit_tagged.f (k + 1) a0) := by
 intro a0 k
 have ih0 := commit_tagged.mono_l k
 unfold commit_tagged.f
 have m0_ := @ih0
 exact mz_
set_option maxHeartbeats 8000000 in
set_option maxRecDepth 100000 in
theorem commit_tagged.calls (k : Nat) (a0 : ByteArray) (r : Bool) (w : World) (h : commit_tagged.f k a0 = some r) :
  Calls Tryz.prog 81 #[.string a0] w fun e w' => e = .returned (.bool r) ∧ Drawn0 w w' := by
 have H : (commit_tagged.l0 k a0 (a0.size : Int) 0) = some r := h
 clear h
 have H' := Aside0.mk H
 clear H
 go_enter Tryz.func81, Tryz.ntmps81
 go_wp2
 go_loopg [6] k (fun kq v6 w' => ∃ (x6_1 : Int), v6 = .int .i64 x6_1 ∧ Aside0 (commit_tagged.l0 kq a0 (a0.size : Int) x6_1 = some r) ∧ Aside0 (kq ≤ k) ∧ Drawn0 w w')
 case atStart => exact ⟨(0), z1_, H', ⟨Nat.le_refl _⟩, z3_⟩
 case round =>
  clear H'
  obtain ⟨x6_1, rfl, HA, HK1, ⟨m1, rfl⟩⟩ := hrel
  cases gk with
  | zero => exact absurd HA.out (by simp [commit_tagged.l0])
  | succ k1 =>
   have H := HA.out
   clear HA
   simp only [commit_tagged.l0] at H
   by_cases c2 : x6_1 < (a0.size : Int)
   ·rw [if_pos c2] at H
    have c2b0 := decide_eq_true c2
    clear c2
    by_cases c3 : 0 ≤ x6_1
    ·rw [if_pos c3] at H
     have c3b0 := decide_eq_true c3
     clear c3
     by_cases c4 : x6_1 < (a0.size : Int)
     ·rw [if_pos c4] at H
      have c4b0 := decide_eq_true c4
      clear c4
      by_cases c6 : (bt a0 x6_1) ≤ 32
      ·rw [if_pos c6] at H
       have c6b0 := decide_eq_true c6
       clear c6
       obtain rfl := Option.some.inj H
       have p5 : 0 ≤ (x6_1 : Int) := of_decide_eq_true z0_
       have q5 : x6_1 < (a0.size : Int) := of_decide_eq_true z0_
       have hx5 := bt_at a0 x6_1
       replace p5 := eq_true p5
       replace q5 := eq_true q5
       go_wp2
       go_ret
       exact ⟨z1_, z3_⟩
      ·rw [if_neg c6] at H
       have c6b0 := decide_eq_false c6
       clear c6
       have H' := Aside0.mk H
       clear H
       have p5 : 0 ≤ (x6_1 : Int) := of_decide_eq_true z0_
       have q5 : x6_1 < (a0.size : Int) := of_decide_eq_true z0_
       have hx5 := bt_at a0 x6_1
       replace p5 := eq_true p5
       replace q5 := eq_true q5
       go_wp2
       go_roundg k1
       case measure => have := HK1.out; omega
       case rel => exact ⟨(wrap64 (x6_1 + 1)), z1_, H', ⟨by have := HK1.out; omega⟩, z3_⟩
     ·rw [if_neg c4] at H
      exact absurd H (by simp)
    ·rw [if_neg c3] at H
     exact absurd H (by simp)
   ·rw [if_neg c2] at H
    have c2b0 := decide_eq_false c2
    clear c2
    by_cases c7 : (a0.size : Int) ≥ 1
    ·rw [if_pos c7] at H
     have c7b0 := decide_eq_true c7
     have c7b1 : decide (1 ≤ a0.size) = true := decide_eq_true (by omega)
     clear c7
     obtain rfl := Option.some.inj H
     go_wp2
     go_ret
     exact ⟨z1_, z3_⟩
    ·rw [if_neg c7] at H
     have c7b0 := decide_eq_false c7
     have c7b1 : decide (1 ≤ a0.size) = false := decide_eq_false (by omega)
     clear c7
     obtain rfl := Option.some.inj H
     go_wp2
     go_ret
     exact ⟨z1_, z3_⟩

end Go.Proofs.YtbhfbbfjdklfgaaGreatDoor.Q


/- object.kinds, Word and Kind, by hand (an array of structs). -/
namespace Go.Proofs.YtbhfbbfjdklfgaaGreatDoor.Q
open Go.RowKit Go.Proofs.YtbhfbbfjdklfgaaGreatDoorW.PrintWords Go.Proofs.YtbhfbbfjdklfgaaGreatDoorW.PrintLast Go.Proofs.YtbhfbbfjdklfgaaGreatDoorW.PrintMore
theorem kinds_size : (Tryz.prog.info? 148).map (·.size) = some 8 := by kernel_rfl
set_option maxHeartbeats 8000000 in
set_option maxRecDepth 100000 in
theorem kinds_calls (w : World) : Calls Tryz.prog 143 #[] w fun e w' => e = .returned (.agg #[.int .i64 1, .string ⟨#[98, 108, 111, 98]⟩, .int .i64 2, .string ⟨#[116, 114, 101, 101]⟩, .int .i64 3, .string ⟨#[99, 111, 109, 109, 105, 116]⟩, .int .i64 4, .string ⟨#[116, 97, 103]⟩]) ∧ Below w.heap.size w w' := by
  have HB := Aside0.mk (Below.refl w.heap.size w)
  have huk := Tryz.underlying148
  have huk2 := Tryz.underlying147
  go_enter Tryz.func143, Tryz.ntmps143
  go_wp2_with ((with_reducible refine gate_dst (N := 0) rfl ?_); refine box_event ?hg (N := 0) ?hd (cs := #[.int .i64 0, .string ⟨#[]⟩, .int .i64 0, .string ⟨#[]⟩, .int .i64 0, .string ⟨#[]⟩, .int .i64 0, .string ⟨#[]⟩]) (t := 148) ?hr ?_; (case hd => rfl); (case hg => rfl); (case hr => first | (go_simp; done) | (go_simp; rfl)); intro gb hg w3 hbox hb; have HB3 := Aside0.mk (below_step HB.out hb); have BK := Aside0.mk hbox; have GE := Aside0.mk (show w.heap.size ≤ gb by rw [hg]; exact Nat.le_refl _); clear hb hbox hg; have hcz0 : w3.cell? ⟨gb, 0, none⟩ = some (.int .i64 0) := (blk_cell BK.out 0).trans rfl; have hfz0 := blk_frozen BK.out 0; have hcz1 : w3.cell? ⟨gb, 1, none⟩ = some (.string ⟨#[]⟩) := (blk_cell BK.out 1).trans rfl; have hfz1 := blk_frozen BK.out 1; have hcz2 : w3.cell? ⟨gb, 2, none⟩ = some (.int .i64 0) := (blk_cell BK.out 2).trans rfl; have hfz2 := blk_frozen BK.out 2; have hcz3 : w3.cell? ⟨gb, 3, none⟩ = some (.string ⟨#[]⟩) := (blk_cell BK.out 3).trans rfl; have hfz3 := blk_frozen BK.out 3; have hcz4 : w3.cell? ⟨gb, 4, none⟩ = some (.int .i64 0) := (blk_cell BK.out 4).trans rfl; have hfz4 := blk_frozen BK.out 4; have hcz5 : w3.cell? ⟨gb, 5, none⟩ = some (.string ⟨#[]⟩) := (blk_cell BK.out 5).trans rfl; have hfz5 := blk_frozen BK.out 5; have hcz6 : w3.cell? ⟨gb, 6, none⟩ = some (.int .i64 0) := (blk_cell BK.out 6).trans rfl; have hfz6 := blk_frozen BK.out 6; have hcz7 : w3.cell? ⟨gb, 7, none⟩ = some (.string ⟨#[]⟩) := (blk_cell BK.out 7).trans rfl; have hfz7 := blk_frozen BK.out 7)
  clear hcz0 hcz1 hcz2 hcz3 hcz4 hcz5 hcz6 hcz7 hfz0 hfz1 hfz2 hfz3 hfz4 hfz5 hfz6 hfz7
  have hh := (blk_put (cs := #[.int .i64 1, .string ⟨#[98, 108, 111, 98]⟩, .int .i64 2, .string ⟨#[116, 114, 101, 101]⟩, .int .i64 3, .string ⟨#[99, 111, 109, 109, 105, 116]⟩, .int .i64 4, .string ⟨#[]⟩]) (cs' := #[.int .i64 1, .string ⟨#[98, 108, 111, 98]⟩, .int .i64 2, .string ⟨#[116, 114, 101, 101]⟩, .int .i64 3, .string ⟨#[99, 111, 109, 109, 105, 116]⟩, .int .i64 4, .string ⟨#[116, 97, 103]⟩]) (blk_put (cs := #[.int .i64 1, .string ⟨#[98, 108, 111, 98]⟩, .int .i64 2, .string ⟨#[116, 114, 101, 101]⟩, .int .i64 3, .string ⟨#[99, 111, 109, 109, 105, 116]⟩, .int .i64 0, .string ⟨#[]⟩]) (cs' := #[.int .i64 1, .string ⟨#[98, 108, 111, 98]⟩, .int .i64 2, .string ⟨#[116, 114, 101, 101]⟩, .int .i64 3, .string ⟨#[99, 111, 109, 109, 105, 116]⟩, .int .i64 4, .string ⟨#[]⟩]) (blk_put (cs := #[.int .i64 1, .string ⟨#[98, 108, 111, 98]⟩, .int .i64 2, .string ⟨#[116, 114, 101, 101]⟩, .int .i64 3, .string ⟨#[]⟩, .int .i64 0, .string ⟨#[]⟩]) (cs' := #[.int .i64 1, .string ⟨#[98, 108, 111, 98]⟩, .int .i64 2, .string ⟨#[116, 114, 101, 101]⟩, .int .i64 3, .string ⟨#[99, 111, 109, 109, 105, 116]⟩, .int .i64 0, .string ⟨#[]⟩]) (blk_put (cs := #[.int .i64 1, .string ⟨#[98, 108, 111, 98]⟩, .int .i64 2, .string ⟨#[116, 114, 101, 101]⟩, .int .i64 0, .string ⟨#[]⟩, .int .i64 0, .string ⟨#[]⟩]) (cs' := #[.int .i64 1, .string ⟨#[98, 108, 111, 98]⟩, .int .i64 2, .string ⟨#[116, 114, 101, 101]⟩, .int .i64 3, .string ⟨#[]⟩, .int .i64 0, .string ⟨#[]⟩]) (blk_put (cs := #[.int .i64 1, .string ⟨#[98, 108, 111, 98]⟩, .int .i64 2, .string ⟨#[]⟩, .int .i64 0, .string ⟨#[]⟩, .int .i64 0, .string ⟨#[]⟩]) (cs' := #[.int .i64 1, .string ⟨#[98, 108, 111, 98]⟩, .int .i64 2, .string ⟨#[116, 114, 101, 101]⟩, .int .i64 0, .string ⟨#[]⟩, .int .i64 0, .string ⟨#[]⟩]) (blk_put (cs := #[.int .i64 1, .string ⟨#[98, 108, 111, 98]⟩, .int .i64 0, .string ⟨#[]⟩, .int .i64 0, .string ⟨#[]⟩, .int .i64 0, .string ⟨#[]⟩]) (cs' := #[.int .i64 1, .string ⟨#[98, 108, 111, 98]⟩, .int .i64 2, .string ⟨#[]⟩, .int .i64 0, .string ⟨#[]⟩, .int .i64 0, .string ⟨#[]⟩]) (blk_put (cs := #[.int .i64 1, .string ⟨#[]⟩, .int .i64 0, .string ⟨#[]⟩, .int .i64 0, .string ⟨#[]⟩, .int .i64 0, .string ⟨#[]⟩]) (cs' := #[.int .i64 1, .string ⟨#[98, 108, 111, 98]⟩, .int .i64 0, .string ⟨#[]⟩, .int .i64 0, .string ⟨#[]⟩, .int .i64 0, .string ⟨#[]⟩]) (blk_put (cs := #[.int .i64 0, .string ⟨#[]⟩, .int .i64 0, .string ⟨#[]⟩, .int .i64 0, .string ⟨#[]⟩, .int .i64 0, .string ⟨#[]⟩]) (cs' := #[.int .i64 1, .string ⟨#[]⟩, .int .i64 0, .string ⟨#[]⟩, .int .i64 0, .string ⟨#[]⟩, .int .i64 0, .string ⟨#[]⟩]) BK.out 0 (.int .i64 1) rfl) 1 (.string ⟨#[98, 108, 111, 98]⟩) rfl) 2 (.int .i64 2) rfl) 3 (.string ⟨#[116, 114, 101, 101]⟩) rfl) 4 (.int .i64 3) rfl) 5 (.string ⟨#[99, 111, 109, 109, 105, 116]⟩) rfl) 6 (.int .i64 4) rfl) 7 (.string ⟨#[116, 97, 103]⟩) rfl)
  refine bodyPost_ret (results_cell_row rfl _ _ gb 148 #[.int .i64 1, .string ⟨#[98, 108, 111, 98]⟩, .int .i64 2, .string ⟨#[116, 114, 101, 101]⟩, .int .i64 3, .string ⟨#[99, 111, 109, 109, 105, 116]⟩, .int .i64 4, .string ⟨#[116, 97, 103]⟩] (0, 0) _ rfl hh huk rfl kinds_size) rfl ?_
  exact ⟨rfl, (below_set (below_set (below_set (below_set (below_set (below_set (below_set (below_set HB3.out GE.out) GE.out) GE.out) GE.out) GE.out) GE.out) GE.out) GE.out)⟩
/-- the words of the kinds, by their places -/
def kindW : Nat → ByteArray
  | 0 => ⟨#[98, 108, 111, 98]⟩
  | 1 => ⟨#[116, 114, 101, 101]⟩
  | 2 => ⟨#[99, 111, 109, 109, 105, 116]⟩
  | _ => ⟨#[116, 97, 103]⟩
def wordF (n : Int) : Nat → Nat → ByteArray
  | 0, _ => ⟨#[]⟩
  | d + 1, i => if ((i : Int) + 1) = n then kindW i else wordF n d (i + 1)
def kindF (s : ByteArray) : Nat → Nat → Int
  | 0, _ => 0
  | d + 1, i => if (kindW i).toList = s.toList then (i : Int) + 1 else kindF s d (i + 1)
def object_Word.f (a0 : Int) : Option ByteArray := some (wordF a0 4 0)
def object_Kind.f (a0 : ByteArray) : Option Int := some (kindF a0 4 0)
def kindsV : Value := .agg #[.int .i64 1, .string ⟨#[98, 108, 111, 98]⟩, .int .i64 2, .string ⟨#[116, 114, 101, 101]⟩, .int .i64 3, .string ⟨#[99, 111, 109, 109, 105, 116]⟩, .int .i64 4, .string ⟨#[116, 97, 103]⟩]
theorem kinds_index (x : Int) (h0 : 0 ≤ x) (h5 : x < 4) (W : World) : (Instr.index 148 kindsV (.int .i64 x)).run Tryz.prog W = .ok (.agg #[.int .i64 (x + 1), .string (kindW x.toNat)]) W := by
  have hu := Tryz.underlying148
  have hz := Tryz.sizeOf147
  have ha := Tryz.isAgg147
  have : x = 0 ∨ x = 1 ∨ x = 2 ∨ x = 3 := by omega
  rcases this with rfl | rfl | rfl | rfl <;> simp [Instr.index, kindsV, kindW, asIntOf, run_underlying hu, hz, Go.part, ha] <;> rfl
set_option maxHeartbeats 8000000 in
set_option maxRecDepth 100000 in
theorem object_Word.calls (a0 : Int) (r : ByteArray) (w : World) (h : object_Word.f a0 = some r) :
    Calls Tryz.prog 79 #[.int .i64 a0] w fun e w' => e = .returned (.string r) ∧ Below w.heap.size w w' := by
  have H' := Aside0.mk (show wordF a0 4 0 = r from Option.some.inj h)
  have hu47 := Tryz.underlying147
  clear h
  go_enter Tryz.func79, Tryz.ntmps79
  go_wp2_with (go_at_call 143; (with_reducible refine (kinds_calls _).mono ?_); rintro e w1 ⟨rfl, hb⟩; have HB := Aside0.mk hb; clear hb)
  go_loopg [6] 4 (fun g v6 wr => ∃ (i : Nat) (x : Int), v6 = .int .i64 x ∧ Aside0 (x = (i : Int) ∧ i + g = 4) ∧ Aside0 (Below w.heap.size w wr) ∧ Aside0 (wordF a0 g i = r))
  case atStart => exact ⟨0, 0, rfl, ⟨rfl, rfl⟩, HB, H'⟩
  case round =>
    clear H' HB
    obtain ⟨i, x, rfl, HX, HB, H⟩ := hrel
    cases gk with
    | zero =>
      have h5 : decide (x < 4) = false := by have := HX.out; exact decide_eq_false (by omega)
      have H0 := H.out
      rw [wordF] at H0
      subst H0
      clear H
      go_wp2
      go_ret
      exact ⟨rfl, HB.out⟩
    | succ g =>
      have H0 := H.out
      rw [wordF] at H0
      have h5 : decide (x < 4) = true := by have := HX.out; exact decide_eq_true (by omega)
      have hw1 : IntKind.i64.wrap (x + 1) = x + 1 := by have := HX.out; rw [IntKind.wrap_i64]; omega
      have hx0 := kinds_index x (by have := HX.out; omega) (by have := HX.out; omega)
      unfold kindsV at hx0
      obtain ⟨q, hq⟩ : ∃ q, q = kindW x.toNat := ⟨_, rfl⟩
      have HQ := Aside0.mk hq
      rw [← hq] at hx0
      clear hq H
      by_cases hz : x + 1 = a0
      · have hz1 : (x + 1 == a0) = true := by simpa using hz
        rw [if_pos (by have := HX.out; omega)] at H0
        have e : q = r := by rw [HQ.out, ← H0, show x.toNat = i by have := HX.out; omega]
        subst e
        clear hz H0
        go_wp2_with ((with_reducible refine gate_dst (N := 4) rfl ?_); refine box_event ?hg (N := 4) ?hd (cs := #[.int .i64 0, .string ⟨#[]⟩]) (t := 147) ?hr ?_; (case hd => rfl); (case hg => rfl); (case hr => first | (go_simp; done) | (go_simp; rfl)); intro gb hg w6 hbox hb2; have HB6 := Aside0.mk (below_step HB.out hb2); have GE6 := Aside0.mk (show w.heap.size ≤ gb by rw [hg]; exact HB.out.size); have BK6 := Aside0.mk hbox; clear hb2 hbox hg; have hcz0 : w6.cell? ⟨gb, 0, none⟩ = some (.int .i64 0) := (blk_cell BK6.out 0).trans rfl; have hcz1 : w6.cell? ⟨gb, 1, none⟩ = some (.string (⟨#[]⟩ : ByteArray)) := (blk_cell BK6.out 1).trans rfl; have hfz0 := blk_frozen BK6.out 0; have hfz1 := blk_frozen BK6.out 1)
        go_ret
        exact ⟨rfl, below_set (below_set HB6.out GE6.out) GE6.out⟩
      · have hz1 : (x + 1 == a0) = false := by simpa using hz
        rw [if_neg (by have := HX.out; omega)] at H0
        have HN := Aside0.mk H0
        clear hz H0
        go_wp2_with ((with_reducible refine gate_dst (N := 4) rfl ?_); refine box_event ?hg (N := 4) ?hd (cs := #[.int .i64 0, .string ⟨#[]⟩]) (t := 147) ?hr ?_; (case hd => rfl); (case hg => rfl); (case hr => first | (go_simp; done) | (go_simp; rfl)); intro gb hg w6 hbox hb2; have HB6 := Aside0.mk (below_step HB.out hb2); have GE6 := Aside0.mk (show w.heap.size ≤ gb by rw [hg]; exact HB.out.size); have BK6 := Aside0.mk hbox; clear hb2 hbox hg; have hcz0 : w6.cell? ⟨gb, 0, none⟩ = some (.int .i64 0) := (blk_cell BK6.out 0).trans rfl; have hcz1 : w6.cell? ⟨gb, 1, none⟩ = some (.string (⟨#[]⟩ : ByteArray)) := (blk_cell BK6.out 1).trans rfl; have hfz0 := blk_frozen BK6.out 0; have hfz1 := blk_frozen BK6.out 1)
        go_roundg g
        case measure => omega
        case rel => exact ⟨i + 1, x + 1, rfl, ⟨by have := HX.out; omega, by have := HX.out; omega⟩, ⟨below_set (below_set HB6.out GE6.out) GE6.out⟩, HN⟩
set_option maxHeartbeats 8000000 in
set_option maxRecDepth 100000 in
theorem object_Kind.calls (a0 : ByteArray) (r : Int) (w : World) (h : object_Kind.f a0 = some r) :
    Calls Tryz.prog 77 #[.string a0] w fun e w' => e = .returned (.int .i64 r) ∧ Below w.heap.size w w' := by
  have H' := Aside0.mk (show kindF a0 4 0 = r from Option.some.inj h)
  have hu47 := Tryz.underlying147
  clear h
  go_enter Tryz.func77, Tryz.ntmps77
  go_wp2_with (go_at_call 143; (with_reducible refine (kinds_calls _).mono ?_); rintro e w1 ⟨rfl, hb⟩; have HB := Aside0.mk hb; clear hb)
  go_loopg [6] 4 (fun g v6 wr => ∃ (i : Nat) (x : Int), v6 = .int .i64 x ∧ Aside0 (x = (i : Int) ∧ i + g = 4) ∧ Aside0 (Below w.heap.size w wr) ∧ Aside0 (kindF a0 g i = r))
  case atStart => exact ⟨0, 0, rfl, ⟨rfl, rfl⟩, HB, H'⟩
  case round =>
    clear H' HB
    obtain ⟨i, x, rfl, HX, HB, H⟩ := hrel
    cases gk with
    | zero =>
      have h5 : decide (x < 4) = false := by have := HX.out; exact decide_eq_false (by omega)
      have H0 := H.out
      rw [kindF] at H0
      subst H0
      clear H
      go_wp2
      go_ret
      exact ⟨rfl, HB.out⟩
    | succ g =>
      have H0 := H.out
      rw [kindF] at H0
      have h5 : decide (x < 4) = true := by have := HX.out; exact decide_eq_true (by omega)
      have hw1 : IntKind.i64.wrap (x + 1) = x + 1 := by have := HX.out; rw [IntKind.wrap_i64]; omega
      have hx0 := kinds_index x (by have := HX.out; omega) (by have := HX.out; omega)
      unfold kindsV at hx0
      obtain ⟨q, hq⟩ : ∃ q, q = kindW i := ⟨_, rfl⟩
      have HQ := Aside0.mk hq
      rw [show x.toNat = i by have := HX.out; omega, ← hq] at hx0
      rw [← hq] at H0
      clear hq H
      by_cases hz : q.toList = a0.toList
      · have hz1 : (q.toList == a0.toList) = true := by simpa using hz
        rw [if_pos hz] at H0
        have e : x + 1 = r := by have := HX.out; omega
        subst e
        clear hz H0
        go_wp2_with ((with_reducible refine gate_dst (N := 4) rfl ?_); refine box_event ?hg (N := 4) ?hd (cs := #[.int .i64 0, .string ⟨#[]⟩]) (t := 147) ?hr ?_; (case hd => rfl); (case hg => rfl); (case hr => first | (go_simp; done) | (go_simp; rfl)); intro gb hg w6 hbox hb2; have HB6 := Aside0.mk (below_step HB.out hb2); have GE6 := Aside0.mk (show w.heap.size ≤ gb by rw [hg]; exact HB.out.size); have BK6 := Aside0.mk hbox; clear hb2 hbox hg; have hcz0 : w6.cell? ⟨gb, 0, none⟩ = some (.int .i64 0) := (blk_cell BK6.out 0).trans rfl; have hcz1 : w6.cell? ⟨gb, 1, none⟩ = some (.string (⟨#[]⟩ : ByteArray)) := (blk_cell BK6.out 1).trans rfl; have hfz0 := blk_frozen BK6.out 0; have hfz1 := blk_frozen BK6.out 1)
        go_ret
        exact ⟨rfl, below_set (below_set HB6.out GE6.out) GE6.out⟩
      · have hz1 : (q.toList == a0.toList) = false := by simpa using hz
        rw [if_neg hz] at H0
        have HN := Aside0.mk H0
        clear hz H0
        go_wp2_with ((with_reducible refine gate_dst (N := 4) rfl ?_); refine box_event ?hg (N := 4) ?hd (cs := #[.int .i64 0, .string ⟨#[]⟩]) (t := 147) ?hr ?_; (case hd => rfl); (case hg => rfl); (case hr => first | (go_simp; done) | (go_simp; rfl)); intro gb hg w6 hbox hb2; have HB6 := Aside0.mk (below_step HB.out hb2); have GE6 := Aside0.mk (show w.heap.size ≤ gb by rw [hg]; exact HB.out.size); have BK6 := Aside0.mk hbox; clear hb2 hbox hg; have hcz0 : w6.cell? ⟨gb, 0, none⟩ = some (.int .i64 0) := (blk_cell BK6.out 0).trans rfl; have hcz1 : w6.cell? ⟨gb, 1, none⟩ = some (.string (⟨#[]⟩ : ByteArray)) := (blk_cell BK6.out 1).trans rfl; have hfz0 := blk_frozen BK6.out 0; have hfz1 := blk_frozen BK6.out 1)
        go_roundg g
        case measure => omega
        case rel => exact ⟨i + 1, x + 1, rfl, ⟨by have := HX.out; omega, by have := HX.out; omega⟩, ⟨below_set (below_set HB6.out GE6.out) GE6.out⟩, HN⟩
end Go.Proofs.YtbhfbbfjdklfgaaGreatDoor.Q


namespace Go.Proofs.YtbhfbbfjdklfgaaGreatDoor.Q
open Go.RowKit Go.Proofs.YtbhfbbfjdklfgaaGreatDoorW.PrintWords Go.Proofs.YtbhfbbfjdklfgaaGreatDoorW.PrintLast Go.Proofs.YtbhfbbfjdklfgaaGreatDoorW.PrintMore
attribute [local go_sem] max2_int min2_int max_two min_two max_three min_three max_four min_four   -- for this text's walks alone

def commit_CheckTag.j0 : Nat → Bool → ByteArray → Int → ByteArray → ByteArray → ByteArray → Int → Int → ByteArray → Option (Int)
 | 0, _, _, _, _, _, _, _, _, _ => none
 | k + 1, x29, x141000, x141001, x141002, x141003, x141004, x141005, x141006, x141007 => if x29 = true then (some 1) else (if (x141007.size : Int) > 4096 then (some 4) else (some 0))
def commit_CheckTag.f (k : Nat) (a0_0 : ByteArray) (a0_1 : Int) (a0_2 : ByteArray) (a0_3 : ByteArray) (a0_4 : ByteArray) (a0_5 : Int) (a0_6 : Int) (a0_7 : ByteArray) : Option (Int) := (ident_Is.f k a0_0).bind fun t141 => (if t141 = true then ((object_Word.f a0_1).bind fun t142 => (if t142.toList = ([] : List UInt8) then (commit_CheckTag.j0 k true a0_0 a0_1 a0_2 a0_3 a0_4 a0_5 a0_6 a0_7) else ((commit_tagged.f k a0_2).bind fun t143 => (if t143 = true then ((commit_somebody.f k a0_3 a0_4 a0_5 a0_6).bind fun t144 => (if t144 = true then ((strings_Contains2.f a0_7 (⟨#[0]⟩ : ByteArray)).bind fun t145 => (commit_CheckTag.j0 k t145 a0_0 a0_1 a0_2 a0_3 a0_4 a0_5 a0_6 a0_7)) else (commit_CheckTag.j0 k true a0_0 a0_1 a0_2 a0_3 a0_4 a0_5 a0_6 a0_7))) else (commit_CheckTag.j0 k true a0_0 a0_1 a0_2 a0_3 a0_4 a0_5 a0_6 a0_7))))) else (commit_CheckTag.j0 k true a0_0 a0_1 a0_2 a0_3 a0_4 a0_5 a0_6 a0_7))
theorem commit_CheckTag.mono_l : ∀ k, (∀ y0 y1 y2 y3 y4 y5 y6 y7 y8, LeO (commit_CheckTag.j0 k y0 y1 y2 y3 y4 y5 y6 y7 y8) (commit_CheckTag.j0 (k + 1) y0 y1 y2 y3 y4 y5 y6 y7 y8))
 | 0 => fun _ _ _ _ _ _ _ _ _ r h => by simp [commit_CheckTag.j0] at h
 | k + 1 => by
  have ih0 := commit_CheckTag.mono_l k
  ·intro y0 y1 y2 y3 y4 y5 y6 y7 y8
   unfold commit_CheckTag.j0
   have m0_ := @ih0
   have m1_ := @commit_somebody.mono
   have m2_ := @commit_tagged.mono
   have m3_ := @ident_Is.mono
   exact mz_
theorem commit_CheckTag.mono : ∀ a0 a1 a2 a3 a4 a5 a6 a7 k, LeO (commit_CheckTag.f k a0 a1 a2 a3 a4 a5 a6 a7) (commit_CheckTag.f (k + 1) a0 a1 a2 a3 a4 a5 a6 a7) := by
 intro a0 a1 a2 a3 a4 a5 a6 a7 k
 have ih0 := commit_CheckTag.mono_l k
 unfold commit_CheckTag.f
 have m0_ := @ih0
 have m1_ := @commit_somebody.mono
 have m2_ := @commit_tagged.mono
 have m3_ := @ident_Is.mono
 exact mz_
set_option maxHeartbeats 8000000 in
set_option maxRecDepth 100000 in
theorem commit_CheckTag.calls (k : Nat) (a0_0 : ByteArray) (a0_1 : Int) (a0_2 : ByteArray) (a0_3 : ByteArray) (a0_4 : ByteArray) (a0_5 : Int) (a0_6 : Int) (a0_7 : ByteArray) (r : Int) (w : World) (hgv : GV w) (h : commit_CheckTag.f k a0_0 a0_1 a0_2 a0_3 a0_4 a0_5 a0_6 a0_7 = some r) :
  Calls Tryz.prog 27 #[.agg #[.string a0_0, .int .i64 a0_1, .string a0_2, .string a0_3, .string a0_4, .int .i64 a0_5, .int .i64 a0_6, .string a0_7]] w fun e w' => e = .returned (.int .i64 r) ∧ Below w.heap.size w w' := by
 have hu37 := Tryz.underlying37
 have hu24 := Tryz.underlying24
 have HB := Aside0.mk (Below.refl w.heap.size w)
 have H : ((ident_Is.f k a0_0).bind fun t141 => (if t141 = true then ((object_Word.f a0_1).bind fun t142 => (if t142.toList = ([] : List UInt8) then (commit_CheckTag.j0 k true a0_0 a0_1 a0_2 a0_3 a0_4 a0_5 a0_6 a0_7) else ((commit_tagged.f k a0_2).bind fun t143 => (if t143 = true then ((commit_somebody.f k a0_3 a0_4 a0_5 a0_6).bind fun t144 => (if t144 = true then ((strings_Contains2.f a0_7 (⟨#[0]⟩ : ByteArray)).bind fun t145 => (commit_CheckTag.j0 k t145 a0_0 a0_1 a0_2 a0_3 a0_4 a0_5 a0_6 a0_7)) else (commit_CheckTag.j0 k true a0_0 a0_1 a0_2 a0_3 a0_4 a0_5 a0_6 a0_7))) else (commit_CheckTag.j0 k true a0_0 a0_1 a0_2 a0_3 a0_4 a0_5 a0_6 a0_7))))) else (commit_CheckTag.j0 k true a0_0 a0_1 a0_2 a0_3 a0_4 a0_5 a0_6 a0_7))) = some r := h
 clear h
 have HC2 := Aside0.mk H
 clear H
 go_enter Tryz.func27, Tryz.ntmps27
 go_upto_region 1 with (first | ((with_reducible refine gate_dst (N := 1) rfl ?_); refine be_ (cs := #[.string a0_0, .int .i64 a0_1, .string a0_2, .string a0_3, .string a0_4, .int .i64 a0_5, .int .i64 a0_6, .string a0_7]) (t := 37) ?_; intro gb140 hg w3 hbox hb; have BK140 := Aside0.mk (hbox); have GW140 := Aside0.mk (gw_ hg HB.out); have GE140 := Aside0.mk (gw_ hg HB.out); replace HB := Aside0.mk (below_step (hb_ HB.out) hb); clear hb hbox hg))
 (try simp only [Act.put, List.setIfInBounds_toArray, List.set_cons_zero, List.set_cons_succ])
 go_cut [29] (fun v29 wc => ∃ (kq : Nat) (x29_1 : Bool), v29 = .bool x29_1 ∧ Aside0 (commit_CheckTag.j0 kq x29_1 a0_0 a0_1 a0_2 a0_3 a0_4 a0_5 a0_6 a0_7 = some r) ∧ Aside0 (kq ≤ k) ∧ Aside0 (wc.heap[gb140]? = some (.cells #[.string a0_0, .int .i64 a0_1, .string a0_2, .string a0_3, .string a0_4, .int .i64 a0_5, .int .i64 a0_6, .string a0_7] 37 (0, 0))) ∧ Aside0 (Below w.heap.size w wc))
 case first =>
  have H := HC2.out
  clear HC2
  replace H := Option.bind_eq_some_iff.mp H
  obtain ⟨t141, A40, H⟩ := H
  have A4 := Aside0.mk A40
  clear A40
  by_cases c5 : t141 = true
  ·subst c5
   have H1 : ((object_Word.f a0_1).bind fun t142 => (if t142.toList = ([] : List UInt8) then (commit_CheckTag.j0 k true a0_0 a0_1 a0_2 a0_3 a0_4 a0_5 a0_6 a0_7) else ((commit_tagged.f k a0_2).bind fun t143 => (if t143 = true then ((commit_somebody.f k a0_3 a0_4 a0_5 a0_6).bind fun t144 => (if t144 = true then ((strings_Contains2.f a0_7 (⟨#[0]⟩ : ByteArray)).bind fun t145 => (commit_CheckTag.j0 k t145 a0_0 a0_1 a0_2 a0_3 a0_4 a0_5 a0_6 a0_7)) else (commit_CheckTag.j0 k true a0_0 a0_1 a0_2 a0_3 a0_4 a0_5 a0_6 a0_7))) else (commit_CheckTag.j0 k true a0_0 a0_1 a0_2 a0_3 a0_4 a0_5 a0_6 a0_7))))) = some r := by rw [if_pos rfl] at H; exact H
   clear H
   have H := H1
   clear H1
   replace H := Option.bind_eq_some_iff.mp H
   obtain ⟨t142, A60, H⟩ := H
   have A6 := Aside0.mk A60
   clear A60
   by_cases c7 : t142.toList = ([] : List UInt8)
   ·rw [if_pos c7] at H
    have c7b0 := beq_iff_eq.mpr c7
    have c7b1 := bne_eq_false_iff_eq.mpr c7
    clear c7
    (first | rw [c7b0] | (simp only [i64_w, i32_w]; rw [c7b0]) | skip)
    have H' := Aside0.mk H
    clear H
    obtain ⟨hcz8_0, hcz8_1, hcz8_2, hcz8_3, hcz8_4, hcz8_5, hcz8_6, hcz8_7, hfz8_0, hfz8_1, hfz8_2, hfz8_3, hfz8_4, hfz8_5, hfz8_6, hfz8_7⟩ := bc8 BK140.out
    go_wp2_with (first | ((with_reducible refine gate_callee (f := 65) rfl ?_); refine goesL_ (some 5) rfl rfl Tryz.func65 (by kernel_rfl) rfl #[.string a0_0] rfl z2_ ?_; (with_reducible refine (ident_Is.calls k a0_0 true _ A4.out).mono ?_); rintro e w' ⟨rfl, ⟨nd, rfl⟩⟩; refine ⟨_, rfl, ?_⟩) | (go_at_call 79; (with_reducible refine (object_Word.calls a0_1 t142 _ A6.out).mono ?_); rintro e w9 ⟨rfl, hb⟩; replace BK140 := Aside0.mk (bb_ BK140.out hb); replace HB := Aside0.mk (below_step (hs_) hb); (try clear hb); (try clear hb2); (try clear hk); (try clear hi)))
    go_meet
    case rel => exact ⟨_, (true), z1_, H', ⟨z5_⟩, ⟨bk_ BK140.out⟩, ⟨hs_⟩⟩
   ·rw [if_neg c7] at H
    have c7b0 := beq_eq_false_iff_ne.mpr c7
    have c7b1 := bne_iff_ne.mpr c7
    (first | rw [c7b0] | (simp only [i64_w, i32_w]; rw [c7b0]) | skip)
    replace H := Option.bind_eq_some_iff.mp H
    obtain ⟨t143, A100, H⟩ := H
    have A10 := Aside0.mk A100
    clear A100
    by_cases c11 : t143 = true
    ·subst c11
     have H1 : ((commit_somebody.f k a0_3 a0_4 a0_5 a0_6).bind fun t144 => (if t144 = true then ((strings_Contains2.f a0_7 (⟨#[0]⟩ : ByteArray)).bind fun t145 => (commit_CheckTag.j0 k t145 a0_0 a0_1 a0_2 a0_3 a0_4 a0_5 a0_6 a0_7)) else (commit_CheckTag.j0 k true a0_0 a0_1 a0_2 a0_3 a0_4 a0_5 a0_6 a0_7))) = some r := by rw [if_pos rfl] at H; exact H
     clear H
     have H := H1
     clear H1
     replace H := Option.bind_eq_some_iff.mp H
     obtain ⟨t144, A120, H⟩ := H
     have A12 := Aside0.mk A120
     clear A120
     by_cases c13 : t144 = true
     ·subst c13
      have H1 : ((strings_Contains2.f a0_7 (⟨#[0]⟩ : ByteArray)).bind fun t145 => (commit_CheckTag.j0 k t145 a0_0 a0_1 a0_2 a0_3 a0_4 a0_5 a0_6 a0_7)) = some r := by rw [if_pos rfl] at H; exact H
      clear H
      have H := H1
      clear H1
      replace H := Option.bind_eq_some_iff.mp H
      obtain ⟨t145, A140, H⟩ := H
      have A14 := Aside0.mk A140
      clear A140
      have H' := Aside0.mk H
      clear H
      obtain ⟨hcz15_0, hcz15_1, hcz15_2, hcz15_3, hcz15_4, hcz15_5, hcz15_6, hcz15_7, hfz15_0, hfz15_1, hfz15_2, hfz15_3, hfz15_4, hfz15_5, hfz15_6, hfz15_7⟩ := bc8 BK140.out
      go_wp2_with (first | ((with_reducible refine gate_callee (f := 65) rfl ?_); refine goesL_ (some 5) rfl rfl Tryz.func65 (by kernel_rfl) rfl #[.string a0_0] rfl z2_ ?_; (with_reducible refine (ident_Is.calls k a0_0 true _ A4.out).mono ?_); rintro e w' ⟨rfl, ⟨nd, rfl⟩⟩; refine ⟨_, rfl, ?_⟩) | (go_at_call 79; (with_reducible refine (object_Word.calls a0_1 t142 _ A6.out).mono ?_); rintro e w16 ⟨rfl, hb⟩; replace BK140 := Aside0.mk (bb_ BK140.out hb); replace HB := Aside0.mk (below_step (hs_) hb); (try clear hb); (try clear hb2); (try clear hk); (try clear hi); obtain ⟨hcz17_0, hcz17_1, hcz17_2, hcz17_3, hcz17_4, hcz17_5, hcz17_6, hcz17_7, hfz17_0, hfz17_1, hfz17_2, hfz17_3, hfz17_4, hfz17_5, hfz17_6, hfz17_7⟩ := bc8 BK140.out) | (go_at_call 81; (with_reducible refine (commit_tagged.calls k a0_2 true _ A10.out).mono ?_); rintro e w' ⟨rfl, ⟨nd, rfl⟩⟩) | (go_at_call 67; (with_reducible refine (commit_somebody.calls k a0_3 a0_4 a0_5 a0_6 true _ A12.out).mono ?_); rintro e w18 ⟨rfl, hb⟩; replace BK140 := Aside0.mk (bb_ BK140.out hb); replace HB := Aside0.mk (below_step (hs_) hb); (try clear hb); (try clear hb2); (try clear hk); (try clear hi); obtain ⟨hcz19_0, hcz19_1, hcz19_2, hcz19_3, hcz19_4, hcz19_5, hcz19_6, hcz19_7, hfz19_0, hfz19_1, hfz19_2, hfz19_3, hfz19_4, hfz19_5, hfz19_6, hfz19_7⟩ := bc8 BK140.out) | (go_at_call 68; (with_reducible refine (strings_Contains2.calls a0_7 (⟨#[0]⟩ : ByteArray) t145 _ ?side1 A14.out).mono ?_); (case side1 => exact GV.below hgv (hs_)); rintro e w' ⟨rfl, ⟨nd, rfl⟩⟩))
      go_meet
      case rel => exact ⟨_, (t145), z1_, H', ⟨z5_⟩, ⟨bk_ BK140.out⟩, ⟨hs_⟩⟩
     ·replace c13 := Bool.eq_false_iff.mpr c13
      subst c13
      have H1 : (commit_CheckTag.j0 k true a0_0 a0_1 a0_2 a0_3 a0_4 a0_5 a0_6 a0_7) = some r := by rw [if_neg (show ¬ (false = true) by decide)] at H; exact H
      clear H
      have H := H1
      clear H1
      have H' := Aside0.mk H
      clear H
      obtain ⟨hcz20_0, hcz20_1, hcz20_2, hcz20_3, hcz20_4, hcz20_5, hcz20_6, hcz20_7, hfz20_0, hfz20_1, hfz20_2, hfz20_3, hfz20_4, hfz20_5, hfz20_6, hfz20_7⟩ := bc8 BK140.out
      go_wp2_with (first | ((with_reducible refine gate_callee (f := 65) rfl ?_); refine goesL_ (some 5) rfl rfl Tryz.func65 (by kernel_rfl) rfl #[.string a0_0] rfl z2_ ?_; (with_reducible refine (ident_Is.calls k a0_0 true _ A4.out).mono ?_); rintro e w' ⟨rfl, ⟨nd, rfl⟩⟩; refine ⟨_, rfl, ?_⟩) | (go_at_call 79; (with_reducible refine (object_Word.calls a0_1 t142 _ A6.out).mono ?_); rintro e w21 ⟨rfl, hb⟩; replace BK140 := Aside0.mk (bb_ BK140.out hb); replace HB := Aside0.mk (below_step (hs_) hb); (try clear hb); (try clear hb2); (try clear hk); (try clear hi); obtain ⟨hcz22_0, hcz22_1, hcz22_2, hcz22_3, hcz22_4, hcz22_5, hcz22_6, hcz22_7, hfz22_0, hfz22_1, hfz22_2, hfz22_3, hfz22_4, hfz22_5, hfz22_6, hfz22_7⟩ := bc8 BK140.out) | (go_at_call 81; (with_reducible refine (commit_tagged.calls k a0_2 true _ A10.out).mono ?_); rintro e w' ⟨rfl, ⟨nd, rfl⟩⟩) | (go_at_call 67; (with_reducible refine (commit_somebody.calls k a0_3 a0_4 a0_5 a0_6 false _ A12.out).mono ?_); rintro e w23 ⟨rfl, hb⟩; replace BK140 := Aside0.mk (bb_ BK140.out hb); replace HB := Aside0.mk (below_step (hs_) hb); (try clear hb); (try clear hb2); (try clear hk); (try clear hi)))
      go_meet
      case rel => exact ⟨_, (true), z1_, H', ⟨z5_⟩, ⟨bk_ BK140.out⟩, ⟨hs_⟩⟩
    ·replace c11 := Bool.eq_false_iff.mpr c11
     subst c11
     have H1 : (commit_CheckTag.j0 k true a0_0 a0_1 a0_2 a0_3 a0_4 a0_5 a0_6 a0_7) = some r := by rw [if_neg (show ¬ (false = true) by decide)] at H; exact H
     clear H
     have H := H1
     clear H1
     have H' := Aside0.mk H
     clear H
     obtain ⟨hcz24_0, hcz24_1, hcz24_2, hcz24_3, hcz24_4, hcz24_5, hcz24_6, hcz24_7, hfz24_0, hfz24_1, hfz24_2, hfz24_3, hfz24_4, hfz24_5, hfz24_6, hfz24_7⟩ := bc8 BK140.out
     go_wp2_with (first | ((with_reducible refine gate_callee (f := 65) rfl ?_); refine goesL_ (some 5) rfl rfl Tryz.func65 (by kernel_rfl) rfl #[.string a0_0] rfl z2_ ?_; (with_reducible refine (ident_Is.calls k a0_0 true _ A4.out).mono ?_); rintro e w' ⟨rfl, ⟨nd, rfl⟩⟩; refine ⟨_, rfl, ?_⟩) | (go_at_call 79; (with_reducible refine (object_Word.calls a0_1 t142 _ A6.out).mono ?_); rintro e w25 ⟨rfl, hb⟩; replace BK140 := Aside0.mk (bb_ BK140.out hb); replace HB := Aside0.mk (below_step (hs_) hb); (try clear hb); (try clear hb2); (try clear hk); (try clear hi); obtain ⟨hcz26_0, hcz26_1, hcz26_2, hcz26_3, hcz26_4, hcz26_5, hcz26_6, hcz26_7, hfz26_0, hfz26_1, hfz26_2, hfz26_3, hfz26_4, hfz26_5, hfz26_6, hfz26_7⟩ := bc8 BK140.out) | (go_at_call 81; (with_reducible refine (commit_tagged.calls k a0_2 false _ A10.out).mono ?_); rintro e w' ⟨rfl, ⟨nd, rfl⟩⟩))
     go_meet
     case rel => exact ⟨_, (true), z1_, H', ⟨z5_⟩, ⟨bk_ BK140.out⟩, ⟨hs_⟩⟩
  ·replace c5 := Bool.eq_false_iff.mpr c5
   subst c5
   have H1 : (commit_CheckTag.j0 k true a0_0 a0_1 a0_2 a0_3 a0_4 a0_5 a0_6 a0_7) = some r := by rw [if_neg (show ¬ (false = true) by decide)] at H; exact H
   clear H
   have H := H1
   clear H1
   have H' := Aside0.mk H
   clear H
   obtain ⟨hcz27_0, hcz27_1, hcz27_2, hcz27_3, hcz27_4, hcz27_5, hcz27_6, hcz27_7, hfz27_0, hfz27_1, hfz27_2, hfz27_3, hfz27_4, hfz27_5, hfz27_6, hfz27_7⟩ := bc8 BK140.out
   go_wp2_with (first | ((with_reducible refine gate_callee (f := 65) rfl ?_); refine goesL_ (some 5) rfl rfl Tryz.func65 (by kernel_rfl) rfl #[.string a0_0] rfl z2_ ?_; (with_reducible refine (ident_Is.calls k a0_0 false _ A4.out).mono ?_); rintro e w' ⟨rfl, ⟨nd, rfl⟩⟩; refine ⟨_, rfl, ?_⟩))
   go_meet
   case rel => exact ⟨_, (true), z1_, H', ⟨z5_⟩, ⟨bk_ BK140.out⟩, ⟨hs_⟩⟩
 case rest =>
  clear HC2
  try clear c1
  try clear c2
  try clear p2
  try clear c5
  try clear c6
  try clear c7
  try clear c7b0
  try clear c7b1
  try clear c11
  try clear c13
  try clear c27
  try clear hcz15_0 hcz15_1 hcz15_2 hcz15_3 hcz15_4 hcz15_5 hcz15_6 hcz15_7
  try clear hcz17_0 hcz17_1 hcz17_2 hcz17_3 hcz17_4 hcz17_5 hcz17_6 hcz17_7
  try clear hcz19_0 hcz19_1 hcz19_2 hcz19_3 hcz19_4 hcz19_5 hcz19_6 hcz19_7
  try clear hcz20_0 hcz20_1 hcz20_2 hcz20_3 hcz20_4 hcz20_5 hcz20_6 hcz20_7
  try clear hcz22_0 hcz22_1 hcz22_2 hcz22_3 hcz22_4 hcz22_5 hcz22_6 hcz22_7
  try clear hcz24_0 hcz24_1 hcz24_2 hcz24_3 hcz24_4 hcz24_5 hcz24_6 hcz24_7
  try clear hcz26_0 hcz26_1 hcz26_2 hcz26_3 hcz26_4 hcz26_5 hcz26_6 hcz26_7
  try clear hcz27_0 hcz27_1 hcz27_2 hcz27_3 hcz27_4 hcz27_5 hcz27_6 hcz27_7
  try clear hcz8_0 hcz8_1 hcz8_2 hcz8_3 hcz8_4 hcz8_5 hcz8_6 hcz8_7
  try clear hfz15_0 hfz15_1 hfz15_2 hfz15_3 hfz15_4 hfz15_5 hfz15_6 hfz15_7
  try clear hfz17_0 hfz17_1 hfz17_2 hfz17_3 hfz17_4 hfz17_5 hfz17_6 hfz17_7
  try clear hfz19_0 hfz19_1 hfz19_2 hfz19_3 hfz19_4 hfz19_5 hfz19_6 hfz19_7
  try clear hfz20_0 hfz20_1 hfz20_2 hfz20_3 hfz20_4 hfz20_5 hfz20_6 hfz20_7
  try clear hfz22_0 hfz22_1 hfz22_2 hfz22_3 hfz22_4 hfz22_5 hfz22_6 hfz22_7
  try clear hfz24_0 hfz24_1 hfz24_2 hfz24_3 hfz24_4 hfz24_5 hfz24_6 hfz24_7
  try clear hfz26_0 hfz26_1 hfz26_2 hfz26_3 hfz26_4 hfz26_5 hfz26_6 hfz26_7
  try clear hfz27_0 hfz27_1 hfz27_2 hfz27_3 hfz27_4 hfz27_5 hfz27_6 hfz27_7
  try clear hfz8_0 hfz8_1 hfz8_2 hfz8_3 hfz8_4 hfz8_5 hfz8_6 hfz8_7
  obtain ⟨kq, x29_1, rfl, HA, HJ1, BK140, HB⟩ := hcut
  cases kq with
  | zero => exact absurd HA.out (by simp [commit_CheckTag.j0])
  | succ kj1 =>
   have H := HA.out
   clear HA
   simp only [commit_CheckTag.j0] at H
   by_cases c28 : x29_1 = true
   ·subst c28
    have H1 : (some 1) = some r := by rw [if_pos rfl] at H; exact H
    clear H
    have H := H1
    clear H1
    obtain rfl := Option.some.inj H
    go_wp2
    go_ret
    exact ⟨z4_, hs_⟩
   ·replace c28 := Bool.eq_false_iff.mpr c28
    subst c28
    have H1 : (if (a0_7.size : Int) > 4096 then (some 4) else (some 0)) = some r := by rw [if_neg (show ¬ (false = true) by decide)] at H; exact H
    clear H
    have H := H1
    clear H1
    by_cases c29 : (a0_7.size : Int) > 4096
    ·rw [if_pos c29] at H
     have c29b0 := decide_eq_true c29
     have c29b1 : decide (4096 < a0_7.size) = true := decide_eq_true (by omega)
     clear c29
     obtain rfl := Option.some.inj H
     obtain ⟨hcz30_0, hcz30_1, hcz30_2, hcz30_3, hcz30_4, hcz30_5, hcz30_6, hcz30_7, hfz30_0, hfz30_1, hfz30_2, hfz30_3, hfz30_4, hfz30_5, hfz30_6, hfz30_7⟩ := bc8 BK140.out
     go_wp2
     go_ret
     exact ⟨z4_, hs_⟩
    ·rw [if_neg c29] at H
     have c29b0 := decide_eq_false c29
     have c29b1 : decide (4096 < a0_7.size) = false := decide_eq_false (by omega)
     clear c29
     obtain rfl := Option.some.inj H
     obtain ⟨hcz31_0, hcz31_1, hcz31_2, hcz31_3, hcz31_4, hcz31_5, hcz31_6, hcz31_7, hfz31_0, hfz31_1, hfz31_2, hfz31_3, hfz31_4, hfz31_5, hfz31_6, hfz31_7⟩ := bc8 BK140.out
     go_wp2
     go_ret
     exact ⟨z4_, hs_⟩

end Go.Proofs.YtbhfbbfjdklfgaaGreatDoor.Q


