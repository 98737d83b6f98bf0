/- The law BitmapAsks holds: for every input it returns true, and each argument reads afterwards as it read before. -/
import Derived.Test.YtibnkopdkfjgpaaMYBitmapAsks1
import Derived.Test.YtibnkopdkfjgpaaMBitmapAsks1
import Derived.Laws.Cover1
set_option linter.unusedVariables false
set_option linter.unusedSimpArgs false
namespace Go.Proofs.Ytibnkopdkfjgpaa.Q
open Go.RowKit Go.Proofs.YtibnkopdkfjgpaaW.PrintWords Go.Proofs.YtibnkopdkfjgpaaW.PrintLast Go.Proofs.YtibnkopdkfjgpaaW.PrintMore
attribute [local go_sem] max2_int min2_int max_two min_two max_three min_three max_four min_four   -- for this text's walks alone

mutual
def graftageref01_Take.j0 : Nat → ByteArray → Int → Bool → Option (Int × Int × Int)
 | 0, _, _, _ => none
 | k + 1, x0, x1, x17 => if x17 = true then (some (0, 0, 1)) else (graftageref01_Take.l0 k x0 x1 0 0)
def graftageref01_Take.l0 : Nat → ByteArray → Int → Int → Int → Option (Int × Int × Int)
 | 0, _, _, _, _ => none
 | k + 1, x0, x1, x7, x8 => if x8 < 10 then (if (wrap64 (x1 + x8)) ≥ (x0.size : Int) then (some (0, 0, 3)) else (if 0 ≤ (wrap64 (x1 + x8)) then (if (wrap64 (x1 + x8)) < (x0.size : Int) then (if x8 = 9 then (if (bt x0 (wrap64 (x1 + x8))) > 1 then (graftageref01_Take.j2 k x0 x1 x7 x8 (bt x0 (wrap64 (x1 + x8))) true) else (if x8 > 0 then (graftageref01_Take.j2 k x0 x1 x7 x8 (bt x0 (wrap64 (x1 + x8))) ((bt x0 (wrap64 (x1 + x8))) == 0)) else (graftageref01_Take.j2 k x0 x1 x7 x8 (bt x0 (wrap64 (x1 + x8))) false))) else (if x8 > 0 then (graftageref01_Take.j2 k x0 x1 x7 x8 (bt x0 (wrap64 (x1 + x8))) ((bt x0 (wrap64 (x1 + x8))) == 0)) else (graftageref01_Take.j2 k x0 x1 x7 x8 (bt x0 (wrap64 (x1 + x8))) false))) else (none)) else (none))) else (some (0, 0, 2))
def graftageref01_Take.j2 : Nat → ByteArray → Int → Int → Int → Int → Bool → Option (Int × Int × Int)
 | 0, _, _, _, _, _, _ => none
 | k + 1, x0, x1, x7, x8, x9, x46 => if x46 = true then (some (0, 0, 2)) else (if 0 ≤ (wrap64 (7 * x8)) then (if x9 < 128 then (some (IntKind.u64.wrap (x7 + (shl .u64 (IntKind.u64.wrap (Int.tmod x9 128)) (wrap64 (7 * x8)))), wrap64 ((wrap64 (x1 + x8)) + 1), 0)) else (graftageref01_Take.l0 k x0 x1 (IntKind.u64.wrap (x7 + (shl .u64 (IntKind.u64.wrap (Int.tmod x9 128)) (wrap64 (7 * x8))))) (wrap64 (x8 + 1)))) else (none))
end
def graftageref01_Take.f (k : Nat) (a0 : ByteArray) (a1 : Int) : Option (Int × Int × Int) := if a1 < 0 then (graftageref01_Take.j0 k a0 a1 true) else (graftageref01_Take.j0 k a0 a1 (decide (a1 > (a0.size : Int))))
set_option maxHeartbeats 8000000 in
set_option maxRecDepth 100000 in
theorem graftageref01_Take.calls (k : Nat) (a0 : ByteArray) (a1 : Int) (r1 : Int) (r2 : Int) (r3 : Int) (w : World) (h : graftageref01_Take.f k a0 a1 = some (r1, r2, r3)) :
  Calls Try.prog 67 #[.string a0, .int .i64 a1] w fun e w' => e = .returned (.tuple #[.int .u64 r1, .int .i64 r2, .int .i64 r3]) ∧ Drawn0 w w' := by
 unfold graftageref01_Take.f at h; have H := h; clear h; have HC3 := Aside0.mk H; clear H; go_enter Try.func67, Try.ntmps67; go_upto_region 1 with (fail)
 go_cut [17] (fun v17 wc => ∃ (kq : Nat) (x17_2 : Bool), v17 = .bool x17_2 ∧ Aside0 (graftageref01_Take.j0 kq a0 a1 x17_2 = some (r1, r2, r3)) ∧ Aside0 (kq ≤ k) ∧ Drawn0 w wc)
 case first =>
  have H := HC3.out; clear HC3; by_cases c4 : a1 < 0
  ·rw [if_pos c4] at H; have c4b0 := dt_ c4; clear c4; (first | rw [c4b0] | (simp only [i64_w, i32_w]; rw [c4b0]) | skip); (try rw [c4b8])
   have H' := Aside0.mk H; clear H; go_wp2
   go_meet
   case rel => exact ⟨_, (true), z0_, H', ⟨z6_⟩, z3_⟩
  rw [if_neg c4] at H; have c4b0 := df_ c4; clear c4; (first | rw [c4b0] | (simp only [i64_w, i32_w]; rw [c4b0]) | skip); (try rw [c4b8])
  have H' := Aside0.mk H; clear H; go_wp2
  go_meet
  case rel => exact ⟨_, (decide (a1 > (a0.size : Int))), z0_, H', ⟨z6_⟩, z3_⟩
 case rest =>
  clear HC3; try clear p2
  try clear c4
  try clear c4b0
  obtain ⟨kq, x17_2, rfl, HA, HJ2, ⟨mc2, rfl⟩⟩ := hcut
  cases kq with
  | zero => exact absurd HA.out (by simp [graftageref01_Take.j0])
  | succ kj2 =>
   have H := HA.out; clear HA; simp only [graftageref01_Take.j0] at H; by_cases c5 : x17_2 = true
   ·subst c5; rw [if_pos rfl] at H; obtain ⟨rfl, rfl, rfl⟩ := pj3_ H; go_wp2
    go_ret3
    exact ⟨z0_, z3_⟩
   replace c5 := Bool.eq_false_iff.mpr c5; subst c5; rw [if_neg nft_] at H; have H' := Aside0.mk H; clear H; go_wp2
   go_loopg [7, 8] kj2 (fun kq v7 v8 w' => ∃ (x7_2 : Int) (x8_2 : Int), v7 = .int .u64 x7_2 ∧ v8 = .int .i64 x8_2 ∧ Aside0 (graftageref01_Take.l0 kq a0 a1 x7_2 x8_2 = some (r1, r2, r3)) ∧ Aside0 (kq ≤ kj2) ∧ Drawn0 w w')
   case atStart => exact ⟨(0), (0), z0_, z0_, H', ⟨Nat.le_refl _⟩, z3_⟩
   case round =>
    clear H'; try clear c2
    try clear p2
    try clear c4
    try clear c4b0
    try clear c5
    try clear p2
    obtain ⟨x7_2, x8_2, rfl, rfl, HA, HK2, ⟨m2, rfl⟩⟩ := hrel
    cases gk with
    | zero => exact absurd HA.out (by simp [graftageref01_Take.l0])
    | succ k2 =>
     have H := HA.out; clear HA; simp only [graftageref01_Take.l0] at H; by_cases c6 : x8_2 < 10; rotate_left
     ·rw [if_neg c6] at H; have c6b0 := df_ c6; clear c6; obtain ⟨rfl, rfl, rfl⟩ := pj3_ H; go_wp2
      go_ret3
      exact ⟨z0_, z3_⟩
     rw [if_pos c6] at H; have c6b0 := dt_ c6; clear c6; by_cases c7 : (wrap64 (a1 + x8_2)) ≥ (a0.size : Int)
     ·rw [if_pos c7] at H; have c7b0 := dt_ c7; clear c7; obtain ⟨rfl, rfl, rfl⟩ := pj3_ H; go_wp2
      go_ret3
      exact ⟨z0_, z3_⟩
     rw [if_neg c7] at H; have c7b0 := df_ c7; clear c7; obtain ⟨ji8, hji8⟩ : ∃ j_ : Int, (wrap64 (a1 + x8_2)) = j_ := ⟨_, rfl⟩; replace H : (if 0 ≤ (ji8) then (if (ji8) < (a0.size : Int) then (if x8_2 = 9 then (if (bt a0 (ji8)) > 1 then (graftageref01_Take.j2 k2 a0 a1 x7_2 x8_2 (bt a0 (ji8)) true) else (if x8_2 > 0 then (graftageref01_Take.j2 k2 a0 a1 x7_2 x8_2 (bt a0 (ji8)) ((bt a0 (ji8)) == 0)) else (graftageref01_Take.j2 k2 a0 a1 x7_2 x8_2 (bt a0 (ji8)) false))) else (if x8_2 > 0 then (graftageref01_Take.j2 k2 a0 a1 x7_2 x8_2 (bt a0 (ji8)) ((bt a0 (ji8)) == 0)) else (graftageref01_Take.j2 k2 a0 a1 x7_2 x8_2 (bt a0 (ji8)) false))) else (none)) else (none)) = some (r1, r2, r3) := by first | (rw [hji8] at H; exact H) | (simp only [hji8] at H ⊢; exact H)
     (try rw [hji8] at c7b0)
     have hji8w : (IntKind.i64.wrap (a1 + x8_2)) = ji8 := (i64_w _).trans hji8; by_cases c9 : 0 ≤ (ji8); rotate_left
     ·rw [if_neg c9] at H; exact no_ H
     rw [if_pos c9] at H; have c9b0 := dt_ c9; clear c9; by_cases c10 : (ji8) < (a0.size : Int); rotate_left
     ·rw [if_neg c10] at H; exact no_ H
     rw [if_pos c10] at H; have c10b0 := dt_ c10; clear c10; have HC12 := Aside0.mk H; clear H; have p11 : 0 ≤ ((ji8) : Int) := y0_; have q11 : (ji8) < (a0.size : Int) := y0_; have hx11 := bt_at a0 (ji8); replace p11 := eq_true p11; replace q11 := eq_true q11; go_upto_region 10 with (fail)
     go_cut [46] (fun v46 wc => ∃ (kq : Nat) (x46_11 : Bool), v46 = .bool x46_11 ∧ Aside0 (graftageref01_Take.j2 kq a0 a1 x7_2 x8_2 (bt a0 (ji8)) x46_11 = some (r1, r2, r3)) ∧ Aside0 (kq ≤ k2) ∧ Drawn0 w wc)
     case first =>
      have H := HC12.out; clear HC12; by_cases c13 : x8_2 = 9; rotate_left
      ·rw [if_neg c13] at H; have c13b0 := ef_ c13; have c13b1 := nt_ c13; (first | rw [c13b0] | (simp only [i64_w, i32_w]; rw [c13b0]) | skip); (try rw [c13b8])
       by_cases c16 : x8_2 > 0
       ·rw [if_pos c16] at H; have c16b0 := dt_ c16; clear c16; have H' := Aside0.mk H; clear H; go_wp2
        go_meet
        case rel => exact ⟨_, (((bt a0 (ji8)) == 0)), (by first | rfl | (simp; done) | (simp only [← hji8] <;> (first | rfl | simp)) | (simp [*]; done)), H', ⟨by have := HJ2.out; have := HK2.out; first | omega | exact Nat.le_refl _⟩, z3_⟩
       rw [if_neg c16] at H; have c16b0 := df_ c16; clear c16; have H' := Aside0.mk H; clear H; go_wp2
       (try subst hji8)
       go_meet
       case rel => exact ⟨_, (false), z0_, H', ⟨by have := HJ2.out; have := HK2.out; first | omega | exact Nat.le_refl _⟩, z3_⟩
      rw [if_pos c13] at H; have c13b0 := et_ c13; have c13b1 := nf_ c13; clear c13; (first | rw [c13b0] | (simp only [i64_w, i32_w]; rw [c13b0]) | skip); (try rw [c13b8])
      by_cases c14 : (bt a0 (ji8)) > 1
      ·rw [if_pos c14] at H; have c14b0 := dt_ c14; clear c14; have H' := Aside0.mk H; clear H; go_wp2
       (try subst hji8)
       go_meet
       case rel => exact ⟨_, (true), z0_, H', ⟨by have := HJ2.out; have := HK2.out; first | omega | exact Nat.le_refl _⟩, z3_⟩
      rw [if_neg c14] at H; have c14b0 := df_ c14; clear c14; by_cases c15 : x8_2 > 0
      ·rw [if_pos c15] at H; have c15b0 := dt_ c15; clear c15; have H' := Aside0.mk H; clear H; go_wp2
       go_meet
       case rel => exact ⟨_, (((bt a0 (ji8)) == 0)), (by first | rfl | (simp; done) | (simp only [← hji8] <;> (first | rfl | simp)) | (simp [*]; done)), H', ⟨by have := HJ2.out; have := HK2.out; first | omega | exact Nat.le_refl _⟩, z3_⟩
      rw [if_neg c15] at H; have c15b0 := df_ c15; clear c15; have H' := Aside0.mk H; clear H; go_wp2
      (try subst hji8)
      go_meet
      case rel => exact ⟨_, (false), z0_, H', ⟨by have := HJ2.out; have := HK2.out; first | omega | exact Nat.le_refl _⟩, z3_⟩
     case rest =>
      clear HC12; try clear c1
      try clear p1
      try clear q1
      try clear hx1
      try clear c2
      try clear p2
      try clear c4
      try clear c4b0
      try clear c5
      try clear c6
      try clear c6b0
      try clear p6
      try clear c7
      try clear c7b0
      try clear c9
      try clear c9b0
      try clear c10
      try clear c10b0
      try clear p11
      try clear q11
      try clear hx11
      try clear c13
      try clear c13b0
      try clear c13b1
      try clear c14
      try clear c14b0
      try clear c15
      try clear c15b0
      try clear c16
      try clear c16b0
      try clear p11
      try clear p2
      try clear q11
      obtain ⟨kq, x46_11, rfl, HA, HJ11, ⟨mc11, rfl⟩⟩ := hcut
      cases kq with
      | zero => exact absurd HA.out (by simp [graftageref01_Take.j2])
      | succ kj11 =>
       have H := HA.out; clear HA; simp only [graftageref01_Take.j2] at H; by_cases c17 : x46_11 = true
       ·subst c17; rw [if_pos rfl] at H; obtain ⟨rfl, rfl, rfl⟩ := pj3_ H; go_wp2
        go_ret3
        exact ⟨by first | rfl | (simp; done) | (simp only [← hji8] <;> (first | rfl | simp)) | (simp [*]; done), z3_⟩
       replace c17 := Bool.eq_false_iff.mpr c17; subst c17; rw [if_neg nft_] at H; obtain ⟨ji18, hji18⟩ : ∃ j_ : Int, (wrap64 (7 * x8_2)) = j_ := ⟨_, rfl⟩; replace H : (if 0 ≤ (ji18) then (if (bt a0 (ji8)) < 128 then (some (IntKind.u64.wrap (x7_2 + (shl .u64 (IntKind.u64.wrap (Int.tmod (bt a0 (ji8)) 128)) (ji18))), wrap64 ((wrap64 (a1 + x8_2)) + 1), 0)) else (graftageref01_Take.l0 kj11 a0 a1 (IntKind.u64.wrap (x7_2 + (shl .u64 (IntKind.u64.wrap (Int.tmod (bt a0 (ji8)) 128)) (ji18)))) (wrap64 (x8_2 + 1)))) else (none)) = some (r1, r2, r3) := by first | (rw [hji18] at H; exact H) | (simp only [hji18] at H ⊢; exact H)
       have hji18w : (IntKind.i64.wrap (7 * x8_2)) = ji18 := (i64_w _).trans hji18; by_cases c19 : 0 ≤ (ji18); rotate_left
       ·rw [if_neg c19] at H; exact no_ H
       rw [if_pos c19] at H; have c19b0 := eq_true c19; have c19b1 := dt_ c19; clear c19; obtain ⟨ji20, hji20⟩ : ∃ j_ : Int, (shl .u64 (IntKind.u64.wrap (Int.tmod (bt a0 (ji8)) 128)) (ji18)) = j_ := ⟨_, rfl⟩; replace H : (if (bt a0 (ji8)) < 128 then (some (IntKind.u64.wrap (x7_2 + (ji20)), wrap64 ((wrap64 (a1 + x8_2)) + 1), 0)) else (graftageref01_Take.l0 kj11 a0 a1 (IntKind.u64.wrap (x7_2 + (ji20))) (wrap64 (x8_2 + 1)))) = some (r1, r2, r3) := by first | (rw [hji20] at H; exact H) | (simp only [hji20] at H ⊢; exact H)
       have hji20_ : (IntKind.u64.wrap ((IntKind.u64.wrap (Int.tmod (bt a0 (ji8)) 128)) * 2 ^ min (ji18).toNat 64)) = ji20 := hji20; have hji20z : (ji18) ≤ 64 → (IntKind.u64.wrap ((IntKind.u64.wrap (Int.tmod (bt a0 (ji8)) 128)) * 2 ^ (ji18).toNat)) = ji20 := shl_small hji20; by_cases c21 : (bt a0 (ji8)) < 128
       ·rw [if_pos c21] at H; have c21b0 := dt_ c21; clear c21; obtain ⟨rfl, rfl, rfl⟩ := pj3_ H; go_wp2
        go_ret3
        exact ⟨by first | rfl | (simp; done) | (simp only [← hji8, ← hji18, ← hji20] <;> (first | rfl | simp)) | (simp [*]; done), z3_⟩
       rw [if_neg c21] at H; have c21b0 := df_ c21; clear c21; have H' := Aside0.mk H; clear H; go_wp2
       go_roundg kj11
       case measure => have := HJ2.out; have := HK2.out; have := HJ11.out; omega
       case rel => exact ⟨(IntKind.u64.wrap (x7_2 + (ji20))), (wrap64 (x8_2 + 1)), (by first | rfl | (simp; done) | (simp only [← hji20] <;> (first | rfl | simp)) | (simp [*]; done)), z0_, H', ⟨by have := HJ2.out; have := HK2.out; have := HJ11.out; omega⟩, z3_⟩


def graftageref27_number.f (k : Nat) (a0 : ByteArray) (a1 : Int) (a2 : Int) : Option (Int × Int) := (graftageref01_Take.f k a0 a1).bind fun bt105 => (if bt105.2.2 = 0 then (if bt105.1 > (IntKind.u64.wrap (a2)) then (some (0, (-1))) else (some (wrap64 (bt105.1), bt105.2.1))) else (some (0, (-1))))
set_option maxHeartbeats 8000000 in
set_option maxRecDepth 100000 in
theorem graftageref27_number.calls (k : Nat) (a0 : ByteArray) (a1 : Int) (a2 : Int) (r1 : Int) (r2 : Int) (w : World) (h : graftageref27_number.f k a0 a1 a2 = some (r1, r2)) :
  Calls Try.prog 53 #[.string a0, .int .i64 a1, .int .i64 a2] w fun e w' => e = .returned (.tuple #[.int .i64 r1, .int .i64 r2]) ∧ Drawn0 w w' := by
 unfold graftageref27_number.f at h; have H := h; clear h; obtain ⟨⟨t105, t106, t107⟩, A4, H⟩ := bx_ H; dsimp only at H; by_cases c5 : t107 = 0; rotate_left
 ·rw [if_neg c5] at H; have c5b0 := ef_ c5; have c5b1 := nt_ c5; obtain ⟨rfl, rfl⟩ := pj2_ H; go_enter Try.func53, Try.ntmps53; go_wp2_with (first | ((with_reducible refine gate_callee (f := 67) rfl ?_); refine gl_ (some 14) Try.func67 #[.string a0, .int .i64 a1] ?_; refine cm_ (graftageref01_Take.calls k a0 a1 t105 t106 t107 _ A4.out) ?_; rintro w' ⟨nd, rfl⟩)); go_ret2
  exact ⟨z0_, z3_⟩
 rw [if_pos c5] at H; have c5b0 := et_ c5; have c5b1 := nf_ c5; clear c5; by_cases c6 : t105 > (IntKind.u64.wrap (a2))
 ·rw [if_pos c6] at H; have c6b0 := dt_ c6; clear c6; obtain ⟨rfl, rfl⟩ := pj2_ H; go_enter Try.func53, Try.ntmps53; go_wp2_with (first | ((with_reducible refine gate_callee (f := 67) rfl ?_); refine gl_ (some 14) Try.func67 #[.string a0, .int .i64 a1] ?_; refine cm_ (graftageref01_Take.calls k a0 a1 t105 t106 t107 _ A4.out) ?_; rintro w' ⟨nd, rfl⟩)); go_ret2
  exact ⟨z0_, z3_⟩
 rw [if_neg c6] at H; have c6b0 := df_ c6; clear c6; obtain ⟨rfl, rfl⟩ := pj2_ H; go_enter Try.func53, Try.ntmps53; go_wp2_with (first | ((with_reducible refine gate_callee (f := 67) rfl ?_); refine gl_ (some 14) Try.func67 #[.string a0, .int .i64 a1] ?_; refine cm_ (graftageref01_Take.calls k a0 a1 t105 t106 t107 _ A4.out) ?_; rintro w' ⟨nd, rfl⟩)); go_ret2
 exact ⟨z0_, z3_⟩


mutual
def graftageref27_pick.j0 : Nat → ByteArray → Int → Int → Int → Bool → Option (Int × Int × List Int × Int)
 | 0, _, _, _, _, _ => none
 | k + 1, x0, x2, x9, x10, x31 => if x31 = true then (some (0, 0, ([] : List Int), (-1))) else ((graftageref27_number.f k x0 x10 (wrap64 (x2 + 1))).bind fun bt119 => (graftageref27_pick.l0 k x0 x2 x9 bt119.1 bt119.2 ([] : List Int) 0 x2))
def graftageref27_pick.j2 : Nat → Int → Int → List Int → Int → Option (Int × Int × List Int × Int)
 | 0, _, _, _, _ => none
 | k + 1, x9, x12, x14, x122000 => if x12 < 0 then (some (0, 0, ([] : List Int), (-1))) else ((graftageref27_Right.f k x122000 x14).bind fun t127 => (if t127 = true then ((graftageref27_List.f k x122000 x14).bind fun t128 => ((graftageref27_Has.f k t128 x9).bind fun t131 => (if t131 = true then (some (x9, x122000, x14, x12)) else (some (0, 0, ([] : List Int), (-1)))))) else (some (0, 0, ([] : List Int), (-1)))))
def graftageref27_pick.l0 : Nat → ByteArray → Int → Int → Int → Int → List Int → Int → Int → Option (Int × Int × List Int × Int)
 | 0, _, _, _, _, _, _, _, _ => none
 | k + 1, x0, x2, x9, x11, x12, x14, x15, x122000 => if x12 ≥ 0 then (if x15 < x11 then ((graftageref27_number.f k x0 x12 x2).bind fun bt122 => (if x14.length < 17592186044416 then (graftageref27_pick.l0 k x0 x2 x9 x11 bt122.2 (x14 ++ [bt122.1]) (wrap64 (x15 + 1)) x122000) else (none))) else (graftageref27_pick.j2 k x9 x12 x14 x122000)) else (graftageref27_pick.j2 k x9 x12 x14 x122000)
end
def graftageref27_pick.f (k : Nat) (a0 : ByteArray) (a1 : Int) (a2 : Int) : Option (Int × Int × List Int × Int) := (graftageref27_number.f k a0 a1 (wrap64 (a2 - 1))).bind fun bt117 => (if bt117.2 < 0 then (graftageref27_pick.j0 k a0 a2 bt117.1 bt117.2 true) else (graftageref27_pick.j0 k a0 a2 bt117.1 bt117.2 (a2 == 0)))
set_option maxHeartbeats 8000000 in
set_option maxRecDepth 100000 in
theorem graftageref27_pick.calls (k : Nat) (a0 : ByteArray) (a1 : Int) (a2 : Int) (r1 : Int) (r2 : Int) (r3 : List Int) (r4 : Int) (w : World) (h : graftageref27_pick.f k a0 a1 a2 = some (r1, r2, r3, r4)) :
  Calls Try.prog 56 #[.string a0, .int .i64 a1, .int .i64 a2] w fun e w' => ∃ v2_ : Value, e = .returned (.tuple #[.int .i64 r1, .agg #[.int .i64 r2, v2_], .int .i64 r4]) ∧ Kd.R (Kd.int .i64) 3 w' w.heap.size (fun _ => True) v2_ r3 ∧ Below w.heap.size w w' := by
 have hu25 := Try.underlying25; have HB := Aside0.mk (Below.refl w.heap.size w); unfold graftageref27_pick.f at h; have H := h; clear h; obtain ⟨⟨t117, t118⟩, A4, H⟩ := bx_ H; dsimp only at H; have HC5 := Aside0.mk H; clear H; go_enter Try.func56, Try.ntmps56; go_upto_region 2 with (first | ((with_reducible refine gate_dst (N := 7) rfl ?_); refine be_ (cs := #[.int .i64 0, .slice none 0 0]) (t := 25) ?_; intro gb116 hg w6 hbox hb; have BK116 := Aside0.mk (hbox); have GW116 := ag_ hg HB; have GE116 := ag_ hg HB; replace HB := ah_ HB hb; clear hb hbox hg) | ((with_reducible refine gate_callee (f := 53) rfl ?_); refine gl_ (some 23) Try.func53 #[.string a0, .int .i64 a1, .int .i64 (wrap64 (a2 - 1))] ?_; refine cm_ (graftageref27_number.calls k a0 a1 (wrap64 (a2 - 1)) t117 t118 _ A4.out) ?_; rintro w' ⟨nd, rfl⟩)); (try simp only [Act.put, List.setIfInBounds_toArray, List.set_cons_zero, List.set_cons_succ])
 go_cut [31] (fun v31 wc => ∃ (kq : Nat) (x31_4 : Bool), v31 = .bool x31_4 ∧ Aside0 (graftageref27_pick.j0 kq a0 a2 t117 t118 x31_4 = some (r1, r2, r3, r4)) ∧ Aside0 (kq ≤ k) ∧ Aside0 (wc.heap[gb116]? = some (.cells #[.int .i64 0, (.slice none 0 0)] 25 (0, 0))) ∧ Aside0 (Below w.heap.size w wc))
 case first =>
  have H := HC5.out; clear HC5; by_cases c7 : t118 < 0
  ·rw [if_pos c7] at H; have c7b0 := dt_ c7; clear c7; (first | rw [c7b0] | (simp only [i64_w, i32_w]; rw [c7b0]) | skip); (try rw [c7b8])
   have H' := Aside0.mk H; clear H; go_wp2
   go_meet
   case rel => exact ⟨_, (true), z0_, H', ⟨z6_⟩, ⟨bk_ BK116.out⟩, ⟨hs_⟩⟩
  rw [if_neg c7] at H; have c7b0 := df_ c7; clear c7; (first | rw [c7b0] | (simp only [i64_w, i32_w]; rw [c7b0]) | skip); (try rw [c7b8])
  have H' := Aside0.mk H; clear H; go_wp2
  go_meet
  case rel => exact ⟨_, ((a2 == 0)), z0_, H', ⟨z6_⟩, ⟨bk_ BK116.out⟩, ⟨hs_⟩⟩
 case rest =>
  clear HC5; try clear p2
  try clear c5
  try clear p6
  try clear c7
  try clear c7b0
  obtain ⟨kq, x31_4, rfl, HA, HJ4, BK116, HB⟩ := hcut
  cases kq with
  | zero => exact absurd HA.out (by simp [graftageref27_pick.j0])
  | succ kj4 =>
   have H := HA.out; clear HA; simp only [graftageref27_pick.j0] at H; by_cases c8 : x31_4 = true
   ·subst c8; rw [if_pos rfl] at H; obtain ⟨rfl, rfl, rfl, rfl⟩ := pj4_ H; obtain ⟨Z9_0, Z9_1, F9⟩ := bc2 BK116.out; go_wp2
    refine bodyPost_ret (results_list (rs := [.tmp 6, .cell 7 25, .tmp 8]) rfl (by simp) (.tmp (.cell gb116 25 #[.int .i64 0, .slice none 0 0] (0, 0) _ rfl (by have b_ := BK116; exact zb_) Try.underlying25 rfl (by kernel_rfl) (.tmp .nil)))) rfl ?_; exact ⟨_, z2_, z5_, hs_⟩
   replace c8 := Bool.eq_false_iff.mpr c8; subst c8; rw [if_neg nft_] at H; obtain ⟨⟨t119, t120⟩, A10, H⟩ := bx_ H; dsimp only at H; have HC11 := Aside0.mk H; clear H; go_upto_block 0 with (first | ((with_reducible refine gate_callee (f := 53) rfl ?_); refine gl_ (some 38) Try.func53 #[.string a0, .int .i64 t118, .int .i64 (wrap64 (a2 + 1))] ?_; refine cm_ (graftageref27_number.calls kj4 a0 t118 (wrap64 (a2 + 1)) t119 t120 _ A10.out) ?_; rintro w' ⟨nd, rfl⟩; (try (rw [drewN_self wc]; generalize hq_ : World.drewN wc _ = wc; have n0_ : Aside0 (wc.heap[gb116]? = some (.cells #[.int .i64 0, .slice none 0 0] 25 (0, 0))) := ⟨by rw [← hq_]; exact (bk_ BK116.out)⟩; have n1_ : Aside0 (Below w.heap.size w wc) := ⟨by rw [← hq_]; exact (hs_)⟩; clear BK116 HB hq_; have BK116 := n0_; have HB := n1_; clear n0_ n1_))) | ((with_reducible refine gate_dst (N := 13) rfl ?_); refine be_ (cs := #[.int .i64 0, .slice none 0 0]) (t := 25) ?_; intro gb121 hg w12 hbox hb; have BK121 := Aside0.mk (hbox); have GW121 := Aside0.mk ((by rw [hg]; exact (below_size (hs_)) : w.heap.size ≤ gb121)); have GE121 := Aside0.mk ((by rw [hg]; exact (below_size (hs_)) : w.heap.size ≤ gb121)); replace HB := hbs_ hb; have NB116_121 := Aside0.mk (nl2_ hg BK116.out); have NB121_116 := Aside0.mk (ng2_ hg BK116.out); replace BK116 := ab_ BK116 hb; clear hb hbox hg; have hnb13 := NB121_116.out; have hnc13 := NB116_121.out; obtain ⟨Z14_0, Z14_1, F14⟩ := bc2 BK121.out)); (try simp only [Act.put, List.setIfInBounds_toArray, List.set_cons_zero, List.set_cons_succ])
   go_cut [12, 14] (fun v12 v14 wc => ∃ (kq : Nat) (x12_10 : Int) (x14_10 : List Int), v12 = .int .i64 x12_10 ∧ Aside0 (graftageref27_pick.j2 kq t117 x12_10 x14_10 a2 = some (r1, r2, r3, r4)) ∧ Aside0 (kq ≤ kj4) ∧ Aside0 (Kd.R (Kd.int .i64) 3 wc w.heap.size (fun _ => True) v14 x14_10) ∧ Aside0 (wc.heap[gb116]? = some (.cells #[.int .i64 0, (.slice none 0 0)] 25 (0, 0))) ∧ Aside0 (wc.heap[gb121]? = some (.cells #[.int .i64 a2, (.slice none 0 0)] 25 (0, 0))) ∧ Aside0 (Below w.heap.size w wc))
   case first =>
    have H := HC11.out; clear HC11; have H' := Aside0.mk H; clear H; go_wp2
    go_loopg [12, 14, 15] kj4 (fun kq v12 v14 v15 w' => ∃ (x12_2 : Int) (x14_2 : List Int) (x15_2 : Int), v12 = .int .i64 x12_2 ∧ v15 = .int .i64 x15_2 ∧ Aside0 (graftageref27_pick.l0 kq a0 a2 t117 t119 x12_2 x14_2 x15_2 a2 = some (r1, r2, r3, r4)) ∧ Aside0 (kq ≤ kj4) ∧ Aside0 (Kd.R (Kd.int .i64) 3 w' w.heap.size (fun _ => True) v14 x14_2) ∧ Aside0 (w'.heap[gb116]? = some (.cells #[.int .i64 0, (.slice none 0 0)] 25 (0, 0))) ∧ Aside0 (w'.heap[gb121]? = some (.cells #[.int .i64 a2, (.slice none 0 0)] 25 (0, 0))) ∧ Aside0 (Below w.heap.size w w'))
    case atStart => exact ⟨(t120), (([] : List Int)), (0), z0_, z0_, H', ⟨Nat.le_refl _⟩, ⟨z5_⟩, ⟨by have b_ := BK116; have f_ := NB116_121; exact zb_⟩, ⟨by have b_ := BK121; exact zb_⟩, ⟨hs_⟩⟩
    case round =>
     clear H'; try clear c1
     try clear p2
     try clear c5
     try clear p6
     try clear c7
     try clear c7b0
     try clear c8
     try clear c13
     try clear Z14_0 Z14_1
     try clear Z9_0 Z9_1
     try clear F14
     try clear F9
     try clear p2
     try clear p6
     obtain ⟨x12_2, x14_2, x15_2, rfl, rfl, HA, HK2, HO_14, BK116, BK121, HB⟩ := hrel
     cases gk with
     | zero => exact absurd HA.out (by simp [graftageref27_pick.l0])
     | succ k2 =>
      have H := HA.out; clear HA; simp only [graftageref27_pick.l0] at H; by_cases c15 : x12_2 ≥ 0; rotate_left
      ·rw [if_neg c15] at H; have c15b0 := df_ c15; clear c15; (first | rw [c15b0] | (simp only [i64_w, i32_w]; rw [c15b0]) | skip); (try rw [c15b8])
       have H' := Aside0.mk H; clear H; go_wp2
       go_meet
       case rel => exact ⟨_, (x12_2), (x14_2), z0_, H', ⟨by have := HJ4.out; have := HK2.out; first | omega | exact Nat.le_refl _⟩, ⟨z12_⟩, ⟨bk_ BK116.out⟩, ⟨bk_ BK121.out⟩, ⟨hs_⟩⟩
      rw [if_pos c15] at H; have c15b0 := dt_ c15; clear c15; (first | rw [c15b0] | (simp only [i64_w, i32_w]; rw [c15b0]) | skip); (try rw [c15b8])
      by_cases c16 : x15_2 < t119; rotate_left
      ·rw [if_neg c16] at H; have c16b0 := df_ c16; clear c16; have H' := Aside0.mk H; clear H; go_wp2
       go_meet
       case rel => exact ⟨_, (x12_2), (x14_2), z0_, H', ⟨by have := HJ4.out; have := HK2.out; first | omega | exact Nat.le_refl _⟩, ⟨z12_⟩, ⟨bk_ BK116.out⟩, ⟨bk_ BK121.out⟩, ⟨hs_⟩⟩
      rw [if_pos c16] at H; have c16b0 := dt_ c16; clear c16; obtain ⟨⟨t122, t123⟩, A17, H⟩ := bx_ H; dsimp only at H; by_cases c18 : x14_2.length < 17592186044416; rotate_left
      ·rw [if_neg c18] at H; exact no_ H
      rw [if_pos c18] at H; have LMc18 := Aside0.mk c18; clear c18; obtain ⟨y124, hy124⟩ : ∃ y_ : List Int, y_ = (x14_2 ++ [t122]) := ⟨_, rfl⟩; replace H : (graftageref27_pick.l0 k2 a0 a2 t117 t119 t123 y124 (wrap64 (x15_2 + 1)) a2) = some (r1, r2, r3, r4) := by first | (rw [hy124]; with_reducible exact H) | (have H2_ := (Option.bind_some _ _).symm.trans H; rw [hy124]; with_reducible exact H2_) | (have H2_ := (Option.bind_some _ _).symm.trans H; with_reducible exact H2_) | with_reducible exact H | (rw [hy124]; exact H) | exact H
      have Ny124 := Aside0.mk hy124; clear hy124; have H' := Aside0.mk H; clear H; go_wp2_with (first | ((with_reducible refine gate_callee (f := 53) rfl ?_); refine gl_ (some 56) Try.func53 #[.string a0, .int .i64 x12_2, .int .i64 a2] ?_; refine cm_ (graftageref27_number.calls k2 a0 x12_2 a2 t122 t123 _ A17.out) ?_; rintro w' ⟨nd, rfl⟩) | ((with_reducible refine gate_builtin (b := .append) (xs := #[.tmp 59, .tmp 61]) rfl ?_); at_builtin; refine Kd.R_append (Kd.int .i64) (w0 := w) w.heap.size rfl (.tmp 59) (.tmp 61) 22 3 (.int .i64 0) 8 rfl Try.underlying22 info3 rfl (by decide) (by omega) u14 x14_2 t122 [.int .i64 t122] (fun _ => True) (fun _ => False) rfl rfl ?aP (fun _ hk => hk.elim) ?aF ?aO ?aB ?aS ?aL ?_; (case aP => exact rfl); (case aB => exact (hs_)); (case aF => exact (fun _ _ => trivial)); (case aO => exact (rk_ HO_14.out)); (case aS => exact (below_size (hs_))); (case aL => have := LMc18.out; omega); intro v125 w19 ho hb hg hat; rw [← Ny124.out] at ho; have n0_ := Aside0.mk (blk_grown (g := gb116) (o := .cells #[.int .i64 0, .slice none 0 0] 25 (0, 0)) (bk_ BK116.out) hg (Kd.R_ne HO_14.out BK116.out (by decide))); have n1_ := Aside0.mk (blk_grown (g := gb121) (o := .cells #[.int .i64 a2, .slice none 0 0] 25 (0, 0)) (bk_ BK121.out) hg (Kd.R_ne HO_14.out BK121.out (by decide))); have n2_ := Aside0.mk (hb); have n3_ := Aside0.mk (ho); clear BK116; clear BK121; clear HB; clear HO_14; have BK116 := n0_; have BK121 := n1_; have HB := n2_; have HO126 := n3_; clear n0_ n1_ n2_ n3_; clear ho hb hg hat)); go_roundg k2
      case measure => have := HJ4.out; have := HK2.out; omega
      case rel => exact ⟨(t123), (y124), (wrap64 (x15_2 + 1)), z0_, z0_, H', ⟨by have := HJ4.out; have := HK2.out; omega⟩, ⟨by (with_reducible repeat (first | apply Kd.R_alloc | apply Kd.R_drewN | apply Kd.R_drew)); exact HO126.out⟩, ⟨bk_ BK116.out⟩, ⟨bk_ BK121.out⟩, ⟨hs_⟩⟩
   case rest =>
    clear HC11; try clear c1
    try clear p2
    try clear c5
    try clear p6
    try clear c7
    try clear c7b0
    try clear c8
    try clear c13
    try clear c15
    try clear c15b0
    try clear c16
    try clear c16b0
    try clear c18
    try clear Z14_0 Z14_1
    try clear Z9_0 Z9_1
    try clear F14
    try clear F9
    try clear p2
    try clear p6
    obtain ⟨kq, x12_10, x14_10, rfl, HA, HJ10, HO_14, BK116, BK121, HB⟩ := hcut
    cases kq with
    | zero => exact absurd HA.out (by simp [graftageref27_pick.j2])
    | succ kj10 =>
     have H := HA.out; clear HA; simp only [graftageref27_pick.j2] at H; by_cases c20 : x12_10 < 0
     ·rw [if_pos c20] at H; have c20b0 := dt_ c20; clear c20; obtain ⟨rfl, rfl, rfl, rfl⟩ := pj4_ H; obtain ⟨Ao21, co21, eo21⟩ := Kd.R_slice HO_14.out; subst eo21; have hnb22 := NB121_116.out; have hnc22 := NB116_121.out; obtain ⟨Z23_0, Z23_1, F23⟩ := bc2 BK121.out; obtain ⟨Z24_0, Z24_1, F24⟩ := bc2 BK116.out; go_wp2
      refine bodyPost_ret (results_list (rs := [.tmp 6, .cell 7 25, .tmp 8]) rfl (by simp) (.tmp (.cell gb116 25 #[.int .i64 0, .slice none 0 0] (0, 0) _ rfl (by have b_ := BK116; have f_ := NB116_121; exact zb_) Try.underlying25 rfl (by kernel_rfl) (.tmp .nil)))) rfl ?_; exact ⟨_, z2_, z5_, hs_⟩
     rw [if_neg c20] at H; have c20b0 := df_ c20; clear c20; obtain ⟨t127, A25, H⟩ := bx_ H; by_cases c26 : t127 = true; rotate_left
     ·replace c26 := Bool.eq_false_iff.mpr c26; subst c26; rw [if_neg nft_] at H; obtain ⟨rfl, rfl, rfl, rfl⟩ := pj4_ H; obtain ⟨Ao48, co48, eo48⟩ := Kd.R_slice HO_14.out; subst eo48; have hnb49 := NB121_116.out; have hnc49 := NB116_121.out; obtain ⟨Z50_0, Z50_1, F50⟩ := bc2 BK121.out; go_wp2_with (first | (go_at_call 16; (with_reducible refine (graftageref27_Right.calls kj10 a2 _ _ x14_10 false _ ?side1 ?side2 A25.out).mono ?_); (case side1 => refine (Kd.R_reads' (e := 3) (base := w.heap.size) (ok := fun k_ => True) (n := x14_10.length) (c := co48) ?_).2.2; exact (by (with_reducible repeat (first | apply Kd.R_alloc | apply Kd.R_drewN | apply Kd.R_drew)); exact (Kd.R_mono (Kd.R_far (p := ⟨gb121, 1, none⟩) (Kd.R_types HO_14.out BK121.out (by decide)) (fun _ hk => hk.2) (.slice Ao48 x14_10.length co48)) (fun _ h_ => h_.1)))); (case side2 => exact (Kd.R_reads' HO_14.out).2.1); rintro e w51 ⟨rfl, hb⟩; replace HO_14 := Aside0.mk (Kd.R_below (by (with_reducible repeat (first | apply Kd.R_alloc | apply Kd.R_drewN | apply Kd.R_drew)); exact (Kd.R_mono (Kd.R_far (p := ⟨gb121, 1, none⟩) (Kd.R_types HO_14.out BK121.out (by decide)) (fun _ hk => hk.2) (.slice Ao48 x14_10.length co48)) (fun _ h_ => h_.1))) hb); replace BK116 := Aside0.mk (blk_below (g := gb116) (o := .cells #[.int .i64 0, .slice none 0 0] 25 (0, 0)) (by have b_ := BK116; have f_ := NB116_121; exact zb_) hb); replace BK121 := Aside0.mk (blk_below (g := gb121) (o := .cells #[.int .i64 a2, .slice Ao48 x14_10.length co48] 25 (0, 0)) (by have b_ := BK121; exact zb_) hb); replace HB := hbs_ hb; (try clear hb); (try clear hb2); (try clear hk); (try clear hi); obtain ⟨Z52_0, Z52_1, F52⟩ := bc2 BK116.out)); refine bodyPost_ret (results_list (rs := [.tmp 6, .cell 7 25, .tmp 8]) rfl (by simp) (.tmp (.cell gb116 25 #[.int .i64 0, .slice none 0 0] (0, 0) _ rfl (by have b_ := BK116; exact zb_) Try.underlying25 rfl (by kernel_rfl) (.tmp .nil)))) rfl ?_; exact ⟨_, z2_, z5_, hs_⟩
     subst c26; rw [if_pos rfl] at H; obtain ⟨t128, A27, H⟩ := bx_ H; obtain ⟨t131, A28, H⟩ := bx_ H; by_cases c29 : t131 = true; rotate_left
     ·replace c29 := Bool.eq_false_iff.mpr c29; subst c29; rw [if_neg nft_] at H; obtain ⟨rfl, rfl, rfl, rfl⟩ := pj4_ H; obtain ⟨Ao40, co40, eo40⟩ := Kd.R_slice HO_14.out; subst eo40; have hnb41 := NB121_116.out; have hnc41 := NB116_121.out; obtain ⟨Z42_0, Z42_1, F42⟩ := bc2 BK121.out; go_wp2_with (first | (go_at_call 16; (with_reducible refine (graftageref27_Right.calls kj10 a2 _ _ x14_10 true _ ?side1 ?side2 A25.out).mono ?_); (case side1 => refine (Kd.R_reads' (e := 3) (base := w.heap.size) (ok := fun k_ => True) (n := x14_10.length) (c := co40) ?_).2.2; exact (by (with_reducible repeat (first | apply Kd.R_alloc | apply Kd.R_drewN | apply Kd.R_drew)); exact (Kd.R_mono (Kd.R_far (p := ⟨gb121, 1, none⟩) (Kd.R_types HO_14.out BK121.out (by decide)) (fun _ hk => hk.2) (.slice Ao40 x14_10.length co40)) (fun _ h_ => h_.1)))); (case side2 => exact (Kd.R_reads' HO_14.out).2.1); rintro e w43 ⟨rfl, hb⟩; replace HO_14 := Aside0.mk (Kd.R_below (by (with_reducible repeat (first | apply Kd.R_alloc | apply Kd.R_drewN | apply Kd.R_drew)); exact (Kd.R_mono (Kd.R_far (p := ⟨gb121, 1, none⟩) (Kd.R_types HO_14.out BK121.out (by decide)) (fun _ hk => hk.2) (.slice Ao40 x14_10.length co40)) (fun _ h_ => h_.1))) hb); replace BK116 := Aside0.mk (blk_below (g := gb116) (o := .cells #[.int .i64 0, .slice none 0 0] 25 (0, 0)) (by have b_ := BK116; have f_ := NB116_121; exact zb_) hb); replace BK121 := Aside0.mk (blk_below (g := gb121) (o := .cells #[.int .i64 a2, .slice Ao40 x14_10.length co40] 25 (0, 0)) (by have b_ := BK121; exact zb_) hb); replace HB := hbs_ hb; (try clear hb); (try clear hb2); (try clear hk); (try clear hi); obtain ⟨Z44_0, Z44_1, F44⟩ := bc2 BK121.out) | (go_at_call 13; (with_reducible refine (graftageref27_List.calls kj10 a2 _ _ x14_10 t128 _ ?side1 ?side2 A27.out).mono ?_); (case side1 => repeat (first | exact (Kd.R_reads' HO_14.out).2.2 | (with_reducible refine Kd.C_alloc ?_ _) | (with_reducible refine Kd.C_drewN ?_ _) | (with_reducible refine Kd.C_drew ?_))); (case side2 => exact (Kd.R_reads' HO_14.out).2.1); rintro e w45 ⟨v129, rfl, ho0, hb⟩; have HO130 := Aside0.mk (Kd.R_lower (Kd.R_new' ho0 (Kd.R_lt (rk_ HO_14.out))) (below_size (hs_))); replace HO_14 := Aside0.mk (Kd.R_elder' (rk_ HO_14.out) (Kd.R_base ho0) hb); replace BK116 := ab_ BK116 hb; replace BK121 := ab_ BK121 hb; replace HB := hbs_ hb; (try clear hb); (try clear hb2); (try clear hk); (try clear hi); (try clear ho0); obtain ⟨Ao46, co46, eo46⟩ := Kd.R_slice HO130.out; subst eo46) | (go_at_call 46; (with_reducible refine (graftageref27_Has.calls kj10 _ _ t128 t117 false _ ?side1 ?side2 A28.out).mono ?_); (case side1 => repeat (first | exact (Kd.R_reads' HO130.out).2.2 | (with_reducible refine Kd.C_alloc ?_ _) | (with_reducible refine Kd.C_drewN ?_ _) | (with_reducible refine Kd.C_drew ?_))); (case side2 => exact (Kd.R_reads' HO130.out).2.1); rintro e w' ⟨rfl, ⟨nd, rfl⟩⟩; (try (rw [drewN_self w45]; generalize hq_ : World.drewN w45 _ = w45; have n0_ : Aside0 (Kd.R (Kd.int .i64) 3 w45 w.heap.size (fun k_ => some k_ ≠ (.slice Ao40 x14_10.length co40 : Value).ownBlock) (.slice Ao46 t128.length co46) t128) := ⟨by rw [← hq_]; exact (by (with_reducible repeat (first | apply Kd.R_alloc | apply Kd.R_drewN | apply Kd.R_drew)); exact Kd.R_mono HO130.out (fun _ hk => hk.2))⟩; have n1_ : Aside0 (Kd.R (Kd.int .i64) 3 w45 w.heap.size (fun k_ => some k_ ≠ (.slice Ao46 t128.length co46 : Value).ownBlock) (.slice Ao40 x14_10.length co40) x14_10) := ⟨by rw [← hq_]; exact (by (with_reducible repeat (first | apply Kd.R_alloc | apply Kd.R_drewN | apply Kd.R_drew)); exact Kd.R_mono HO_14.out (fun _ hk => hk.2))⟩; have n2_ : Aside0 (w45.heap[gb116]? = some (.cells #[.int .i64 0, .slice none 0 0] 25 (0, 0))) := ⟨by rw [← hq_]; exact (bk_ BK116.out)⟩; have n3_ : Aside0 (w45.heap[gb121]? = some (.cells #[.int .i64 a2, .slice Ao40 x14_10.length co40] 25 (0, 0))) := ⟨by rw [← hq_]; exact (bk_ BK121.out)⟩; have n4_ : Aside0 (Below w.heap.size w w45) := ⟨by rw [← hq_]; exact (hs_)⟩; clear HO130 HO_14 BK116 BK121 HB hq_; have HO130 := n0_; have HO_14 := n1_; have BK116 := n2_; have BK121 := n3_; have HB := n4_; clear n0_ n1_ n2_ n3_ n4_)); obtain ⟨Z47_0, Z47_1, F47⟩ := bc2 BK116.out))
      refine bodyPost_ret (results_list (rs := [.tmp 6, .cell 7 25, .tmp 8]) rfl (by simp) (.tmp (.cell gb116 25 #[.int .i64 0, .slice none 0 0] (0, 0) _ rfl (by have b_ := BK116; exact zb_) Try.underlying25 rfl (by kernel_rfl) (.tmp .nil)))) rfl ?_; exact ⟨_, z2_, z5_, hs_⟩
     subst c29; rw [if_pos rfl] at H; obtain ⟨rfl, rfl, rfl, rfl⟩ := pj4_ H; obtain ⟨Ao30, co30, eo30⟩ := Kd.R_slice HO_14.out; subst eo30; have hnb31 := NB121_116.out; have hnc31 := NB116_121.out; obtain ⟨Z32_0, Z32_1, F32⟩ := bc2 BK121.out; try go_wp2_with (first | (go_at_call 16; (with_reducible refine (graftageref27_Right.calls kj10 a2 _ _ x14_10 true _ ?side1 ?side2 A25.out).mono ?_); (case side1 => refine (Kd.R_reads' (e := 3) (base := w.heap.size) (ok := fun k_ => True) (n := x14_10.length) (c := co30) ?_).2.2; exact (by (with_reducible repeat (first | apply Kd.R_alloc | apply Kd.R_drewN | apply Kd.R_drew)); exact (Kd.R_mono (Kd.R_far (p := ⟨gb121, 1, none⟩) (Kd.R_types HO_14.out BK121.out (by decide)) (fun _ hk => hk.2) (.slice Ao30 x14_10.length co30)) (fun _ h_ => h_.1)))); (case side2 => exact (Kd.R_reads' HO_14.out).2.1); rintro e w33 ⟨rfl, hb⟩; replace HO_14 := Aside0.mk (Kd.R_below (by (with_reducible repeat (first | apply Kd.R_alloc | apply Kd.R_drewN | apply Kd.R_drew)); exact (Kd.R_mono (Kd.R_far (p := ⟨gb121, 1, none⟩) (Kd.R_types HO_14.out BK121.out (by decide)) (fun _ hk => hk.2) (.slice Ao30 x14_10.length co30)) (fun _ h_ => h_.1))) hb); replace BK116 := Aside0.mk (blk_below (g := gb116) (o := .cells #[.int .i64 0, .slice none 0 0] 25 (0, 0)) (by have b_ := BK116; have f_ := NB116_121; exact zb_) hb); replace BK121 := Aside0.mk (blk_below (g := gb121) (o := .cells #[.int .i64 a2, .slice Ao30 x14_10.length co30] 25 (0, 0)) (by have b_ := BK121; exact zb_) hb); replace HB := hbs_ hb; (try clear hb); (try clear hb2); (try clear hk); (try clear hi); obtain ⟨Z34_0, Z34_1, F34⟩ := bc2 BK121.out) | (go_at_call 13; (with_reducible refine (graftageref27_List.calls kj10 a2 _ _ x14_10 t128 _ ?side1 ?side2 A27.out).mono ?_); (case side1 => repeat (first | exact (Kd.R_reads' HO_14.out).2.2 | (with_reducible refine Kd.C_alloc ?_ _) | (with_reducible refine Kd.C_drewN ?_ _) | (with_reducible refine Kd.C_drew ?_))); (case side2 => exact (Kd.R_reads' HO_14.out).2.1); rintro e w35 ⟨v129, rfl, ho0, hb⟩; have HO130 := Aside0.mk (Kd.R_lower (Kd.R_new' ho0 (Kd.R_lt (rk_ HO_14.out))) (below_size (hs_))); replace HO_14 := Aside0.mk (Kd.R_elder' (rk_ HO_14.out) (Kd.R_base ho0) hb); replace BK116 := ab_ BK116 hb; replace BK121 := ab_ BK121 hb; replace HB := hbs_ hb; (try clear hb); (try clear hb2); (try clear hk); (try clear hi); (try clear ho0); obtain ⟨Ao36, co36, eo36⟩ := Kd.R_slice HO130.out; subst eo36) | (go_at_call 46; (with_reducible refine (graftageref27_Has.calls kj10 _ _ t128 t117 true _ ?side1 ?side2 A28.out).mono ?_); (case side1 => repeat (first | exact (Kd.R_reads' HO130.out).2.2 | (with_reducible refine Kd.C_alloc ?_ _) | (with_reducible refine Kd.C_drewN ?_ _) | (with_reducible refine Kd.C_drew ?_))); (case side2 => exact (Kd.R_reads' HO130.out).2.1); rintro e w' ⟨rfl, ⟨nd, rfl⟩⟩; (try (rw [drewN_self w35]; generalize hq_ : World.drewN w35 _ = w35; have n0_ : Aside0 (Kd.R (Kd.int .i64) 3 w35 w.heap.size (fun k_ => some k_ ≠ (.slice Ao30 x14_10.length co30 : Value).ownBlock) (.slice Ao36 t128.length co36) t128) := ⟨by rw [← hq_]; exact (by (with_reducible repeat (first | apply Kd.R_alloc | apply Kd.R_drewN | apply Kd.R_drew)); exact Kd.R_mono HO130.out (fun _ hk => hk.2))⟩; have n1_ : Aside0 (Kd.R (Kd.int .i64) 3 w35 w.heap.size (fun k_ => some k_ ≠ (.slice Ao36 t128.length co36 : Value).ownBlock) (.slice Ao30 x14_10.length co30) x14_10) := ⟨by rw [← hq_]; exact (by (with_reducible repeat (first | apply Kd.R_alloc | apply Kd.R_drewN | apply Kd.R_drew)); exact Kd.R_mono HO_14.out (fun _ hk => hk.2))⟩; have n2_ : Aside0 (w35.heap[gb116]? = some (.cells #[.int .i64 0, .slice none 0 0] 25 (0, 0))) := ⟨by rw [← hq_]; exact (bk_ BK116.out)⟩; have n3_ : Aside0 (w35.heap[gb121]? = some (.cells #[.int .i64 a2, .slice Ao30 x14_10.length co30] 25 (0, 0))) := ⟨by rw [← hq_]; exact (bk_ BK121.out)⟩; have n4_ : Aside0 (Below w.heap.size w w35) := ⟨by rw [← hq_]; exact (hs_)⟩; clear HO130 HO_14 BK116 BK121 HB hq_; have HO130 := n0_; have HO_14 := n1_; have BK116 := n2_; have BK121 := n3_; have HB := n4_; clear n0_ n1_ n2_ n3_ n4_))))
     replace HO_14 := Aside0.mk (Kd.R_drew HO_14.out); replace HO130 := Aside0.mk (Kd.R_drew HO130.out); replace BK116 := ad_ BK116; replace BK121 := ad_ BK121; replace HB := hd_ HB; refine start_ (n := 6) (S := fun w' => w'.cell? ⟨gb121, 0, none⟩ = some (.int .i64 a2) ∧ w'.cell? ⟨gb121, 1, none⟩ = some (.slice Ao30 x14_10.length co30)) (ds := []) (bs 6 0) (by kernel_rfl) rfl rfl (bc2o BK121.out) (fun hHeld => ?_); generalize w35.drew = w37 at HO_14 HO130 BK116 BK121 HB hHeld ⊢; refine pkn_ 0 81 6 1 ?_; refine pkn_ 2 83 6 5 ?_; refine pkn_ 3 6 6 13 ?_; refine tkK2n_ 1 82 6 15 hHeld ?_; refine one_ (i := 4) (N := none) (bs 6 31) rfl rfl (by kernel_rfl) (by decide) (fun K hK => ?_); have hs38 : w37.cell? ⟨gb116, 0, none⟩ = some (.int .i64 0) := (blk_cell BK116.out 0).trans rfl; have hfs38 := blk_frozen BK116.out 0; have hns38_1 := NB121_116.out; have hms38_1 := NB116_121.out; have hs39 : w37.cell? ⟨gb116, 1, none⟩ = some (.slice none 0 0) := (blk_cell BK116.out 1).trans rfl; have hfs39 := blk_frozen BK116.out 1; have hns39_1 := NB121_116.out; have hms39_1 := NB116_121.out; refine skip_ (w1 := ?_) (by rfl) rfl ?_ ?_; rotate_left
     ·go_simp
      rfl
     refine hK.out _ _ ⟨((cell_far (p := ⟨gb116, _, none⟩) NB121_116.out _).trans (((cell_far (p := ⟨gb116, _, none⟩) NB121_116.out _).trans (hHeld.1)))), ((cell_far (p := ⟨gb116, _, none⟩) NB121_116.out _).trans (((cell_far (p := ⟨gb116, _, none⟩) NB121_116.out _).trans (hHeld.2))))⟩ (fun hHeld => ?_); clear hK K; refine pkn_ 5 8 6 63 ?_; refine done_ (by kernel_rfl) ?_; try go_wp2
     refine bodyPost_ret (results_list (rs := [.tmp 6, .cell 7 25, .tmp 8]) rfl (by simp) (.tmp (.cell gb116 25 #[.int .i64 a2, .slice Ao30 x14_10.length co30] (0, 0) _ rfl (by have b_ := BK116; exact zb_) Try.underlying25 rfl (by kernel_rfl) (.tmp .nil)))) rfl ?_; exact ⟨_, z2_, by (with_reducible repeat (first | apply Kd.R_alloc | apply Kd.R_drewN | apply Kd.R_drew)); exact Kd.R_mono (Kd.R_far (p := ⟨gb116, 1, none⟩) (Kd.R_far (p := ⟨gb116, 0, none⟩) (Kd.R_types HO_14.out BK116.out (by decide)) (fun _ hk => hk.2) (.int .i64 a2)) (fun _ hk => hk.2) (.slice Ao30 x14_10.length co30)) (fun _ hk => trivial), hs_⟩


mutual
def graftageref27_readFile.j0 : Nat → ByteArray → Bool → Option (List ByteArray × List Int × (List (S25)) × Bool)
 | 0, _, _ => none
 | k + 1, x0, x24 => if x24 = true then (some (([] : List ByteArray), ([] : List Int), ([] : List (S25)), false)) else ((graftageref27_number.f k x0 4 65536).bind fun bt104 => (if bt104.2 < 0 then (graftageref27_readFile.j1 k x0 bt104.1 bt104.2 true) else (graftageref27_readFile.j1 k x0 bt104.1 bt104.2 (decide ((wrap64 ((x0.size : Int) - bt104.2)) < (wrap64 (20 * bt104.1)))))))
def graftageref27_readFile.j1 : Nat → ByteArray → Int → Int → Bool → Option (List ByteArray × List Int × (List (S25)) × Bool)
 | 0, _, _, _, _ => none
 | k + 1, x0, x4, x5, x41 => if x41 = true then (some (([] : List ByteArray), ([] : List Int), ([] : List (S25)), false)) else (graftageref27_readFile.l0 k x0 x4 x5 ([] : List ByteArray) 0)
def graftageref27_readFile.l0 : Nat → ByteArray → Int → Int → List ByteArray → Int → Option (List ByteArray × List Int × (List (S25)) × Bool)
 | 0, _, _, _, _, _ => none
 | k + 1, x0, x4, x5, x6, x7 => if x7 < x4 then (if 0 ≤ x5 then (if x5 ≤ (wrap64 (x5 + 20)) then (if (wrap64 (x5 + 20)) ≤ (x0.size : Int) then ((graftageref02_Hex.f k (x0.extract (x5 : Int).toNat ((wrap64 (x5 + 20)) : Int).toNat)).bind fun t106 => ((graftageref27_place.f k x6 t106).bind fun t107 => (if t107 ≥ 0 then (some (([] : List ByteArray), ([] : List Int), ([] : List (S25)), false)) else (if x6.length < 8796093022208 then (graftageref27_readFile.l0 k x0 x4 (wrap64 (x5 + 20)) (x6 ++ [t106]) (wrap64 (x7 + 1))) else (none))))) else (none)) else (none)) else (none)) else ((graftageref27_number.f k x0 x5 x4).bind fun bt111 => (if bt111.2 < 0 then (some (([] : List ByteArray), ([] : List Int), ([] : List (S25)), false)) else (graftageref27_readFile.l1 k x0 x4 x6 bt111.1 bt111.2 ([] : List Int) ([] : List (S25)) 0)))
def graftageref27_readFile.l1 : Nat → ByteArray → Int → List ByteArray → Int → Int → List Int → List (S25) → Int → Option (List ByteArray × List Int × (List (S25)) × Bool)
 | 0, _, _, _, _, _, _, _, _ => none
 | k + 1, x0, x4, x6, x9, x10, x11, x12, x13 => if x13 < x9 then ((graftageref27_pick.f k x0 x10 x4).bind fun bt113 => (if bt113.2.2.2 < 0 then (some (([] : List ByteArray), ([] : List Int), ([] : List (S25)), false)) else ((graftageref27_Has.f k x11 bt113.1).bind fun t120 => (if t120 = true then (some (([] : List ByteArray), ([] : List Int), ([] : List (S25)), false)) else (if x11.length < 17592186044416 then (if x12.length < 4398046511104 then (graftageref27_readFile.l1 k x0 x4 x6 x9 bt113.2.2.2 (x11 ++ [bt113.1]) (x12 ++ [(⟨bt113.2.1, bt113.2.2.1⟩ : S25)]) (wrap64 (x13 + 1))) else (none)) else (none)))))) else (some (x6, x11, x12, (x10 == (x0.size : Int))))
end
def graftageref27_readFile.f (k : Nat) (a0 : ByteArray) : Option (List ByteArray × List Int × (List (S25)) × Bool) := if (a0.size : Int) < 4 then (graftageref27_readFile.j0 k a0 true) else (if 0 ≤ 4 then (if 4 ≤ (a0.size : Int) then (graftageref27_readFile.j0 k a0 ((a0.extract 0 4).toList != ([66, 77, 80, 49] : List UInt8))) else (none)) else (none))
set_option maxHeartbeats 8000000 in
set_option maxRecDepth 100000 in
theorem graftageref27_readFile.calls (k : Nat) (a0 : ByteArray) (r1 : List ByteArray) (r2 : List Int) (r3 : List (S25)) (r4 : Bool) (w : World) (h : graftageref27_readFile.f k a0 = some (r1, r2, r3, r4)) :
  Calls Try.prog 42 #[.string a0] w fun e w' => ∃ v0_ v1_ v2_ : Value, e = .returned (.tuple #[.agg #[v0_, v1_, v2_], .bool r4]) ∧ Kd.R Kd.string 9 w' w.heap.size (fun _ => True) v0_ r1 ∧ Kd.R (Kd.int .i64) 3 w' w.heap.size (fun _ => True) v1_ r2 ∧ Kd.S k25 25 w' w.heap.size (fun k_ => some k_ ≠ (v1_ : Value).ownBlock) v2_ r3 ∧ Below w.heap.size w w' := by
 have hu61 := Try.underlying61; have hu25 := Try.underlying25; have HB := Aside0.mk (Below.refl w.heap.size w); unfold graftageref27_readFile.f at h; have H := h; clear h; have HC2 := Aside0.mk H; clear H; go_enter Try.func42, Try.ntmps42; go_upto_region 1 with (first | ((with_reducible refine gate_dst (N := 2) rfl ?_); (try (refine gate_guard (by rfl) ?_; dsimp only)); refine be_ (cs := #[.slice none 0 0, .slice none 0 0, .slice none 0 0]) (t := 61) ?_; intro gb103 hg w3 hbox hb; have BK103 := Aside0.mk (hbox); have GW103 := ag_ hg HB; have GE103 := ag_ hg HB; replace HB := ah_ HB hb; clear hb hbox hg)); (try simp only [Act.put, List.setIfInBounds_toArray, List.set_cons_zero, List.set_cons_succ])
 go_cut [24] (fun v24 wc => ∃ (kq : Nat) (x24_1 : Bool), v24 = .bool x24_1 ∧ Aside0 (graftageref27_readFile.j0 kq a0 x24_1 = some (r1, r2, r3, r4)) ∧ Aside0 (kq ≤ k) ∧ Aside0 (wc.heap[gb103]? = some (.cells #[(.slice none 0 0), (.slice none 0 0), (.slice none 0 0)] 61 (0, 0))) ∧ Aside0 (Below w.heap.size w wc))
 case first =>
  have H := HC2.out; clear HC2; by_cases c4 : (a0.size : Int) < 4
  ·rw [if_pos c4] at H; have c4b0 := dt_ c4; have c4b1 : decide (a0.size < 4) = true := decide_eq_true (by omega); clear c4; (first | rw [c4b0] | (simp only [i64_w, i32_w]; rw [c4b0]) | skip); (try rw [c4b8])
   have H' := Aside0.mk H; clear H; go_wp2
   go_meet
   case rel => exact ⟨_, (true), z0_, H', ⟨z6_⟩, ⟨bk_ BK103.out⟩, ⟨hs_⟩⟩
  rw [if_neg c4] at H; have c4b0 := df_ c4; have c4b1 : decide (a0.size < 4) = false := decide_eq_false (by omega); clear c4; (first | rw [c4b0] | (simp only [i64_w, i32_w]; rw [c4b0]) | skip); (try rw [c4b8])
  by_cases c5 : 0 ≤ 4; rotate_left
  ·rw [if_neg c5] at H; exact no_ H
  rw [if_pos c5] at H; have c5b0 := eq_true c5; have c5b1 := dt_ c5; clear c5; by_cases c6 : 4 ≤ (a0.size : Int); rotate_left
  ·rw [if_neg c6] at H; exact no_ H
  rw [if_pos c6] at H; have c6b0 := eq_true c6; have c6b1 := dt_ c6; clear c6; have H' := Aside0.mk H; clear H; go_wp2
  go_meet
  case rel => exact ⟨_, (((a0.extract 0 4).toList != ([66, 77, 80, 49] : List UInt8))), z0_, H', ⟨z6_⟩, ⟨bk_ BK103.out⟩, ⟨hs_⟩⟩
 case rest =>
  clear HC2; try clear p2
  try clear c4
  try clear c4b0
  try clear c4b1
  try clear c5
  try clear c5b0
  try clear c5b1
  try clear c6
  try clear c6b0
  try clear c6b1
  obtain ⟨kq, x24_1, rfl, HA, HJ1, BK103, HB⟩ := hcut
  cases kq with
  | zero => exact absurd HA.out (by simp [graftageref27_readFile.j0])
  | succ kj1 =>
   have H := HA.out; clear HA; simp only [graftageref27_readFile.j0] at H; by_cases c7 : x24_1 = true
   ·subst c7; rw [if_pos rfl] at H; obtain ⟨rfl, rfl, rfl, rfl⟩ := pj4_ H; obtain ⟨Z8_0, Z8_1, Z8_2, F8⟩ := bc3 BK103.out; go_wp2
    refine bodyPost_ret (results_ct rfl _ _ gb103 61 #[.slice none 0 0, .slice none 0 0, .slice none 0 0] (0, 0) _ rfl (by have b_ := BK103; exact zb_) Try.underlying61 rfl (by kernel_rfl)) rfl ?_; exact ⟨_, _, _, z2_, z5_, z5_, z10_, hs_⟩
   replace c7 := Bool.eq_false_iff.mpr c7; subst c7; rw [if_neg nft_] at H; obtain ⟨⟨t104, t105⟩, A9, H⟩ := bx_ H; dsimp only at H; have HC10 := Aside0.mk H; clear H; go_upto_region 4 with (first | ((with_reducible refine gate_callee (f := 53) rfl ?_); refine gl_ (some 28) Try.func53 #[.string a0, .int .i64 4, .int .i64 65536] ?_; refine cm_ (graftageref27_number.calls kj1 a0 4 65536 t104 t105 _ A9.out) ?_; rintro w' ⟨nd, rfl⟩)); (try simp only [Act.put, List.setIfInBounds_toArray, List.set_cons_zero, List.set_cons_succ])
   go_cut [41] (fun v41 wc => ∃ (kq : Nat) (x41_9 : Bool), v41 = .bool x41_9 ∧ Aside0 (graftageref27_readFile.j1 kq a0 t104 t105 x41_9 = some (r1, r2, r3, r4)) ∧ Aside0 (kq ≤ kj1) ∧ Aside0 (wc.heap[gb103]? = some (.cells #[(.slice none 0 0), (.slice none 0 0), (.slice none 0 0)] 61 (0, 0))) ∧ Aside0 (Below w.heap.size w wc))
   case first =>
    have H := HC10.out; clear HC10; by_cases c11 : t105 < 0
    ·rw [if_pos c11] at H; have c11b0 := dt_ c11; clear c11; (first | rw [c11b0] | (simp only [i64_w, i32_w]; rw [c11b0]) | skip); (try rw [c11b8])
     have H' := Aside0.mk H; clear H; go_wp2
     go_meet
     case rel => exact ⟨_, (true), z0_, H', ⟨by have := HJ1.out; first | omega | exact Nat.le_refl _⟩, ⟨bk_ BK103.out⟩, ⟨hs_⟩⟩
    rw [if_neg c11] at H; have c11b0 := df_ c11; clear c11; (first | rw [c11b0] | (simp only [i64_w, i32_w]; rw [c11b0]) | skip); (try rw [c11b8])
    have H' := Aside0.mk H; clear H; go_wp2
    go_meet
    case rel => exact ⟨_, (decide ((wrap64 ((a0.size : Int) - t105)) < (wrap64 (20 * t104)))), z0_, H', ⟨by have := HJ1.out; first | omega | exact Nat.le_refl _⟩, ⟨bk_ BK103.out⟩, ⟨hs_⟩⟩
   case rest =>
    clear HC10; try clear c1
    try clear p2
    try clear c4
    try clear c4b0
    try clear c4b1
    try clear c5
    try clear c5b0
    try clear c5b1
    try clear c6
    try clear c6b0
    try clear c6b1
    try clear p6
    try clear c7
    try clear c11
    try clear c11b0
    try clear Z8_0 Z8_1 Z8_2 F8_0 F8_1 F8_2
    try clear p2
    obtain ⟨kq, x41_9, rfl, HA, HJ9, BK103, HB⟩ := hcut
    cases kq with
    | zero => exact absurd HA.out (by simp [graftageref27_readFile.j1])
    | succ kj9 =>
     have H := HA.out; clear HA; simp only [graftageref27_readFile.j1] at H; by_cases c12 : x41_9 = true
     ·subst c12; rw [if_pos rfl] at H; obtain ⟨rfl, rfl, rfl, rfl⟩ := pj4_ H; obtain ⟨Z13_0, Z13_1, Z13_2, F13⟩ := bc3 BK103.out; go_wp2
      refine bodyPost_ret (results_ct rfl _ _ gb103 61 #[.slice none 0 0, .slice none 0 0, .slice none 0 0] (0, 0) _ rfl (by have b_ := BK103; exact zb_) Try.underlying61 rfl (by kernel_rfl)) rfl ?_; exact ⟨_, _, _, z2_, z5_, z5_, z10_, hs_⟩
     replace c12 := Bool.eq_false_iff.mpr c12; subst c12; rw [if_neg nft_] at H; have H' := Aside0.mk H; clear H; go_wp2
     go_loopg [5, 6, 7] kj9 (fun kq v5 v6 v7 w' => ∃ (x5_3 : Int) (x6_3 : List ByteArray) (x7_3 : Int), v5 = .int .i64 x5_3 ∧ v7 = .int .i64 x7_3 ∧ Aside0 (graftageref27_readFile.l0 kq a0 t104 x5_3 x6_3 x7_3 = some (r1, r2, r3, r4)) ∧ Aside0 (kq ≤ kj9) ∧ Aside0 (Kd.R Kd.string 9 w' w.heap.size (fun _ => True) v6 x6_3) ∧ Aside0 (w'.heap[gb103]? = some (.cells #[(.slice none 0 0), (.slice none 0 0), (.slice none 0 0)] 61 (0, 0))) ∧ Aside0 (Below w.heap.size w w'))
     case atStart => exact ⟨(t105), (([] : List ByteArray)), (0), z0_, z0_, H', ⟨Nat.le_refl _⟩, ⟨z5_⟩, ⟨bk_ BK103.out⟩, ⟨hs_⟩⟩
     case round =>
      clear H'; try clear c1
      try clear p2
      try clear c4
      try clear c4b0
      try clear c4b1
      try clear c5
      try clear c5b0
      try clear c5b1
      try clear c6
      try clear c6b0
      try clear c6b1
      try clear p6
      try clear c7
      try clear c11
      try clear c11b0
      try clear c12
      try clear Z13_0 Z13_1 Z13_2
      try clear Z8_0 Z8_1 Z8_2
      try clear F13
      try clear F8
      try clear p2
      try clear p6
      obtain ⟨x5_3, x6_3, x7_3, rfl, rfl, HA, HK3, HO_6, BK103, HB⟩ := hrel
      cases gk with
      | zero => exact absurd HA.out (by simp [graftageref27_readFile.l0])
      | succ k3 =>
       have H := HA.out; clear HA; simp only [graftageref27_readFile.l0] at H; by_cases c14 : x7_3 < t104
       ·rw [if_pos c14] at H; have c14b0 := dt_ c14; clear c14; by_cases c15 : 0 ≤ x5_3; rotate_left
        ·rw [if_neg c15] at H; exact no_ H
        rw [if_pos c15] at H; have c15b0 := eq_true c15; have c15b1 := dt_ c15; clear c15; by_cases c16 : x5_3 ≤ (wrap64 (x5_3 + 20)); rotate_left
        ·rw [if_neg c16] at H; exact no_ H
        rw [if_pos c16] at H; have c16b0 := eq_true c16; have c16b1 := dt_ c16; by_cases c17 : (wrap64 (x5_3 + 20)) ≤ (a0.size : Int); rotate_left
        ·rw [if_neg c17] at H; exact no_ H
        rw [if_pos c17] at H; have c17b0 := eq_true c17; have c17b1 := dt_ c17; obtain ⟨t106, A18, H⟩ := bx_ H; obtain ⟨t107, A19, H⟩ := bx_ H; by_cases c20 : t107 ≥ 0
        ·rw [if_pos c20] at H; have c20b0 := dt_ c20; clear c20; obtain ⟨rfl, rfl, rfl, rfl⟩ := pj4_ H; go_wp2_with (first | ((with_reducible refine gate_callee (f := 54) rfl ?_); refine gl_ (some 53) Try.func54 #[.string (a0.extract (x5_3 : Int).toNat ((wrap64 (x5_3 + 20)) : Int).toNat)] ?_; refine cm_ (graftageref02_Hex.calls k3 (a0.extract (x5_3 : Int).toNat ((wrap64 (x5_3 + 20)) : Int).toNat) t106 _ A18.out) fun w21 hb => ?_; replace HO_6 := Aside0.mk (Kd.R_below (rk_ HO_6.out) hb); replace BK103 := ab_ BK103 hb; replace HB := hbs_ hb; (try clear hb); (try clear hb2); (try clear hk); (try clear hi); obtain ⟨Ao22, co22, eo22⟩ := Kd.R_slice HO_6.out; subst eo22) | ((with_reducible refine gate_callee (f := 55) rfl ?_); refine gl_ (some 56) Try.func55 #[.slice Ao22 x6_3.length co22, .string t106] ?_; (with_reducible refine (graftageref27_place.calls k3 _ _ x6_3 t106 t107 _ ?side1 ?side2 A19.out).mono ?_); (case side1 => repeat (first | exact (Kd.R_reads' HO_6.out).2.2 | (with_reducible refine Kd.C_alloc ?_ _) | (with_reducible refine Kd.C_drewN ?_ _) | (with_reducible refine Kd.C_drew ?_))); (case side2 => exact (Kd.R_reads' HO_6.out).2.1); rintro e w' ⟨rfl, ⟨nd, rfl⟩⟩; refine ⟨_, rfl, ?_⟩; (try (rw [drewN_self w21]; generalize hq_ : World.drewN w21 _ = w21; have n0_ : Aside0 (Kd.R Kd.string 9 w21 w.heap.size (fun _ => True) (.slice Ao22 x6_3.length co22) x6_3) := ⟨by rw [← hq_]; exact (rk_ HO_6.out)⟩; have n1_ : Aside0 (w21.heap[gb103]? = some (.cells #[.slice none 0 0, .slice none 0 0, .slice none 0 0] 61 (0, 0))) := ⟨by rw [← hq_]; exact (bk_ BK103.out)⟩; have n2_ : Aside0 (Below w.heap.size w w21) := ⟨by rw [← hq_]; exact (hs_)⟩; clear HO_6 BK103 HB hq_; have HO_6 := n0_; have BK103 := n1_; have HB := n2_; clear n0_ n1_ n2_)); obtain ⟨Z23_0, Z23_1, Z23_2, F23⟩ := bc3 BK103.out)); refine bodyPost_ret (results_ct rfl _ _ gb103 61 #[.slice none 0 0, .slice none 0 0, .slice none 0 0] (0, 0) _ rfl (by have b_ := BK103; exact zb_) Try.underlying61 rfl (by kernel_rfl)) rfl ?_; exact ⟨_, _, _, z2_, z5_, z5_, z10_, hs_⟩
        rw [if_neg c20] at H; have c20b0 := df_ c20; clear c20; by_cases c24 : x6_3.length < 8796093022208; rotate_left
        ·rw [if_neg c24] at H; exact no_ H
        rw [if_pos c24] at H; have LMc24 := Aside0.mk c24; clear c24; obtain ⟨y108, hy108⟩ : ∃ y_ : List ByteArray, y_ = (x6_3 ++ [t106]) := ⟨_, rfl⟩; replace H : (graftageref27_readFile.l0 k3 a0 t104 (wrap64 (x5_3 + 20)) y108 (wrap64 (x7_3 + 1))) = some (r1, r2, r3, r4) := by first | (rw [hy108]; with_reducible exact H) | (have H2_ := (Option.bind_some _ _).symm.trans H; rw [hy108]; with_reducible exact H2_) | (have H2_ := (Option.bind_some _ _).symm.trans H; with_reducible exact H2_) | with_reducible exact H | (rw [hy108]; exact H) | exact H
        have Ny108 := Aside0.mk hy108; clear hy108; have H' := Aside0.mk H; clear H; go_wp2_with (first | ((with_reducible refine gate_callee (f := 54) rfl ?_); refine gl_ (some 53) Try.func54 #[.string (a0.extract (x5_3 : Int).toNat ((wrap64 (x5_3 + 20)) : Int).toNat)] ?_; refine cm_ (graftageref02_Hex.calls k3 (a0.extract (x5_3 : Int).toNat ((wrap64 (x5_3 + 20)) : Int).toNat) t106 _ A18.out) fun w25 hb => ?_; replace HO_6 := Aside0.mk (Kd.R_below (rk_ HO_6.out) hb); replace BK103 := ab_ BK103 hb; replace HB := hbs_ hb; (try clear hb); (try clear hb2); (try clear hk); (try clear hi); obtain ⟨Ao26, co26, eo26⟩ := Kd.R_slice HO_6.out; subst eo26) | ((with_reducible refine gate_callee (f := 55) rfl ?_); refine gl_ (some 56) Try.func55 #[.slice Ao26 x6_3.length co26, .string t106] ?_; (with_reducible refine (graftageref27_place.calls k3 _ _ x6_3 t106 t107 _ ?side1 ?side2 A19.out).mono ?_); (case side1 => repeat (first | exact (Kd.R_reads' HO_6.out).2.2 | (with_reducible refine Kd.C_alloc ?_ _) | (with_reducible refine Kd.C_drewN ?_ _) | (with_reducible refine Kd.C_drew ?_))); (case side2 => exact (Kd.R_reads' HO_6.out).2.1); rintro e w' ⟨rfl, ⟨nd, rfl⟩⟩; refine ⟨_, rfl, ?_⟩) | ((with_reducible refine gate_builtin (b := .append) (xs := #[.tmp 59, .tmp 61]) rfl ?_); (try (refine gate_guard (by rfl) ?_; dsimp only)); at_builtin; refine Kd.R_append Kd.string (w0 := w) w.heap.size rfl (.tmp 59) (.tmp 61) 35 9 (.string ⟨#[]⟩) 16 rfl Try.underlying35 info9 rfl (by decide) (by omega) (.slice Ao26 x6_3.length co26) x6_3 t106 [.string t106] (fun _ => True) (fun _ => False) rfl rfl ?aP (fun _ hk => hk.elim) ?aF ?aO ?aB ?aS ?aL ?_; (case aP => exact rfl); (case aB => exact (hs_)); (case aF => exact (fun _ _ => trivial)); (case aO => exact (rk_ HO_6.out)); (case aS => exact (below_size (hs_))); (case aL => have := LMc24.out; omega); intro v109 w27 ho hb hg hat; rw [← Ny108.out] at ho; have n0_ := Aside0.mk (blk_grown (g := gb103) (o := .cells #[.slice none 0 0, .slice none 0 0, .slice none 0 0] 61 (0, 0)) (bk_ BK103.out) hg (Kd.R_ne HO_6.out BK103.out (by decide))); have n1_ := Aside0.mk (hb); have n2_ := Aside0.mk (ho); clear BK103; clear HB; clear HO_6; have BK103 := n0_; have HB := n1_; have HO110 := n2_; clear n0_ n1_ n2_; clear ho hb hg hat)); go_roundg k3
        case measure => have := HJ1.out; have := HJ9.out; have := HK3.out; omega
        case rel => exact ⟨(wrap64 (x5_3 + 20)), (y108), (wrap64 (x7_3 + 1)), z0_, z0_, H', ⟨by have := HJ1.out; have := HJ9.out; have := HK3.out; omega⟩, ⟨by (with_reducible repeat (first | apply Kd.R_alloc | apply Kd.R_drewN | apply Kd.R_drew)); exact HO110.out⟩, ⟨bk_ BK103.out⟩, ⟨hs_⟩⟩
       rw [if_neg c14] at H; have c14b0 := df_ c14; clear c14; obtain ⟨⟨t111, t112⟩, A28, H⟩ := bx_ H; dsimp only at H; by_cases c29 : t112 < 0
       ·rw [if_pos c29] at H; have c29b0 := dt_ c29; clear c29; obtain ⟨rfl, rfl, rfl, rfl⟩ := pj4_ H; go_wp2_with (first | ((with_reducible refine gate_callee (f := 53) rfl ?_); refine gl_ (some 69) Try.func53 #[.string a0, .int .i64 x5_3, .int .i64 t104] ?_; refine cm_ (graftageref27_number.calls k3 a0 x5_3 t104 t111 t112 _ A28.out) ?_; rintro w' ⟨nd, rfl⟩; (try (rw [drewN_self wr]; generalize hq_ : World.drewN wr _ = wr; have n0_ : Aside0 (Kd.R Kd.string 9 wr w.heap.size (fun _ => True) u6 x6_3) := ⟨by rw [← hq_]; exact (rk_ HO_6.out)⟩; have n1_ : Aside0 (wr.heap[gb103]? = some (.cells #[.slice none 0 0, .slice none 0 0, .slice none 0 0] 61 (0, 0))) := ⟨by rw [← hq_]; exact (bk_ BK103.out)⟩; have n2_ : Aside0 (Below w.heap.size w wr) := ⟨by rw [← hq_]; exact (hs_)⟩; clear HO_6 BK103 HB hq_; have HO_6 := n0_; have BK103 := n1_; have HB := n2_; clear n0_ n1_ n2_)); obtain ⟨Z30_0, Z30_1, Z30_2, F30⟩ := bc3 BK103.out)); refine bodyPost_ret (results_ct rfl _ _ gb103 61 #[.slice none 0 0, .slice none 0 0, .slice none 0 0] (0, 0) _ rfl (by have b_ := BK103; exact zb_) Try.underlying61 rfl (by kernel_rfl)) rfl ?_; exact ⟨_, _, _, z2_, z5_, z5_, z10_, hs_⟩
       rw [if_neg c29] at H; have c29b0 := df_ c29; clear c29; have H' := Aside0.mk H; clear H; go_wp2_with (first | ((with_reducible refine gate_callee (f := 53) rfl ?_); refine gl_ (some 69) Try.func53 #[.string a0, .int .i64 x5_3, .int .i64 t104] ?_; refine cm_ (graftageref27_number.calls k3 a0 x5_3 t104 t111 t112 _ A28.out) ?_; rintro w' ⟨nd, rfl⟩)); go_loopg [10, 11, 12, 13] k3 (fun kq v10 v11 v12 v13 w' => ∃ (x10_4 : Int) (x11_4 : List Int) (x12_4 : List (S25)) (x13_4 : Int), v10 = .int .i64 x10_4 ∧ v13 = .int .i64 x13_4 ∧ Aside0 (graftageref27_readFile.l1 kq a0 t104 x6_3 t111 x10_4 x11_4 x12_4 x13_4 = some (r1, r2, r3, r4)) ∧ Aside0 (kq ≤ k3) ∧ Aside0 (Kd.R Kd.string 9 w' w.heap.size (fun _ => True) u6 x6_3) ∧ Aside0 (Kd.R (Kd.int .i64) 3 w' w.heap.size (fun _ => True) v11 x11_4) ∧ Aside0 (Kd.S k25 25 w' w.heap.size (fun k_ => some k_ ≠ (v11 : Value).ownBlock) v12 x12_4) ∧ Aside0 (w'.heap[gb103]? = some (.cells #[(.slice none 0 0), (.slice none 0 0), (.slice none 0 0)] 61 (0, 0))) ∧ Aside0 (Below w.heap.size w w'))
       case atStart => exact ⟨(t112), (([] : List Int)), (([] : List (S25))), (0), z0_, z0_, H', ⟨Nat.le_refl _⟩, ⟨z11_⟩, ⟨z5_⟩, ⟨z10_⟩, ⟨bk_ BK103.out⟩, ⟨hs_⟩⟩
       case round =>
        clear H'; try clear c1
        try clear c2
        try clear p2
        try clear c4
        try clear c4b0
        try clear c4b1
        try clear c5
        try clear c5b0
        try clear c5b1
        try clear c6
        try clear c6b0
        try clear c6b1
        try clear p6
        try clear c7
        try clear c11
        try clear c11b0
        try clear c12
        try clear c14
        try clear c14b0
        try clear c15
        try clear c15b0
        try clear c15b1
        try clear c16
        try clear c16b0
        try clear c16b1
        try clear c17
        try clear c17b0
        try clear c17b1
        try clear c20
        try clear c20b0
        try clear c24
        try clear c29
        try clear c29b0
        try clear Z13_0 Z13_1 Z13_2
        try clear Z23_0 Z23_1 Z23_2
        try clear Z30_0 Z30_1 Z30_2
        try clear Z8_0 Z8_1 Z8_2
        try clear F13
        try clear F23
        try clear F30
        try clear F8
        try clear p2
        try clear p6
        obtain ⟨x10_4, x11_4, x12_4, x13_4, rfl, rfl, HA, HK4, HO_6, HO_11, HO_12, BK103, HB⟩ := hrel
        cases gk with
        | zero => exact absurd HA.out (by simp [graftageref27_readFile.l1])
        | succ k4 =>
         have H := HA.out; clear HA; simp only [graftageref27_readFile.l1] at H; by_cases c31 : x13_4 < t111; rotate_left
         ·rw [if_neg c31] at H; have c31b0 := df_ c31; clear c31; obtain ⟨rfl, rfl, rfl, rfl⟩ := pj4_ H; obtain ⟨Ao60, co60, eo60⟩ := Kd.S_slice HO_12.out; subst eo60; obtain ⟨Ao61, co61, eo61⟩ := Kd.R_slice HO_11.out; subst eo61; obtain ⟨Ao62, co62, eo62⟩ := Kd.R_slice HO_6.out; subst eo62; obtain ⟨Z63_0, Z63_1, Z63_2, F63⟩ := bc3 BK103.out; go_wp2
          refine bodyPost_ret (results_ct rfl _ _ gb103 61 #[.slice Ao62 x6_3.length co62, .slice Ao61 x11_4.length co61, .slice Ao60 x12_4.length co60] (0, 0) _ rfl (by have b_ := BK103; exact zb_) Try.underlying61 rfl (by kernel_rfl)) rfl ?_; exact ⟨_, _, _, z2_, by (with_reducible repeat (first | apply Kd.R_alloc | apply Kd.R_drewN | apply Kd.R_drew)); exact Kd.R_mono (Kd.R_far (p := ⟨gb103, 2, none⟩) (Kd.R_far (p := ⟨gb103, 1, none⟩) (Kd.R_far (p := ⟨gb103, 0, none⟩) (Kd.R_types HO_6.out BK103.out (by decide)) (fun _ hk => hk.2) (.slice Ao62 x6_3.length co62)) (fun _ hk => hk.2) (.slice Ao61 x11_4.length co61)) (fun _ hk => hk.2) (.slice Ao60 x12_4.length co60)) (fun _ hk => trivial), by (with_reducible repeat (first | apply Kd.R_alloc | apply Kd.R_drewN | apply Kd.R_drew)); exact Kd.R_mono (Kd.R_far (p := ⟨gb103, 2, none⟩) (Kd.R_far (p := ⟨gb103, 1, none⟩) (Kd.R_far (p := ⟨gb103, 0, none⟩) (Kd.R_types HO_11.out BK103.out (by decide)) (fun _ hk => hk.2) (.slice Ao62 x6_3.length co62)) (fun _ hk => hk.2) (.slice Ao61 x11_4.length co61)) (fun _ hk => hk.2) (.slice Ao60 x12_4.length co60)) (fun _ hk => trivial), by (with_reducible repeat (first | apply Kd.S_alloc | apply Kd.S_drewN | apply Kd.S_drew)); exact Kd.S_mono (Kd.S_far (p := ⟨gb103, 2, none⟩) (Kd.S_far (p := ⟨gb103, 1, none⟩) (Kd.S_far (p := ⟨gb103, 0, none⟩) (Kd.S_types HO_12.out BK103.out (by decide)) (fun _ hk => hk.2) (.slice Ao62 x6_3.length co62)) (fun _ hk => hk.2) (.slice Ao61 x11_4.length co61)) (fun _ hk => hk.2) (.slice Ao60 x12_4.length co60)) (fun _ hk => hk.1), hs_⟩
         rw [if_pos c31] at H; have c31b0 := dt_ c31; clear c31; obtain ⟨⟨t113, t114, t115, t118⟩, A32, H⟩ := bx_ H; dsimp only at H; by_cases c33 : t118 < 0
         ·rw [if_pos c33] at H; have c33b0 := dt_ c33; clear c33; obtain ⟨rfl, rfl, rfl, rfl⟩ := pj4_ H; go_wp2_with (first | ((with_reducible refine gate_callee (f := 56) rfl ?_); refine gl_ (some 84) Try.func56 #[.string a0, .int .i64 x10_4, .int .i64 t104] ?_; (with_reducible refine (graftageref27_pick.calls k4 a0 x10_4 t104 t113 t114 t115 t118 _ A32.out).mono ?_); rintro e w34 ⟨v116, rfl, ho0, hb⟩; refine ⟨_, rfl, ?_⟩; replace HO_6 := Aside0.mk (Kd.R_below (rk_ HO_6.out) hb); replace HO_12 := Aside0.mk (Kd.S_elder' z8_ (Kd.R_base ho0) hb); have HO117 := Aside0.mk (Kd.R_lower (Kd.R_new' ho0 (Kd.R_lt (rk_ HO_11.out))) (below_size (hs_))); replace HO_11 := Aside0.mk (Kd.R_elder' (rk_ HO_11.out) (Kd.R_base ho0) hb); replace BK103 := ab_ BK103 hb; replace HB := hbs_ hb; (try clear hb); (try clear hb2); (try clear hk); (try clear hi); (try clear ho0)) | ((with_reducible refine gate_dst (N := 15) rfl ?_); (try (refine gate_guard (by rfl) ?_; dsimp only)); refine be_ (cs := #[.int .i64 0, .slice none 0 0]) (t := 25) ?_; intro gb119 hg w35 hbox hb; replace HO_6 := Aside0.mk (Kd.R_below (rk_ HO_6.out) hb); replace HO_11 := Aside0.mk (Kd.R_below (rk_ HO_11.out) hb); replace HO_12 := Aside0.mk (Kd.S_below (Kd.S_elderB z8_ gb119 (Nat.le_of_eq hg.symm)) hb); replace HO117 := Aside0.mk (Kd.R_below (rk_ HO117.out) hb); have BK119 := Aside0.mk (hbox); have GW119 := Aside0.mk ((by rw [hg]; exact (below_size (hs_)) : w.heap.size ≤ gb119)); have GE119 := Aside0.mk ((by rw [hg]; exact (below_size (hs_)) : w.heap.size ≤ gb119)); replace HB := hbs_ hb; have NB103_119 := Aside0.mk (nl2_ hg BK103.out); have NB119_103 := Aside0.mk (ng2_ hg BK103.out); replace BK103 := ab_ BK103 hb; clear hb hbox hg; have hnb36 := NB119_103.out; have hnc36 := NB103_119.out; obtain ⟨Z37_0, Z37_1, F37⟩ := bc2 BK119.out; obtain ⟨Ao38, co38, eo38⟩ := Kd.R_slice HO117.out; subst eo38; obtain ⟨Z39_0, Z39_1, Z39_2, F39⟩ := bc3 BK103.out)); refine bodyPost_ret (results_ct rfl _ _ gb103 61 #[.slice none 0 0, .slice none 0 0, .slice none 0 0] (0, 0) _ rfl (by have b_ := BK103; have f_ := NB103_119; exact zb_) Try.underlying61 rfl (by kernel_rfl)) rfl ?_; exact ⟨_, _, _, z2_, z5_, z5_, z10_, hs_⟩
         rw [if_neg c33] at H; have c33b0 := df_ c33; clear c33; obtain ⟨t120, A40, H⟩ := bx_ H; by_cases c41 : t120 = true
         ·subst c41; rw [if_pos rfl] at H; obtain ⟨rfl, rfl, rfl, rfl⟩ := pj4_ H; go_wp2_with (first | ((with_reducible refine gate_callee (f := 56) rfl ?_); refine gl_ (some 84) Try.func56 #[.string a0, .int .i64 x10_4, .int .i64 t104] ?_; (with_reducible refine (graftageref27_pick.calls k4 a0 x10_4 t104 t113 t114 t115 t118 _ A32.out).mono ?_); rintro e w42 ⟨v116, rfl, ho0, hb⟩; refine ⟨_, rfl, ?_⟩; replace HO_6 := Aside0.mk (Kd.R_below (rk_ HO_6.out) hb); replace HO_12 := Aside0.mk (Kd.S_elder' z8_ (Kd.R_base ho0) hb); have HO117 := Aside0.mk (Kd.R_lower (Kd.R_new' ho0 (Kd.R_lt (rk_ HO_11.out))) (below_size (hs_))); replace HO_11 := Aside0.mk (Kd.R_elder' (rk_ HO_11.out) (Kd.R_base ho0) hb); replace BK103 := ab_ BK103 hb; replace HB := hbs_ hb; (try clear hb); (try clear hb2); (try clear hk); (try clear hi); (try clear ho0)) | ((with_reducible refine gate_dst (N := 15) rfl ?_); (try (refine gate_guard (by rfl) ?_; dsimp only)); refine be_ (cs := #[.int .i64 0, .slice none 0 0]) (t := 25) ?_; intro gb119 hg w43 hbox hb; replace HO_6 := Aside0.mk (Kd.R_below (rk_ HO_6.out) hb); replace HO_11 := Aside0.mk (Kd.R_below (rk_ HO_11.out) hb); replace HO_12 := Aside0.mk (Kd.S_below (Kd.S_elderB z8_ gb119 (Nat.le_of_eq hg.symm)) hb); replace HO117 := Aside0.mk (Kd.R_below (rk_ HO117.out) hb); have BK119 := Aside0.mk (hbox); have GW119 := Aside0.mk ((by rw [hg]; exact (below_size (hs_)) : w.heap.size ≤ gb119)); have GE119 := Aside0.mk ((by rw [hg]; exact (below_size (hs_)) : w.heap.size ≤ gb119)); replace HB := hbs_ hb; have NB103_119 := Aside0.mk (nl2_ hg BK103.out); have NB119_103 := Aside0.mk (ng2_ hg BK103.out); replace BK103 := ab_ BK103 hb; clear hb hbox hg; have hnb44 := NB119_103.out; have hnc44 := NB103_119.out; obtain ⟨Z45_0, Z45_1, F45⟩ := bc2 BK119.out; obtain ⟨Ao46, co46, eo46⟩ := Kd.R_slice HO117.out; subst eo46; obtain ⟨Ao47, co47, eo47⟩ := Kd.R_slice HO_11.out; subst eo47) | (go_at_call 46; (with_reducible refine (graftageref27_Has.calls k4 _ _ x11_4 t113 true _ ?side1 ?side2 A40.out).mono ?_); (case side1 => refine (Kd.R_reads' (e := 3) (base := w.heap.size) (ok := fun k_ => (True ∧ some k_ ≠ (.slice Ao46 t115.length co46 : Value).ownBlock)) (n := x11_4.length) (c := co47) ?_).2.2; exact (by (with_reducible repeat (first | apply Kd.R_alloc | apply Kd.R_drewN | apply Kd.R_drew)); exact (Kd.R_mono (Kd.R_far (p := ⟨gb119, 1, none⟩) (Kd.R_far (p := ⟨gb119, 0, none⟩) (Kd.R_types HO_11.out BK119.out (by decide)) (fun _ hk => hk.2) (.int .i64 t114)) (fun _ hk => hk.2) (.slice Ao46 t115.length co46)) (fun _ h_ => h_.1)))); (case side2 => exact (Kd.R_reads' HO_11.out).2.1); rintro e w' ⟨rfl, ⟨nd, rfl⟩⟩; obtain ⟨Z48_0, Z48_1, Z48_2, F48⟩ := bc3 BK103.out)); refine bodyPost_ret (results_ct rfl _ _ gb103 61 #[.slice none 0 0, .slice none 0 0, .slice none 0 0] (0, 0) _ rfl (by have b_ := BK103; have f_ := NB103_119; exact zb_) Try.underlying61 rfl (by kernel_rfl)) rfl ?_
          exact ⟨_, _, _, z2_, z5_, z5_, z10_, hs_⟩
         replace c41 := Bool.eq_false_iff.mpr c41; subst c41; rw [if_neg nft_] at H; by_cases c49 : x11_4.length < 17592186044416; rotate_left
         ·rw [if_neg c49] at H; exact no_ H
         rw [if_pos c49] at H; have LMc49 := Aside0.mk c49; clear c49; obtain ⟨y121, hy121⟩ : ∃ y_ : List Int, y_ = (x11_4 ++ [t113]) := ⟨_, rfl⟩; replace H : (if x12_4.length < 4398046511104 then (graftageref27_readFile.l1 k4 a0 t104 x6_3 t111 t118 y121 (x12_4 ++ [(⟨t114, t115⟩ : S25)]) (wrap64 (x13_4 + 1))) else (none)) = some (r1, r2, r3, r4) := by first | (rw [hy121]; with_reducible exact H) | (have H2_ := (Option.bind_some _ _).symm.trans H; rw [hy121]; with_reducible exact H2_) | (have H2_ := (Option.bind_some _ _).symm.trans H; with_reducible exact H2_) | with_reducible exact H | (rw [hy121]; exact H) | exact H
         have Ny121 := Aside0.mk hy121; clear hy121; by_cases c50 : x12_4.length < 4398046511104; rotate_left
         ·rw [if_neg c50] at H; exact no_ H
         rw [if_pos c50] at H; have LMc50 := Aside0.mk c50; clear c50; obtain ⟨y124, hy124⟩ : ∃ y_ : List (S25), y_ = (x12_4 ++ [(⟨t114, t115⟩ : S25)]) := ⟨_, rfl⟩; replace H : (graftageref27_readFile.l1 k4 a0 t104 x6_3 t111 t118 y121 y124 (wrap64 (x13_4 + 1))) = some (r1, r2, r3, r4) := by first | (rw [hy124]; with_reducible exact H) | (have H2_ := (Option.bind_some _ _).symm.trans H; rw [hy124]; with_reducible exact H2_) | (have H2_ := (Option.bind_some _ _).symm.trans H; with_reducible exact H2_) | with_reducible exact H | (rw [hy124]; exact H) | exact H
         have Ny124 := Aside0.mk hy124; clear hy124; have H' := Aside0.mk H; clear H; go_wp2_with (first | ((with_reducible refine gate_callee (f := 56) rfl ?_); refine gl_ (some 84) Try.func56 #[.string a0, .int .i64 x10_4, .int .i64 t104] ?_; (with_reducible refine (graftageref27_pick.calls k4 a0 x10_4 t104 t113 t114 t115 t118 _ A32.out).mono ?_); rintro e w51 ⟨v116, rfl, ho0, hb⟩; refine ⟨_, rfl, ?_⟩; replace HO_6 := Aside0.mk (Kd.R_below (rk_ HO_6.out) hb); replace HO_12 := Aside0.mk (Kd.S_elder' z8_ (Kd.R_base ho0) hb); have HO117 := Aside0.mk (Kd.R_lower (Kd.R_new' ho0 (Kd.R_lt (rk_ HO_11.out))) (below_size (hs_))); replace HO_11 := Aside0.mk (Kd.R_elder' (rk_ HO_11.out) (Kd.R_base ho0) hb); replace BK103 := ab_ BK103 hb; replace HB := hbs_ hb; (try clear hb); (try clear hb2); (try clear hk); (try clear hi); (try clear ho0)) | ((with_reducible refine gate_dst (N := 15) rfl ?_); (try (refine gate_guard (by rfl) ?_; dsimp only)); refine be_ (cs := #[.int .i64 0, .slice none 0 0]) (t := 25) ?_; intro gb119 hg w52 hbox hb; replace HO_6 := Aside0.mk (Kd.R_below (rk_ HO_6.out) hb); replace HO_11 := Aside0.mk (Kd.R_below (rk_ HO_11.out) hb); replace HO_12 := Aside0.mk (Kd.S_below (Kd.S_elderB z8_ gb119 (Nat.le_of_eq hg.symm)) hb); replace HO117 := Aside0.mk (Kd.R_below (rk_ HO117.out) hb); have BK119 := Aside0.mk (hbox); have GW119 := Aside0.mk ((by rw [hg]; exact (below_size (hs_)) : w.heap.size ≤ gb119)); have GE119 := Aside0.mk ((by rw [hg]; exact (below_size (hs_)) : w.heap.size ≤ gb119)); replace HB := hbs_ hb; have NB103_119 := Aside0.mk (nl2_ hg BK103.out); have NB119_103 := Aside0.mk (ng2_ hg BK103.out); replace BK103 := ab_ BK103 hb; clear hb hbox hg; have hnb53 := NB119_103.out; have hnc53 := NB103_119.out; obtain ⟨Z54_0, Z54_1, F54⟩ := bc2 BK119.out; obtain ⟨Ao55, co55, eo55⟩ := Kd.R_slice HO117.out; subst eo55; obtain ⟨Ao56, co56, eo56⟩ := Kd.R_slice HO_11.out; subst eo56) | (go_at_call 46; (with_reducible refine (graftageref27_Has.calls k4 _ _ x11_4 t113 false _ ?side1 ?side2 A40.out).mono ?_); (case side1 => refine (Kd.R_reads' (e := 3) (base := w.heap.size) (ok := fun k_ => (True ∧ some k_ ≠ (.slice Ao55 t115.length co55 : Value).ownBlock)) (n := x11_4.length) (c := co56) ?_).2.2; exact (by (with_reducible repeat (first | apply Kd.R_alloc | apply Kd.R_drewN | apply Kd.R_drew)); exact (Kd.R_mono (Kd.R_far (p := ⟨gb119, 1, none⟩) (Kd.R_far (p := ⟨gb119, 0, none⟩) (Kd.R_types HO_11.out BK119.out (by decide)) (fun _ hk => hk.2) (.int .i64 t114)) (fun _ hk => hk.2) (.slice Ao55 t115.length co55)) (fun _ h_ => h_.1)))); (case side2 => exact (Kd.R_reads' HO_11.out).2.1); rintro e w' ⟨rfl, ⟨nd, rfl⟩⟩) | ((with_reducible refine gate_builtin (b := .append) (xs := #[.tmp 96, .tmp 98]) rfl ?_); (try (refine gate_guard (by rfl) ?_; dsimp only)); at_builtin; refine Kd.R_append (Kd.int .i64) (w0 := w) w.heap.size rfl (.tmp 96) (.tmp 98) 22 3 (.int .i64 0) 8 rfl Try.underlying22 info3 rfl (by decide) (by omega) (.slice Ao56 x11_4.length co56) x11_4 t113 [.int .i64 t113] (fun k_ => some k_ ≠ (.slice Ao55 t115.length co55 : Value).ownBlock) (fun _ => False) rfl (by first | (go_simp; done) | (go_simp; rfl)) ?aP (fun _ hk => hk.elim) ?aF ?aO ?aB ?aS ?aL ?_; (case aP => exact rfl); (case aB => exact (hs_)); (case aF => exact (fun k_ hk => Kd.fresh' (Kd.R_lt (by (with_reducible repeat (first | apply Kd.R_alloc | apply Kd.R_drewN | apply Kd.R_drew)); exact (Kd.R_mono (Kd.R_far (p := ⟨gb119, 1, none⟩) (Kd.R_far (p := ⟨gb119, 0, none⟩) (Kd.R_types HO117.out BK119.out (by decide)) (fun _ hk => hk.2) (.int .i64 t114)) (fun _ hk => hk.2) (.slice Ao55 t115.length co55)) (fun _ h_ => h_.1)))) k_ hk)); (case aO => exact (by (with_reducible repeat (first | apply Kd.R_alloc | apply Kd.R_drewN | apply Kd.R_drew)); exact Kd.R_mono (Kd.R_far (p := ⟨gb119, 1, none⟩) (Kd.R_far (p := ⟨gb119, 0, none⟩) (Kd.R_types HO_11.out BK119.out (by decide)) (fun _ hk => hk.2) (.int .i64 t114)) (fun _ hk => hk.2) (.slice Ao55 t115.length co55)) (fun _ hk => hk.1.2))); (case aS => exact (below_size (hs_))); (case aL => have := LMc49.out; omega); intro v122 w57 ho hb hg hat; rw [← Ny121.out] at ho; have n0_ := Aside0.mk (Kd.R_over' (by (with_reducible repeat (first | apply Kd.R_alloc | apply Kd.R_drewN | apply Kd.R_drew)); exact (Kd.R_mono (Kd.R_far (p := ⟨gb119, 1, none⟩) (Kd.R_far (p := ⟨gb119, 0, none⟩) (Kd.R_types HO_6.out BK119.out (by decide)) (fun _ hk => hk.2) (.int .i64 t114)) (fun _ hk => hk.2) (.slice Ao55 t115.length co55)) (fun _ h_ => h_.1))) (Kd.R_typed (by (with_reducible repeat (first | apply Kd.R_alloc | apply Kd.R_drewN | apply Kd.R_drew)); exact (Kd.R_mono (Kd.R_far (p := ⟨gb119, 1, none⟩) (Kd.R_far (p := ⟨gb119, 0, none⟩) (Kd.R_types HO_11.out BK119.out (by decide)) (fun _ hk => hk.2) (.int .i64 t114)) (fun _ hk => hk.2) (.slice Ao55 t115.length co55)) (fun _ h_ => h_.1)))) (by decide) hg); have n1_ := Aside0.mk (Kd.S_after (ok := (fun k_ => some k_ ≠ (.slice Ao55 t115.length co55 : Value).ownBlock ∧ k_ ≠ gb119)) (by (with_reducible repeat (first | apply Kd.S_alloc | apply Kd.S_drewN | apply Kd.S_drew)); exact Kd.S_mono (Kd.S_far (p := ⟨gb119, 1, none⟩) (Kd.S_far (p := ⟨gb119, 0, none⟩) (Kd.S_mono HO_12.out (fun k_ hk => (⟨hk, hk.2⟩ : _ ∧ k_ ≠ gb119))) (fun _ hk => hk.2) (.int .i64 t114)) (fun _ hk => hk.2) (.slice Ao55 t115.length co55)) (fun _ hk => ⟨⟨hk.1.1.2, hk.1.2⟩, hk.1.1.1⟩)) hg hat); have n2_ := Aside0.mk (blk_grown (g := gb103) (o := .cells #[.slice none 0 0, .slice none 0 0, .slice none 0 0] 61 (0, 0)) (by have b_ := BK103; have f_ := NB103_119; exact zb_) hg (Kd.R_ne HO_11.out BK103.out (by decide))); have n3_ := Aside0.mk (Kd.R_after (ok := (fun _ => True)) (by (with_reducible repeat (first | apply Kd.R_alloc | apply Kd.R_drewN | apply Kd.R_drew)); exact Kd.R_mono (Kd.R_far (p := ⟨gb119, 1, none⟩) (Kd.R_far (p := ⟨gb119, 0, none⟩) (Kd.R_types HO117.out BK119.out (by decide)) (fun _ hk => hk.2) (.int .i64 t114)) (fun _ hk => hk.2) (.slice Ao55 t115.length co55)) (fun _ hk => ⟨trivial, hk.1.2⟩)) hg hat); have n4_ := Aside0.mk (blk_grown (g := gb119) (o := .cells #[.int .i64 t114, .slice Ao55 t115.length co55] 25 (0, 0)) (by have b_ := BK119; exact zb_) hg (Kd.R_ne HO_11.out BK119.out (by decide))); have n5_ := Aside0.mk (hb); have n6_ := Aside0.mk (ho); clear HO_6; clear HO_12; clear BK103; clear HO117; clear BK119; clear HB; clear HO_11; have HO_6 := n0_; have HO_12 := n1_; have BK103 := n2_; have HO117 := n3_; have BK119 := n4_; have HB := n5_; have HO123 := n6_; clear n0_ n1_ n2_ n3_ n4_ n5_ n6_; clear ho hb hg hat; obtain ⟨Z58_0, Z58_1, F58⟩ := bc2 BK119.out) | ((with_reducible refine gate_builtin (b := .append) (xs := #[.tmp 100, .tmp 102]) rfl ?_); (try (refine gate_guard (by rfl) ?_; dsimp only)); at_builtin; refine Kd.S_append k25 (w0 := w) w.heap.size rfl (.tmp 100) (.tmp 102) 59 25 (.agg #[(.int .i64 0), (.slice none 0 0)]) 32 rfl Try.underlying59 info25 rfl (by decide) (by omega) u12 x12_4 (⟨t114, t115⟩ : S25) [.int .i64 t114, .slice Ao55 t115.length co55] (fun k_ => some k_ ≠ (v122 : Value).ownBlock ∧ k_ ≠ gb119) (fun k_ => some k_ = (.slice Ao55 t115.length co55 : Value).ownBlock) rfl rfl ?aP (fun k_ hk_ => ((Kd.R_mono (ok' := fun k_ => ((fun k_ => some k_ ≠ (v122 : Value).ownBlock ∧ k_ ≠ gb119)) k_ ∧ some k_ ≠ (u12 : Value).ownBlock) (Kd.R_types (Kd.R_apart' (HO117.out) (Kd.S_typed HO_12.out) (by decide)) BK119.out (by decide)) (fun k_ hk => ⟨⟨hk.1.1.2, hk.2⟩, hk.1.2⟩))).1 k_ hk_.symm) ?aF ?aO ?aB ?aS ?aL ?_; (case aP => exact k25_mkM _ _ _ (⟨t114, t115⟩ : S25) (Kd.R_mono (Kd.R_tight rfl (Kd.R_mono (ok' := fun k_ => ((fun k_ => some k_ ≠ (v122 : Value).ownBlock ∧ k_ ≠ gb119)) k_ ∧ some k_ ≠ (u12 : Value).ownBlock) (Kd.R_types (Kd.R_apart' (HO117.out) (Kd.S_typed HO_12.out) (by decide)) BK119.out (by decide)) (fun k_ hk => ⟨⟨hk.1.1.2, hk.2⟩, hk.1.2⟩))) (fun _ h_ => h_))); (case aB => exact (hs_)); (case aF => exact (fun k_ hk => ⟨Kd.fresh' (Kd.R_lt (rk_ HO123.out)) k_ hk, Kd.freshB (g := gb119) (o := .cells #[.int .i64 t114, .slice Ao55 t115.length co55] 25 (0, 0)) (bk_ BK119.out) k_ hk⟩)); (case aO => exact (by (with_reducible repeat (first | apply Kd.S_alloc | apply Kd.S_drewN | apply Kd.S_drew)); exact Kd.S_mono HO_12.out (fun k_ hk => ⟨⟨hk.2, hk.1.2⟩, fun e_ => hk.1.1 e_⟩))); (case aS => exact (below_size (hs_))); (case aL => have := LMc50.out; omega); intro v125 w59 ho hb hg hat; rw [← Ny124.out] at ho; have n0_ := Aside0.mk (Kd.R_over' (rk_ HO_6.out) (Kd.S_typed z8_) (by decide) hg); have n1_ := Aside0.mk (blk_grown (g := gb103) (o := .cells #[.slice none 0 0, .slice none 0 0, .slice none 0 0] 61 (0, 0)) (bk_ BK103.out) hg (Kd.S_ne HO_12.out BK103.out (by decide))); have n2_ := Aside0.mk (blk_grown (g := gb119) (o := .cells #[.int .i64 t114, .slice Ao55 t115.length co55] 25 (0, 0)) (bk_ BK119.out) hg (Kd.S_away HO_12.out (fun _ hk => hk.1.2))); have n3_ := Aside0.mk (Kd.R_over' (rk_ HO123.out) (Kd.S_typed z8_) (by decide) hg); have n4_ := Aside0.mk (hb); have n5_ := Aside0.mk (ho); clear HO_6; clear BK103; clear BK119; clear HO123; clear HB; clear HO_12; clear HO117; have HO_6 := n0_; have BK103 := n1_; have BK119 := n2_; have HO123 := n3_; have HB := n4_; have HO126 := n5_; clear n0_ n1_ n2_ n3_ n4_ n5_; clear ho hb hg hat))
         go_roundg k4
         case measure => have := HJ1.out; have := HJ9.out; have := HK3.out; have := HK4.out; omega
         case rel => exact ⟨(t118), (y121), (y124), (wrap64 (x13_4 + 1)), z0_, z0_, H', ⟨by have := HJ1.out; have := HJ9.out; have := HK3.out; have := HK4.out; omega⟩, ⟨z11_⟩, ⟨by (with_reducible repeat (first | apply Kd.R_alloc | apply Kd.R_drewN | apply Kd.R_drew)); exact Kd.R_mono HO123.out (fun _ hk => trivial)⟩, ⟨by (with_reducible repeat (first | apply Kd.S_alloc | apply Kd.S_drewN | apply Kd.S_drew)); exact Kd.S_mono HO126.out (fun _ hk => hk.1)⟩, ⟨bk_ BK103.out⟩, ⟨hs_⟩⟩


mutual
def graftageref27_Ask.j0 : Nat → List Bool → List Bool → Bool → List ByteArray → List Int → List (S25) → Option (List ByteArray × Int)
 | 0, _, _, _, _, _, _ => none
 | k + 1, x12, x14, x49, x140000, x140001, x140002 => if x49 = true then (some (([] : List ByteArray), 5)) else (graftageref27_Ask.l0 k x12 x14 ([] : List ByteArray) 0 x140000 x140001 x140002)
def graftageref27_Ask.l0 : Nat → List Bool → List Bool → List ByteArray → Int → List ByteArray → List Int → List (S25) → Option (List ByteArray × Int)
 | 0, _, _, _, _, _, _, _ => none
 | k + 1, x12, x14, x16, x17, x140000, x140001, x140002 => if x17 < (x140000.length : Int) then (if 0 ≤ x17 then (if x17 < (x12.length : Int) then (if rdOf false x12 x17 = true then (if x17 < (x14.length : Int) then (if rdOf false x14 x17 = true then (graftageref27_Ask.l0 k x12 x14 x16 (wrap64 (x17 + 1)) x140000 x140001 x140002) else (if x16.length < 8796093022208 then (graftageref27_Ask.l0 k x12 x14 (x16 ++ [rdOf ByteArray.empty x140000 x17]) (wrap64 (x17 + 1)) x140000 x140001 x140002) else (none))) else (none)) else (graftageref27_Ask.l0 k x12 x14 x16 (wrap64 (x17 + 1)) x140000 x140001 x140002)) else (none)) else (none)) else (some (x16, 0))
end
def graftageref27_Ask.f (k : Nat) (a0 : ByteArray) (l1 : List ByteArray) (l2 : List ByteArray) : Option (List ByteArray × Int) := (graftageref01_Open.f k a0).bind fun bt127 => (if bt127.2 = true then ((graftageref27_readFile.f k bt127.1).bind fun bt129 => (if bt129.2.2.2 = true then ((graftageref27_reached.f k bt129.1 bt129.2.1 bt129.2.2.1 l1).bind fun bt140 => ((graftageref27_reached.f k bt129.1 bt129.2.1 bt129.2.2.1 l2).bind fun bt144 => (if bt140.2 = true then (graftageref27_Ask.j0 k bt140.1 bt144.1 (!bt144.2) bt129.1 bt129.2.1 bt129.2.2.1) else (graftageref27_Ask.j0 k bt140.1 bt144.1 true bt129.1 bt129.2.1 bt129.2.2.1)))) else (some (([] : List ByteArray), 2)))) else (some (([] : List ByteArray), 7)))
set_option maxHeartbeats 8000000 in
set_option maxRecDepth 100000 in
theorem graftageref27_Ask.calls (k : Nat) (a0 : ByteArray) (A1 : Option Addr) (c1 : Nat) (l1 : List ByteArray) (A2 : Option Addr) (c2 : Nat) (l2 : List ByteArray) (r1 : List ByteArray) (r2 : Int) (w : World) (hr1 : Kd.C Kd.string w A1 l1.length l1) (hc1 : l1.length ≤ c1) (hr2 : Kd.C Kd.string w A2 l2.length l2) (hc2 : l2.length ≤ c2) (h : graftageref27_Ask.f k a0 l1 l2 = some (r1, r2)) :
  Calls Try.prog 24 #[.string a0, .slice A1 l1.length c1, .slice A2 l2.length c2] w fun e w' => ∃ v0_ : Value, e = .returned (.tuple #[v0_, .int .i64 r2]) ∧ Kd.R Kd.string 9 w' w.heap.size (fun _ => True) v0_ r1 ∧ Below w.heap.size w w' := by
 have hu61 := Try.underlying61; have HR1 := Aside0.mk hr1; have HC1 := Aside0.mk hc1; clear hr1 hc1; have HR2 := Aside0.mk hr2; have HC2 := Aside0.mk hc2; clear hr2 hc2; have HB := Aside0.mk (Below.refl w.heap.size w); unfold graftageref27_Ask.f at h; have H := h; clear h; obtain ⟨⟨t127, t128⟩, A4, H⟩ := bx_ H; dsimp only at H; by_cases c5 : t128 = true; rotate_left
 ·replace c5 := Bool.eq_false_iff.mpr c5; subst c5; rw [if_neg nft_] at H; obtain ⟨rfl, rfl⟩ := pj2_ H; go_enter Try.func24, Try.ntmps24; go_wp2_with (first | ((with_reducible refine gate_callee (f := 41) rfl ?_); refine gl_ (some 20) Try.func41 #[.string a0] ?_; refine cm_ (graftageref01_Open.calls k a0 t127 false _ A4.out) fun w49 hb => ?_; replace HB := ah_ HB hb; (try clear hb); (try clear hb2); (try clear hk); (try clear hi)))
  go_ret2
  exact ⟨_, z2_, z5_, hb_ HB.out⟩
 subst c5; rw [if_pos rfl] at H; obtain ⟨⟨t129, t132, t135, t138⟩, A6, H⟩ := bx_ H; dsimp only at H; by_cases c7 : t138 = true; rotate_left
 ·replace c7 := Bool.eq_false_iff.mpr c7; subst c7; rw [if_neg nft_] at H; obtain ⟨rfl, rfl⟩ := pj2_ H; go_enter Try.func24, Try.ntmps24; go_wp2_with (first | ((with_reducible refine gate_callee (f := 41) rfl ?_); refine gl_ (some 20) Try.func41 #[.string a0] ?_; refine cm_ (graftageref01_Open.calls k a0 t127 true _ A4.out) fun w42 hb => ?_; replace HB := ah_ HB hb; (try clear hb); (try clear hb2); (try clear hk); (try clear hi)) | ((with_reducible refine gate_callee (f := 42) rfl ?_); refine gl_ (some 27) Try.func42 #[.string t127] ?_; (with_reducible refine (graftageref27_readFile.calls k t127 t129 t132 t135 false _ A6.out).mono ?_); rintro e w43 ⟨v130, v133, v136, rfl, ho0, ho1, ho2, hb⟩; refine ⟨_, rfl, ?_⟩; have HO131 := Aside0.mk (Kd.R_lower ho0 (below_size (hb_ HB.out))); have HO134 := Aside0.mk (Kd.R_lower ho1 (below_size (hb_ HB.out))); have HO137 := Aside0.mk (Kd.S_lower ho2 (below_size (hb_ HB.out))); replace HB := ah_ HB hb; (try clear hb); (try clear hb2); (try clear hk); (try clear hi); (try clear ho0); (try clear ho1); (try clear ho2)) | ((with_reducible refine gate_dst (N := 10) rfl ?_); refine be_ (cs := #[.slice none 0 0, .slice none 0 0, .slice none 0 0]) (t := 61) ?_; intro gb139 hg w44 hbox hb; replace HO131 := Aside0.mk (Kd.R_below (rk_ HO131.out) hb); replace HO134 := Aside0.mk (Kd.R_below (rk_ HO134.out) hb); replace HO137 := Aside0.mk (Kd.S_below z14_ hb); have BK139 := Aside0.mk (hbox); have GW139 := ag_ hg HB; have GE139 := ag_ hg HB; replace HB := ah_ HB hb; clear hb hbox hg; obtain ⟨Ao45, co45, eo45⟩ := Kd.R_slice HO131.out; subst eo45; obtain ⟨Z46_0, Z46_1, Z46_2, F46⟩ := bc3 BK139.out; obtain ⟨Ao47, co47, eo47⟩ := Kd.R_slice HO134.out; subst eo47; obtain ⟨Ao48, co48, eo48⟩ := Kd.S_slice HO137.out; subst eo48)); go_ret2
  exact ⟨_, z2_, z5_, hs_⟩
 subst c7; rw [if_pos rfl] at H; obtain ⟨⟨t140, t143⟩, A8, H⟩ := bx_ H; dsimp only at H; obtain ⟨⟨t144, t147⟩, A9, H⟩ := bx_ H; dsimp only at H; have HC10 := Aside0.mk H; clear H; go_enter Try.func24, Try.ntmps24; go_upto_region 9 with (first | ((with_reducible refine gate_callee (f := 41) rfl ?_); refine gl_ (some 20) Try.func41 #[.string a0] ?_; refine cm_ (graftageref01_Open.calls k a0 t127 true _ A4.out) fun w11 hb => ?_; replace HB := ah_ HB hb; (try clear hb); (try clear hb2); (try clear hk); (try clear hi)) | ((with_reducible refine gate_callee (f := 42) rfl ?_); refine gl_ (some 27) Try.func42 #[.string t127] ?_; (with_reducible refine (graftageref27_readFile.calls k t127 t129 t132 t135 true _ A6.out).mono ?_); rintro e w12 ⟨v130, v133, v136, rfl, ho0, ho1, ho2, hb⟩; refine ⟨_, rfl, ?_⟩; have HO131 := Aside0.mk (Kd.R_lower ho0 (below_size (hb_ HB.out))); have HO134 := Aside0.mk (Kd.R_lower ho1 (below_size (hb_ HB.out))); have HO137 := Aside0.mk (Kd.S_lower ho2 (below_size (hb_ HB.out))); replace HB := ah_ HB hb; (try clear hb); (try clear hb2); (try clear hk); (try clear hi); (try clear ho0); (try clear ho1); (try clear ho2)) | ((with_reducible refine gate_dst (N := 10) rfl ?_); refine be_ (cs := #[.slice none 0 0, .slice none 0 0, .slice none 0 0]) (t := 61) ?_; intro gb139 hg w13 hbox hb; replace HO131 := Aside0.mk (Kd.R_below (rk_ HO131.out) hb); replace HO134 := Aside0.mk (Kd.R_below (rk_ HO134.out) hb); replace HO137 := Aside0.mk (Kd.S_below z14_ hb); have BK139 := Aside0.mk (hbox); have GW139 := ag_ hg HB; have GE139 := ag_ hg HB; replace HB := ah_ HB hb; clear hb hbox hg; obtain ⟨Ao14, co14, eo14⟩ := Kd.R_slice HO131.out; subst eo14; obtain ⟨Z15_0, Z15_1, Z15_2, F15⟩ := bc3 BK139.out; obtain ⟨Ao16, co16, eo16⟩ := Kd.R_slice HO134.out; subst eo16; obtain ⟨Ao17, co17, eo17⟩ := Kd.S_slice HO137.out; subst eo17) | ((with_reducible refine gate_callee (f := 43) rfl ?_); refine gl_ (some 35) Try.func43 #[.agg #[.slice Ao14 t129.length co14, .slice Ao16 t132.length co16, .slice Ao17 t135.length co17], .slice A1 l1.length c1] ?_; (with_reducible refine (graftageref27_reached.calls k _ _ t129 _ _ t132 _ _ t135 _ _ l1 t140 t143 _ ?side1 ?side2 ?side3 ?side4 ?side5 ?side6 ?side7 ?side8 A8.out).mono ?_); (case side1 => refine (Kd.R_reads' (e := 9) (base := w.heap.size) (ok := fun k_ => True) (n := t129.length) (c := co14) ?_).2.2; exact (by (with_reducible repeat (first | apply Kd.R_alloc | apply Kd.R_drewN | apply Kd.R_drew)); exact (Kd.R_mono (Kd.R_far (p := ⟨gb139, 2, none⟩) (Kd.R_far (p := ⟨gb139, 1, none⟩) (Kd.R_far (p := ⟨gb139, 0, none⟩) (Kd.R_types HO131.out BK139.out (by decide)) (fun _ hk => hk.2) (.slice Ao14 t129.length co14)) (fun _ hk => hk.2) (.slice Ao16 t132.length co16)) (fun _ hk => hk.2) (.slice Ao17 t135.length co17)) (fun _ h_ => h_.1)))); (case side2 => exact (Kd.R_reads' HO131.out).2.1); (case side3 => refine (Kd.R_reads' (e := 3) (base := w.heap.size) (ok := fun k_ => True) (n := t132.length) (c := co16) ?_).2.2; exact (by (with_reducible repeat (first | apply Kd.R_alloc | apply Kd.R_drewN | apply Kd.R_drew)); exact (Kd.R_mono (Kd.R_far (p := ⟨gb139, 2, none⟩) (Kd.R_far (p := ⟨gb139, 1, none⟩) (Kd.R_far (p := ⟨gb139, 0, none⟩) (Kd.R_types HO134.out BK139.out (by decide)) (fun _ hk => hk.2) (.slice Ao14 t129.length co14)) (fun _ hk => hk.2) (.slice Ao16 t132.length co16)) (fun _ hk => hk.2) (.slice Ao17 t135.length co17)) (fun _ h_ => h_.1)))); (case side4 => exact (Kd.R_reads' HO134.out).2.1); (case side5 => refine (Kd.S_reads' (e := 25) (base := w.heap.size) (ok := fun k_ => some k_ ≠ (.slice Ao16 t132.length co16 : Value).ownBlock) (n := t135.length) (c := co17) ?_).2.2; exact (by (with_reducible repeat (first | apply Kd.S_alloc | apply Kd.S_drewN | apply Kd.S_drew)); exact (Kd.S_mono (Kd.S_far (p := ⟨gb139, 2, none⟩) (Kd.S_far (p := ⟨gb139, 1, none⟩) (Kd.S_far (p := ⟨gb139, 0, none⟩) (Kd.S_types HO137.out BK139.out (by decide)) (fun _ hk => hk.2) (.slice Ao14 t129.length co14)) (fun _ hk => hk.2) (.slice Ao16 t132.length co16)) (fun _ hk => hk.2) (.slice Ao17 t135.length co17)) (fun _ h_ => h_.1)))); (case side6 => exact (Kd.S_reads' HO137.out).2.1); (case side7 => exact Kd.C_below HR1.out (hs_)); (case side8 => exact HC1.out); rintro e w18 ⟨v141, rfl, ho0, hb⟩; refine ⟨_, rfl, ?_⟩; replace HO131 := Aside0.mk (Kd.R_below (by (with_reducible repeat (first | apply Kd.R_alloc | apply Kd.R_drewN | apply Kd.R_drew)); exact (Kd.R_mono (Kd.R_far (p := ⟨gb139, 2, none⟩) (Kd.R_far (p := ⟨gb139, 1, none⟩) (Kd.R_far (p := ⟨gb139, 0, none⟩) (Kd.R_types HO131.out BK139.out (by decide)) (fun _ hk => hk.2) (.slice Ao14 t129.length co14)) (fun _ hk => hk.2) (.slice Ao16 t132.length co16)) (fun _ hk => hk.2) (.slice Ao17 t135.length co17)) (fun _ h_ => h_.1))) hb); replace HO134 := Aside0.mk (Kd.R_below (by (with_reducible repeat (first | apply Kd.R_alloc | apply Kd.R_drewN | apply Kd.R_drew)); exact (Kd.R_mono (Kd.R_far (p := ⟨gb139, 2, none⟩) (Kd.R_far (p := ⟨gb139, 1, none⟩) (Kd.R_far (p := ⟨gb139, 0, none⟩) (Kd.R_types HO134.out BK139.out (by decide)) (fun _ hk => hk.2) (.slice Ao14 t129.length co14)) (fun _ hk => hk.2) (.slice Ao16 t132.length co16)) (fun _ hk => hk.2) (.slice Ao17 t135.length co17)) (fun _ h_ => h_.1))) hb); replace HO137 := Aside0.mk (Kd.S_below (by (with_reducible repeat (first | apply Kd.S_alloc | apply Kd.S_drewN | apply Kd.S_drew)); exact (Kd.S_mono (Kd.S_far (p := ⟨gb139, 2, none⟩) (Kd.S_far (p := ⟨gb139, 1, none⟩) (Kd.S_far (p := ⟨gb139, 0, none⟩) (Kd.S_types HO137.out BK139.out (by decide)) (fun _ hk => hk.2) (.slice Ao14 t129.length co14)) (fun _ hk => hk.2) (.slice Ao16 t132.length co16)) (fun _ hk => hk.2) (.slice Ao17 t135.length co17)) (fun _ h_ => h_.1))) hb); have HO142 := Aside0.mk (Kd.R_lower ho0 (below_size (hs_))); replace BK139 := Aside0.mk (blk_below (g := gb139) (o := .cells #[.slice Ao14 t129.length co14, .slice Ao16 t132.length co16, .slice Ao17 t135.length co17] 61 (0, 0)) (by have b_ := BK139; exact zb_) hb); replace HB := hbs_ hb; (try clear hb); (try clear hb2); (try clear hk); (try clear hi); (try clear ho0); obtain ⟨Z19_0, Z19_1, Z19_2, F19⟩ := bc3 BK139.out) | ((with_reducible refine gate_callee (f := 43) rfl ?_); refine gl_ (some 41) Try.func43 #[.agg #[.slice Ao14 t129.length co14, .slice Ao16 t132.length co16, .slice Ao17 t135.length co17], .slice A2 l2.length c2] ?_; (with_reducible refine (graftageref27_reached.calls k _ _ t129 _ _ t132 _ _ t135 _ _ l2 t144 t147 _ ?side1 ?side2 ?side3 ?side4 ?side5 ?side6 ?side7 ?side8 A9.out).mono ?_); (case side1 => repeat (first | exact (Kd.R_reads' HO131.out).2.2 | (with_reducible refine Kd.C_alloc ?_ _) | (with_reducible refine Kd.C_drewN ?_ _) | (with_reducible refine Kd.C_drew ?_))); (case side2 => exact (Kd.R_reads' HO131.out).2.1); (case side3 => repeat (first | exact (Kd.R_reads' HO134.out).2.2 | (with_reducible refine Kd.C_alloc ?_ _) | (with_reducible refine Kd.C_drewN ?_ _) | (with_reducible refine Kd.C_drew ?_))); (case side4 => exact (Kd.R_reads' HO134.out).2.1); (case side5 => repeat (first | exact (Kd.S_reads' HO137.out).2.2 | (with_reducible refine Kd.C_alloc ?_ _) | (with_reducible refine Kd.C_drewN ?_ _) | (with_reducible refine Kd.C_drew ?_))); (case side6 => exact (Kd.S_reads' HO137.out).2.1); (case side7 => repeat (first | exact (Kd.C_below HR2.out HB.out) | (with_reducible refine Kd.C_alloc ?_ _) | (with_reducible refine Kd.C_drewN ?_ _) | (with_reducible refine Kd.C_drew ?_))); (case side8 => exact HC2.out); rintro e w20 ⟨v145, rfl, ho0, hb⟩; refine ⟨_, rfl, ?_⟩; replace HO131 := Aside0.mk (Kd.R_below (rk_ HO131.out) hb); replace HO134 := Aside0.mk (Kd.R_below (rk_ HO134.out) hb); replace HO137 := Aside0.mk (Kd.S_below z14_ hb); have HO146 := Aside0.mk (Kd.R_lower (Kd.R_new' ho0 (Kd.R_lt (rk_ HO142.out))) (below_size (hs_))); replace HO142 := Aside0.mk (Kd.R_elder' (rk_ HO142.out) (Kd.R_base ho0) hb); replace BK139 := ab_ BK139 hb; replace HB := hbs_ hb; (try clear hb); (try clear hb2); (try clear hk); (try clear hi); (try clear ho0)))
 (try simp only [Act.put, List.setIfInBounds_toArray, List.set_cons_zero, List.set_cons_succ])
 go_cut [49] (fun v49 wc => ∃ (kq : Nat) (x49_9 : Bool), v49 = .bool x49_9 ∧ Aside0 (graftageref27_Ask.j0 kq t140 t144 x49_9 t129 t132 t135 = some (r1, r2)) ∧ Aside0 (kq ≤ k) ∧ Aside0 (Kd.R Kd.bool 4 wc w.heap.size (fun k_ => some k_ ≠ (v145 : Value).ownBlock) v141 t140) ∧ Aside0 (Kd.R Kd.bool 4 wc w.heap.size (fun k_ => some k_ ≠ (v141 : Value).ownBlock) v145 t144) ∧ Aside0 (Kd.R Kd.string 9 wc w.heap.size (fun _ => True) (.slice Ao14 t129.length co14) t129) ∧ Aside0 (Kd.R (Kd.int .i64) 3 wc w.heap.size (fun _ => True) (.slice Ao16 t132.length co16) t132) ∧ Aside0 (Kd.S k25 25 wc w.heap.size (fun k_ => some k_ ≠ ((.slice Ao16 t132.length co16) : Value).ownBlock) (.slice Ao17 t135.length co17) t135) ∧ Aside0 (wc.heap[gb139]? = some (.cells #[(.slice Ao14 t129.length co14), (.slice Ao16 t132.length co16), (.slice Ao17 t135.length co17)] 61 (0, 0))) ∧ Aside0 (Below w.heap.size w wc))
 case first =>
  have H := HC10.out; clear HC10; by_cases c21 : t143 = true
  ·subst c21; rw [if_pos rfl] at H; have H' := Aside0.mk H; clear H; go_wp2
   go_meet
   case rel => exact ⟨_, (!t147), z0_, H', ⟨z6_⟩, ⟨by (with_reducible repeat (first | apply Kd.R_alloc | apply Kd.R_drewN | apply Kd.R_drew)); exact Kd.R_mono HO142.out (fun _ hk => hk.2)⟩, ⟨by (with_reducible repeat (first | apply Kd.R_alloc | apply Kd.R_drewN | apply Kd.R_drew)); exact Kd.R_mono HO146.out (fun _ hk => hk.2)⟩, ⟨by (with_reducible repeat (first | apply Kd.R_alloc | apply Kd.R_drewN | apply Kd.R_drew)); exact HO131.out⟩, ⟨by (with_reducible repeat (first | apply Kd.R_alloc | apply Kd.R_drewN | apply Kd.R_drew)); exact HO134.out⟩, ⟨z14_⟩, ⟨bk_ BK139.out⟩, ⟨hs_⟩⟩
  replace c21 := Bool.eq_false_iff.mpr c21; subst c21; rw [if_neg nft_] at H; have H' := Aside0.mk H; clear H; go_wp2
  go_meet
  case rel => exact ⟨_, (true), z0_, H', ⟨z6_⟩, ⟨by (with_reducible repeat (first | apply Kd.R_alloc | apply Kd.R_drewN | apply Kd.R_drew)); exact Kd.R_mono HO142.out (fun _ hk => hk.2)⟩, ⟨by (with_reducible repeat (first | apply Kd.R_alloc | apply Kd.R_drewN | apply Kd.R_drew)); exact Kd.R_mono HO146.out (fun _ hk => hk.2)⟩, ⟨by (with_reducible repeat (first | apply Kd.R_alloc | apply Kd.R_drewN | apply Kd.R_drew)); exact HO131.out⟩, ⟨by (with_reducible repeat (first | apply Kd.R_alloc | apply Kd.R_drewN | apply Kd.R_drew)); exact HO134.out⟩, ⟨z14_⟩, ⟨bk_ BK139.out⟩, ⟨hs_⟩⟩
 case rest =>
  clear HC10; try clear c1
  try clear c2
  try clear p2
  try clear c4
  try clear c5
  try clear c7
  try clear c21
  try clear Z15_0 Z15_1 Z15_2
  try clear Z19_0 Z19_1 Z19_2
  try clear F15
  try clear F19
  obtain ⟨kq, x49_9, rfl, HA, HJ9, HO_12, HO_14, HO_140000, HO_140001, HO_140002, BK139, HB⟩ := hcut
  cases kq with
  | zero => exact absurd HA.out (by simp [graftageref27_Ask.j0])
  | succ kj9 =>
   have H := HA.out; clear HA; simp only [graftageref27_Ask.j0] at H; by_cases c22 : x49_9 = true
   ·subst c22; rw [if_pos rfl] at H; obtain ⟨rfl, rfl⟩ := pj2_ H; go_wp2
    go_ret2
    exact ⟨_, z2_, z5_, hs_⟩
   replace c22 := Bool.eq_false_iff.mpr c22; subst c22; rw [if_neg nft_] at H; have H' := Aside0.mk H; clear H; go_wp2
   go_loopg [16, 17] kj9 (fun kq v16 v17 w' => ∃ (x16_2 : List ByteArray) (x17_2 : Int), v17 = .int .i64 x17_2 ∧ Aside0 (graftageref27_Ask.l0 kq t140 t144 x16_2 x17_2 t129 t132 t135 = some (r1, r2)) ∧ Aside0 (kq ≤ kj9) ∧ Aside0 (Kd.R Kd.bool 4 w' w.heap.size (fun k_ => some k_ ≠ (v145 : Value).ownBlock) v141 t140) ∧ Aside0 (Kd.R Kd.bool 4 w' w.heap.size (fun k_ => some k_ ≠ (v141 : Value).ownBlock) v145 t144) ∧ Aside0 (Kd.R Kd.string 9 w' w.heap.size (fun k_ => some k_ ≠ ((.slice Ao14 t129.length co14) : Value).ownBlock) v16 x16_2) ∧ Aside0 (Kd.R Kd.string 9 w' w.heap.size (fun k_ => some k_ ≠ (v16 : Value).ownBlock) (.slice Ao14 t129.length co14) t129) ∧ Aside0 (Kd.R (Kd.int .i64) 3 w' w.heap.size (fun _ => True) (.slice Ao16 t132.length co16) t132) ∧ Aside0 (Kd.S k25 25 w' w.heap.size (fun k_ => some k_ ≠ ((.slice Ao16 t132.length co16) : Value).ownBlock) (.slice Ao17 t135.length co17) t135) ∧ Aside0 (w'.heap[gb139]? = some (.cells #[(.slice Ao14 t129.length co14), (.slice Ao16 t132.length co16), (.slice Ao17 t135.length co17)] 61 (0, 0))) ∧ Aside0 (Below w.heap.size w w'))
   case atStart => exact ⟨(([] : List ByteArray)), (0), z0_, H', ⟨Nat.le_refl _⟩, ⟨z26_⟩, ⟨z12_⟩, ⟨z5_⟩, ⟨by (with_reducible repeat (first | apply Kd.R_alloc | apply Kd.R_drewN | apply Kd.R_drew)); exact Kd.R_mono HO_140000.out (fun _ hk => (by simp [Value.ownBlock]))⟩, ⟨z27_⟩, ⟨z15_⟩, ⟨bk_ BK139.out⟩, ⟨hs_⟩⟩
   case round =>
    clear H'; try clear c1
    try clear c2
    try clear p2
    try clear c4
    try clear c5
    try clear c7
    try clear c21
    try clear c22
    try clear Z15_0 Z15_1 Z15_2
    try clear Z19_0 Z19_1 Z19_2
    try clear F15
    try clear F19
    try clear p2
    obtain ⟨x16_2, x17_2, rfl, HA, HK2, HO_12, HO_14, HO_16, HO_140000, HO_140001, HO_140002, BK139, HB⟩ := hrel
    cases gk with
    | zero => exact absurd HA.out (by simp [graftageref27_Ask.l0])
    | succ k2 =>
     have H := HA.out; clear HA; simp only [graftageref27_Ask.l0] at H; by_cases c23 : x17_2 < (t129.length : Int); rotate_left
     ·rw [if_neg c23] at H; have c23b0 := df_ c23; clear c23; obtain ⟨rfl, rfl⟩ := pj2_ H; obtain ⟨Z41_0, Z41_1, Z41_2, F41⟩ := bc3 BK139.out; go_wp2
      go_ret2
      exact ⟨_, z2_, by (with_reducible repeat (first | apply Kd.R_alloc | apply Kd.R_drewN | apply Kd.R_drew)); exact Kd.R_mono HO_16.out (fun _ hk => trivial), hs_⟩
     rw [if_pos c23] at H; have c23b0 := dt_ c23; clear c23; by_cases c24 : 0 ≤ x17_2; rotate_left
     ·rw [if_neg c24] at H; exact no_ H
     rw [if_pos c24] at H; have c24b0 := dt_ c24; clear c24; by_cases c25 : x17_2 < (t140.length : Int); rotate_left
     ·rw [if_neg c25] at H; exact no_ H
     rw [if_pos c25] at H; have c25b0 := dt_ c25; clear c25; obtain ⟨bq26, hbq26⟩ : ∃ b_ : Bool, b_ = (rdOf false t140 x17_2) := ⟨_, rfl⟩; replace H : (if bq26 = true then (if x17_2 < (t144.length : Int) then (if rdOf false t144 x17_2 = true then (graftageref27_Ask.l0 k2 t140 t144 x16_2 (wrap64 (x17_2 + 1)) t129 t132 t135) else (if x16_2.length < 8796093022208 then (graftageref27_Ask.l0 k2 t140 t144 (x16_2 ++ [rdOf ByteArray.empty t129 x17_2]) (wrap64 (x17_2 + 1)) t129 t132 t135) else (none))) else (none)) else (graftageref27_Ask.l0 k2 t140 t144 x16_2 (wrap64 (x17_2 + 1)) t129 t132 t135)) = some (r1, r2) := by rw [← hbq26] at H; exact H
     have Nbq26 := Aside0.mk hbq26; clear hbq26; by_cases c27 : bq26 = true; rotate_left
     ·replace c27 := Bool.eq_false_iff.mpr c27; subst c27; rw [if_neg nft_] at H; have H' := Aside0.mk H; clear H; obtain ⟨Z39_0, Z39_1, Z39_2, F39⟩ := bc3 BK139.out; obtain ⟨Ao40, co40, eo40⟩ := Kd.R_slice HO_12.out; subst eo40; have p148 : 0 ≤ (x17_2 : Int) := y0_; have q148 : x17_2 < (t140.length : Int) := y0_; obtain ⟨ad148, e148, hx148_0⟩ := Kd.at_bool (Kd.R_reads' HO_12.out).2.2 x17_2 p148 q148; (try rw [← Nbq26.out] at hx148_0)
      cases e148
      replace p148 := eq_true p148; replace q148 := eq_true q148; go_wp2
      go_roundg k2
      case measure => have := HJ9.out; have := HK2.out; omega
      case rel => exact ⟨(x16_2), (wrap64 (x17_2 + 1)), z0_, H', ⟨by have := HJ9.out; have := HK2.out; omega⟩, ⟨z26_⟩, ⟨z12_⟩, ⟨by (with_reducible repeat (first | apply Kd.R_alloc | apply Kd.R_drewN | apply Kd.R_drew)); exact HO_16.out⟩, ⟨by (with_reducible repeat (first | apply Kd.R_alloc | apply Kd.R_drewN | apply Kd.R_drew)); exact HO_140000.out⟩, ⟨z27_⟩, ⟨z15_⟩, ⟨bk_ BK139.out⟩, ⟨hs_⟩⟩
     subst c27; rw [if_pos rfl] at H; by_cases c28 : x17_2 < (t144.length : Int); rotate_left
     ·rw [if_neg c28] at H; exact no_ H
     rw [if_pos c28] at H; have c28b0 := dt_ c28; clear c28; obtain ⟨bq29, hbq29⟩ : ∃ b_ : Bool, b_ = (rdOf false t144 x17_2) := ⟨_, rfl⟩; replace H : (if bq29 = true then (graftageref27_Ask.l0 k2 t140 t144 x16_2 (wrap64 (x17_2 + 1)) t129 t132 t135) else (if x16_2.length < 8796093022208 then (graftageref27_Ask.l0 k2 t140 t144 (x16_2 ++ [rdOf ByteArray.empty t129 x17_2]) (wrap64 (x17_2 + 1)) t129 t132 t135) else (none))) = some (r1, r2) := by rw [← hbq29] at H; exact H
     have Nbq29 := Aside0.mk hbq29; clear hbq29; by_cases c30 : bq29 = true
     ·subst c30; rw [if_pos rfl] at H; have H' := Aside0.mk H; clear H; obtain ⟨Z31_0, Z31_1, Z31_2, F31⟩ := bc3 BK139.out; obtain ⟨Ao32, co32, eo32⟩ := Kd.R_slice HO_12.out; subst eo32; have p148 : 0 ≤ (x17_2 : Int) := y0_; have q148 : x17_2 < (t140.length : Int) := y0_; obtain ⟨ad148, e148, hx148_0⟩ := Kd.at_bool (Kd.R_reads' HO_12.out).2.2 x17_2 p148 q148; (try rw [← Nbq26.out] at hx148_0)
      (try rw [← Nbq29.out] at hx148_0)
      cases e148
      replace p148 := eq_true p148; replace q148 := eq_true q148; obtain ⟨Ao33, co33, eo33⟩ := Kd.R_slice HO_14.out; subst eo33; have p149 : 0 ≤ (x17_2 : Int) := y0_; have q149 : x17_2 < (t144.length : Int) := y0_; obtain ⟨ad149, e149, hx149_0⟩ := Kd.at_bool (Kd.R_reads' HO_14.out).2.2 x17_2 p149 q149; (try rw [← Nbq26.out] at hx149_0)
      (try rw [← Nbq29.out] at hx149_0)
      cases e149
      replace p149 := eq_true p149; replace q149 := eq_true q149; go_wp2
      go_roundg k2
      case measure => have := HJ9.out; have := HK2.out; omega
      case rel => exact ⟨(x16_2), (wrap64 (x17_2 + 1)), z0_, H', ⟨by have := HJ9.out; have := HK2.out; omega⟩, ⟨z26_⟩, ⟨z12_⟩, ⟨by (with_reducible repeat (first | apply Kd.R_alloc | apply Kd.R_drewN | apply Kd.R_drew)); exact HO_16.out⟩, ⟨by (with_reducible repeat (first | apply Kd.R_alloc | apply Kd.R_drewN | apply Kd.R_drew)); exact HO_140000.out⟩, ⟨z27_⟩, ⟨z15_⟩, ⟨bk_ BK139.out⟩, ⟨hs_⟩⟩
     replace c30 := Bool.eq_false_iff.mpr c30; subst c30; rw [if_neg nft_] at H; by_cases c34 : x16_2.length < 8796093022208; rotate_left
     ·rw [if_neg c34] at H; exact no_ H
     rw [if_pos c34] at H; have LMc34 := Aside0.mk c34; clear c34; obtain ⟨y151, hy151⟩ : ∃ y_ : List ByteArray, y_ = (x16_2 ++ [rdOf ByteArray.empty t129 x17_2]) := ⟨_, rfl⟩; replace H : (graftageref27_Ask.l0 k2 t140 t144 y151 (wrap64 (x17_2 + 1)) t129 t132 t135) = some (r1, r2) := by first | (rw [hy151]; with_reducible exact H) | (have H2_ := (Option.bind_some _ _).symm.trans H; rw [hy151]; with_reducible exact H2_) | (have H2_ := (Option.bind_some _ _).symm.trans H; with_reducible exact H2_) | with_reducible exact H | (rw [hy151]; exact H) | exact H
     have Ny151 := Aside0.mk hy151; clear hy151; have H' := Aside0.mk H; clear H; obtain ⟨Z35_0, Z35_1, Z35_2, F35⟩ := bc3 BK139.out; obtain ⟨Ao36, co36, eo36⟩ := Kd.R_slice HO_12.out; subst eo36; have p148 : 0 ≤ (x17_2 : Int) := y0_; have q148 : x17_2 < (t140.length : Int) := y0_; obtain ⟨ad148, e148, hx148_0⟩ := Kd.at_bool (Kd.R_reads' HO_12.out).2.2 x17_2 p148 q148; (try rw [← Nbq26.out] at hx148_0)
     (try rw [← Nbq29.out] at hx148_0)
     cases e148
     replace p148 := eq_true p148; replace q148 := eq_true q148; obtain ⟨Ao37, co37, eo37⟩ := Kd.R_slice HO_14.out; subst eo37; have p149 : 0 ≤ (x17_2 : Int) := y0_; have q149 : x17_2 < (t144.length : Int) := y0_; obtain ⟨ad149, e149, hx149_0⟩ := Kd.at_bool (Kd.R_reads' HO_14.out).2.2 x17_2 p149 q149; (try rw [← Nbq26.out] at hx149_0)
     (try rw [← Nbq29.out] at hx149_0)
     cases e149
     replace p149 := eq_true p149; replace q149 := eq_true q149; have p150 : 0 ≤ (x17_2 : Int) := y0_; have q150 : x17_2 < (t129.length : Int) := y0_; obtain ⟨ad150, e150, hx150_0⟩ := Kd.at_string (Kd.R_reads' HO_140000.out).2.2 x17_2 p150 q150
     cases e150
     replace p150 := eq_true p150; replace q150 := eq_true q150; go_wp2_with (first | ((with_reducible refine gate_builtin (b := .append) (xs := #[.tmp 68, .tmp 74]) rfl ?_); at_builtin; refine Kd.R_append Kd.string (w0 := w) w.heap.size rfl (.tmp 68) (.tmp 74) 35 9 (.string ⟨#[]⟩) 16 rfl Try.underlying35 info9 rfl (by decide) (by omega) u16 x16_2 (rdOf ByteArray.empty t129 x17_2) [.string (rdOf ByteArray.empty t129 x17_2)] (fun k_ => some k_ ≠ (.slice (some ad150) t129.length co14 : Value).ownBlock) (fun _ => False) rfl rfl ?aP (fun _ hk => hk.elim) ?aF ?aO ?aB ?aS ?aL ?_; (case aP => exact rfl); (case aB => exact (hs_)); (case aF => exact (fun k_ hk => Kd.fresh' (Kd.R_lt (rk_ HO_140000.out)) k_ hk)); (case aO => exact (rk_ HO_16.out)); (case aS => exact (below_size (hs_))); (case aL => have := LMc34.out; omega); intro v152 w38 ho hb hg hat; rw [← Ny151.out] at ho; have n0_ := Aside0.mk (Kd.R_over' (rk_ HO_12.out) (Kd.R_typed (rk_ HO_16.out)) (by decide) hg); have n1_ := Aside0.mk (Kd.R_over' (rk_ HO_14.out) (Kd.R_typed (rk_ HO_16.out)) (by decide) hg); have n2_ := Aside0.mk (Kd.R_after (ok := (fun _ => True)) (by (with_reducible repeat (first | apply Kd.R_alloc | apply Kd.R_drewN | apply Kd.R_drew)); exact Kd.R_mono HO_140000.out (fun _ hk => ⟨trivial, hk⟩)) hg hat); have n3_ := Aside0.mk (Kd.R_over' (rk_ HO_140001.out) (Kd.R_typed (rk_ HO_16.out)) (by decide) hg); have n4_ := Aside0.mk (Kd.S_over' z15_ (Kd.R_typed (rk_ HO_16.out)) (by decide) hg); have n5_ := Aside0.mk (blk_grown (g := gb139) (o := .cells #[.slice (some ad150) t129.length co14, .slice Ao16 t132.length co16, .slice Ao17 t135.length co17] 61 (0, 0)) (bk_ BK139.out) hg (Kd.R_ne HO_16.out BK139.out (by decide))); have n6_ := Aside0.mk (hb); have n7_ := Aside0.mk (ho); clear HO_12; clear HO_14; clear HO_140000; clear HO_140001; clear HO_140002; clear BK139; clear HB; clear HO_16; have HO_12 := n0_; have HO_14 := n1_; have HO_140000 := n2_; have HO_140001 := n3_; have HO_140002 := n4_; have BK139 := n5_; have HB := n6_; have HO153 := n7_; clear n0_ n1_ n2_ n3_ n4_ n5_ n6_ n7_; clear ho hb hg hat)); go_roundg k2
     case measure => have := HJ9.out; have := HK2.out; omega
     case rel => exact ⟨(y151), (wrap64 (x17_2 + 1)), z0_, H', ⟨by have := HJ9.out; have := HK2.out; omega⟩, ⟨z26_⟩, ⟨z12_⟩, ⟨by (with_reducible repeat (first | apply Kd.R_alloc | apply Kd.R_drewN | apply Kd.R_drew)); exact HO153.out⟩, ⟨by (with_reducible repeat (first | apply Kd.R_alloc | apply Kd.R_drewN | apply Kd.R_drew)); exact Kd.R_mono HO_140000.out (fun _ hk => hk.2)⟩, ⟨z27_⟩, ⟨z15_⟩, ⟨bk_ BK139.out⟩, ⟨hs_⟩⟩


mutual
def bitmap_Valid.j0 : Nat → Bool → Int → List Int → Option (Bool)
 | 0, _, _, _ => none
 | k + 1, x13, x105000, x105001 => if x13 = true then (some false) else (bitmap_Valid.l0 k 0 x105001 (x105001.length : Int) 0 x105000 x105001)
def bitmap_Valid.l0 : Nat → Int → List Int → Int → Int → Int → List Int → Option (Bool)
 | 0, _, _, _, _, _, _ => none
 | k + 1, x3, x15, x16, x17, x105000, x105001 => if x17 < x16 then (if 0 ≤ x17 then (if x17 < (x15.length : Int) then (if (rd x15 x17) < 1 then (if x17 > 0 then (some false) else (if (rd x15 x17) < 0 then (some false) else (if (x105001.length : Int) = 1 then (some false) else (if (rd x15 x17) > x105000 then (some false) else (bitmap_Valid.l0 k (wrap64 (x3 + (rd x15 x17))) x15 x16 (wrap64 (x17 + 1)) x105000 x105001))))) else (if (rd x15 x17) > x105000 then (some false) else (bitmap_Valid.l0 k (wrap64 (x3 + (rd x15 x17))) x15 x16 (wrap64 (x17 + 1)) x105000 x105001))) else (none)) else (none)) else (some (x3 == x105000))
end
def bitmap_Valid.f (k : Nat) (a0_0 : Int) (l0_1 : List Int) : Option (Bool) := if a0_0 < 0 then (bitmap_Valid.j0 k true a0_0 l0_1) else (bitmap_Valid.j0 k (decide (a0_0 > 1048576)) a0_0 l0_1)
set_option maxHeartbeats 8000000 in
set_option maxRecDepth 100000 in
theorem bitmap_Valid.calls (k : Nat) (a0_0 : Int) (A0_1 : Option Addr) (c0_1 : Nat) (l0_1 : List Int) (r : Bool) (w : World) (hr0_1 : Kd.C (Kd.int .i64) w A0_1 l0_1.length l0_1) (hc0_1 : l0_1.length ≤ c0_1) (h : bitmap_Valid.f k a0_0 l0_1 = some r) :
  Calls Try.prog 15 #[.agg #[.int .i64 a0_0, .slice A0_1 l0_1.length c0_1]] w fun e w' => e = .returned (.bool r) ∧ Below w.heap.size w w' := by
 have hu25 := Try.underlying25; have HR0_1 := Aside0.mk hr0_1; have HC0_1 := Aside0.mk hc0_1; clear hr0_1 hc0_1; have HB := Aside0.mk (Below.refl w.heap.size w); unfold bitmap_Valid.f at h; have H := h; clear h; have HC2 := Aside0.mk H; clear H; go_enter Try.func15, Try.ntmps15; go_upto_region 1 with (first | ((with_reducible refine gate_dst (N := 1) rfl ?_); (try (refine gate_guard (by rfl) ?_; dsimp only)); refine be_ (cs := #[.int .i64 a0_0, .slice A0_1 l0_1.length c0_1]) (t := 25) ?_; intro gb104 hg w3 hbox hb; have BK104 := Aside0.mk (hbox); have GW104 := ag_ hg HB; have GE104 := ag_ hg HB; replace HB := ah_ HB hb; clear hb hbox hg)); (try simp only [Act.put, List.setIfInBounds_toArray, List.set_cons_zero, List.set_cons_succ])
 go_cut [13] (fun v13 wc => ∃ (kq : Nat) (x13_1 : Bool), v13 = .bool x13_1 ∧ Aside0 (bitmap_Valid.j0 kq x13_1 a0_0 l0_1 = some r) ∧ Aside0 (kq ≤ k) ∧ Aside0 (wc.heap[gb104]? = some (.cells #[.int .i64 a0_0, (.slice A0_1 l0_1.length c0_1)] 25 (0, 0))) ∧ Aside0 (Below w.heap.size w wc))
 case first =>
  have H := HC2.out; clear HC2; by_cases c4 : a0_0 < 0
  ·rw [if_pos c4] at H; have c4b0 := dt_ c4; clear c4; (first | rw [c4b0] | (simp only [i64_w, i32_w]; rw [c4b0]) | skip); have H' := Aside0.mk H; clear H; obtain ⟨Z5_0, Z5_1, F5⟩ := bc2 BK104.out; go_wp2
   go_meet
   case rel => exact ⟨_, (true), z0_, H', ⟨z6_⟩, ⟨bk_ BK104.out⟩, ⟨hs_⟩⟩
  rw [if_neg c4] at H; have c4b0 := df_ c4; clear c4; (first | rw [c4b0] | (simp only [i64_w, i32_w]; rw [c4b0]) | skip); have H' := Aside0.mk H; clear H; obtain ⟨Z6_0, Z6_1, F6⟩ := bc2 BK104.out; go_wp2
  go_meet
  case rel => exact ⟨_, (decide (a0_0 > 1048576)), z0_, H', ⟨z6_⟩, ⟨bk_ BK104.out⟩, ⟨hs_⟩⟩
 case rest =>
  clear HC2; try clear c1
  try clear p2
  try clear c4
  try clear c4b0
  try clear Z5_0 Z5_1
  try clear Z6_0 Z6_1
  try clear F5
  try clear F6
  obtain ⟨kq, x13_1, rfl, HA, HJ1, BK104, HB⟩ := hcut
  cases kq with
  | zero => exact absurd HA.out (by simp [bitmap_Valid.j0])
  | succ kj1 =>
   have H := HA.out; clear HA; simp only [bitmap_Valid.j0] at H; by_cases c7 : x13_1 = true
   ·subst c7; rw [if_pos rfl] at H; obtain rfl := oi_ H; go_wp2
    go_ret
    exact ⟨z2_, hs_⟩
   replace c7 := Bool.eq_false_iff.mpr c7; subst c7; rw [if_neg nft_] at H; have H' := Aside0.mk H; clear H; obtain ⟨Z8_0, Z8_1, F8⟩ := bc2 BK104.out; go_wp2
   go_loopg [3, 17] kj1 (fun kq v3 v17 w' => ∃ (x3_2 : Int) (x17_2 : Int), v3 = .int .i64 x3_2 ∧ v17 = .int .i64 x17_2 ∧ Aside0 (bitmap_Valid.l0 kq x3_2 l0_1 (l0_1.length : Int) x17_2 a0_0 l0_1 = some r) ∧ Aside0 (kq ≤ kj1) ∧ Aside0 (w'.heap[gb104]? = some (.cells #[.int .i64 a0_0, (.slice A0_1 l0_1.length c0_1)] 25 (0, 0))) ∧ Aside0 (Below w.heap.size w w'))
   case atStart => exact ⟨(0), (0), z0_, z0_, H', ⟨Nat.le_refl _⟩, ⟨bk_ BK104.out⟩, ⟨hs_⟩⟩
   case round =>
    clear H'; try clear c1
    try clear p2
    try clear c4
    try clear c4b0
    try clear c7
    try clear Z5_0 Z5_1
    try clear Z6_0 Z6_1
    try clear Z8_0 Z8_1
    try clear F5
    try clear F6
    try clear F8
    try clear p2
    obtain ⟨x3_2, x17_2, rfl, rfl, HA, HK2, BK104, HB⟩ := hrel
    cases gk with
    | zero => exact absurd HA.out (by simp [bitmap_Valid.l0])
    | succ k2 =>
     have H := HA.out; clear HA; simp only [bitmap_Valid.l0] at H; by_cases c9 : x17_2 < (l0_1.length : Int); rotate_left
     ·rw [if_neg c9] at H; have c9b0 := df_ c9; clear c9; obtain rfl := oi_ H; obtain ⟨Z23_0, Z23_1, F23⟩ := bc2 BK104.out; go_wp2
      go_ret
      exact ⟨z2_, hs_⟩
     rw [if_pos c9] at H; have c9b0 := dt_ c9; clear c9; by_cases c10 : 0 ≤ x17_2; rotate_left
     ·rw [if_neg c10] at H; exact no_ H
     rw [if_pos c10] at H; have c10b0 := dt_ c10; clear c10; by_cases c11 : x17_2 < (l0_1.length : Int); rotate_left
     ·rw [if_neg c11] at H; exact no_ H
     rw [if_pos c11] at H; have c11b0 := dt_ c11; clear c11; by_cases c12 : (rd l0_1 x17_2) < 1; rotate_left
     ·rw [if_neg c12] at H; have c12b0 := df_ c12; clear c12; by_cases c20 : (rd l0_1 x17_2) > a0_0
      ·rw [if_pos c20] at H; have c20b0 := dt_ c20; clear c20; obtain rfl := oi_ H; have p105 : 0 ≤ (x17_2 : Int) := y0_; have q105 : x17_2 < (l0_1.length : Int) := y0_; obtain ⟨ad105, e105, hx105_0⟩ := Kd.at_int HR0_1.out x17_2 p105 q105
       cases e105
       replace hx105_0 := (HB.out.cell (World.block_lt_of_cell? w _ hx105_0)).trans hx105_0; replace p105 := eq_true p105; replace q105 := eq_true q105; obtain ⟨Z21_0, Z21_1, F21⟩ := bc2 BK104.out; go_wp2
       go_ret
       exact ⟨z2_, hs_⟩
      rw [if_neg c20] at H; have c20b0 := df_ c20; clear c20; have H' := Aside0.mk H; clear H; have p105 : 0 ≤ (x17_2 : Int) := y0_; have q105 : x17_2 < (l0_1.length : Int) := y0_; obtain ⟨ad105, e105, hx105_0⟩ := Kd.at_int HR0_1.out x17_2 p105 q105
      cases e105
      replace hx105_0 := (HB.out.cell (World.block_lt_of_cell? w _ hx105_0)).trans hx105_0; replace p105 := eq_true p105; replace q105 := eq_true q105; obtain ⟨Z22_0, Z22_1, F22⟩ := bc2 BK104.out; go_wp2
      go_roundg k2
      case measure => have := HJ1.out; have := HK2.out; omega
      case rel => exact ⟨(wrap64 (x3_2 + (rd l0_1 x17_2))), (wrap64 (x17_2 + 1)), z0_, z0_, H', ⟨by have := HJ1.out; have := HK2.out; omega⟩, ⟨bk_ BK104.out⟩, ⟨hs_⟩⟩
     rw [if_pos c12] at H; have c12b0 := dt_ c12; clear c12; by_cases c13 : x17_2 > 0
     ·rw [if_pos c13] at H; have c13b0 := dt_ c13; clear c13; obtain rfl := oi_ H; have p105 : 0 ≤ (x17_2 : Int) := y0_; have q105 : x17_2 < (l0_1.length : Int) := y0_; obtain ⟨ad105, e105, hx105_0⟩ := Kd.at_int HR0_1.out x17_2 p105 q105
      cases e105
      replace hx105_0 := (HB.out.cell (World.block_lt_of_cell? w _ hx105_0)).trans hx105_0; replace p105 := eq_true p105; replace q105 := eq_true q105; go_wp2
      go_ret
      exact ⟨z2_, hs_⟩
     rw [if_neg c13] at H; have c13b0 := df_ c13; clear c13; by_cases c14 : (rd l0_1 x17_2) < 0
     ·rw [if_pos c14] at H; have c14b0 := dt_ c14; clear c14; obtain rfl := oi_ H; have p105 : 0 ≤ (x17_2 : Int) := y0_; have q105 : x17_2 < (l0_1.length : Int) := y0_; obtain ⟨ad105, e105, hx105_0⟩ := Kd.at_int HR0_1.out x17_2 p105 q105
      cases e105
      replace hx105_0 := (HB.out.cell (World.block_lt_of_cell? w _ hx105_0)).trans hx105_0; replace p105 := eq_true p105; replace q105 := eq_true q105; go_wp2
      go_ret
      exact ⟨z2_, hs_⟩
     rw [if_neg c14] at H; have c14b0 := df_ c14; clear c14; by_cases c15 : (l0_1.length : Int) = 1
     ·rw [if_pos c15] at H; have c15b0 := et_ c15; have c15b1 := nf_ c15; clear c15; obtain rfl := oi_ H; have p105 : 0 ≤ (x17_2 : Int) := y0_; have q105 : x17_2 < (l0_1.length : Int) := y0_; obtain ⟨ad105, e105, hx105_0⟩ := Kd.at_int HR0_1.out x17_2 p105 q105
      cases e105
      replace hx105_0 := (HB.out.cell (World.block_lt_of_cell? w _ hx105_0)).trans hx105_0; replace p105 := eq_true p105; replace q105 := eq_true q105; obtain ⟨Z16_0, Z16_1, F16⟩ := bc2 BK104.out; go_wp2
      go_ret
      exact ⟨z2_, hs_⟩
     rw [if_neg c15] at H; have c15b0 := ef_ c15; have c15b1 := nt_ c15; by_cases c17 : (rd l0_1 x17_2) > a0_0
     ·rw [if_pos c17] at H; have c17b0 := dt_ c17; clear c17; obtain rfl := oi_ H; have p105 : 0 ≤ (x17_2 : Int) := y0_; have q105 : x17_2 < (l0_1.length : Int) := y0_; obtain ⟨ad105, e105, hx105_0⟩ := Kd.at_int HR0_1.out x17_2 p105 q105
      cases e105
      replace hx105_0 := (HB.out.cell (World.block_lt_of_cell? w _ hx105_0)).trans hx105_0; replace p105 := eq_true p105; replace q105 := eq_true q105; obtain ⟨Z18_0, Z18_1, F18⟩ := bc2 BK104.out; go_wp2
      go_ret
      exact ⟨z2_, hs_⟩
     rw [if_neg c17] at H; have c17b0 := df_ c17; clear c17; have H' := Aside0.mk H; clear H; have p105 : 0 ≤ (x17_2 : Int) := y0_; have q105 : x17_2 < (l0_1.length : Int) := y0_; obtain ⟨ad105, e105, hx105_0⟩ := Kd.at_int HR0_1.out x17_2 p105 q105
     cases e105
     replace hx105_0 := (HB.out.cell (World.block_lt_of_cell? w _ hx105_0)).trans hx105_0; replace p105 := eq_true p105; replace q105 := eq_true q105; obtain ⟨Z19_0, Z19_1, F19⟩ := bc2 BK104.out; go_wp2
     go_roundg k2
     case measure => have := HJ1.out; have := HK2.out; omega
     case rel => exact ⟨(wrap64 (x3_2 + (rd l0_1 x17_2))), (wrap64 (x17_2 + 1)), z0_, z0_, H', ⟨by have := HJ1.out; have := HK2.out; omega⟩, ⟨bk_ BK104.out⟩, ⟨hs_⟩⟩




mutual
def bitmap_List.l0 : Nat → List Int → Int → List Int → Int → Int → Option (List Int)
 | 0, _, _, _, _, _ => none
 | k + 1, x3, x4, x12, x13, x14 => if x14 < x13 then (if 0 ≤ x14 then (if x14 < (x12.length : Int) then (bitmap_List.l1 k x3 x4 x14 (rd x12 x14) x4 x12 x13 x14) else (none)) else (none)) else (some x3)
def bitmap_List.l1 : Nat → List Int → Int → Int → Int → Int → List Int → Int → Int → Option (List Int)
 | 0, _, _, _, _, _, _, _, _ => none
 | k + 1, x3, x4, x5, x6, x7, x12, x13, x14 => if (Int.tmod x5 2) = 1 then (if x7 < (wrap64 (x4 + x6)) then (if x3.length < 17592186044416 then (bitmap_List.l1 k (x3 ++ [x7]) x4 x5 x6 (wrap64 (x7 + 1)) x12 x13 x14) else (none)) else (bitmap_List.l0 k x3 (wrap64 (x4 + x6)) x12 x13 (wrap64 (x14 + 1)))) else (bitmap_List.l0 k x3 (wrap64 (x4 + x6)) x12 x13 (wrap64 (x14 + 1)))
end
def bitmap_List.f (k : Nat) (a0_0 : Int) (l0_1 : List Int) : Option (List Int) := (bitmap_Valid.f k a0_0 l0_1).bind fun t131 => (if t131 = true then (bitmap_List.l0 k ([] : List Int) 0 l0_1 (l0_1.length : Int) 0) else (some ([] : List Int)))
set_option maxHeartbeats 8000000 in
set_option maxRecDepth 100000 in
theorem bitmap_List.calls (k : Nat) (a0_0 : Int) (A0_1 : Option Addr) (c0_1 : Nat) (l0_1 : List Int) (r : List Int) (w : World) (hr0_1 : Kd.C (Kd.int .i64) w A0_1 l0_1.length l0_1) (hc0_1 : l0_1.length ≤ c0_1) (h : bitmap_List.f k a0_0 l0_1 = some r) :
  Calls Try.prog 12 #[.agg #[.int .i64 a0_0, .slice A0_1 l0_1.length c0_1]] w fun e w' => ∃ v0_ : Value, e = .returned (v0_) ∧ Kd.R (Kd.int .i64) 3 w' w.heap.size (fun _ => True) v0_ r ∧ Below w.heap.size w w' := by
 have hu25 := Try.underlying25; have HR0_1 := Aside0.mk hr0_1; have HC0_1 := Aside0.mk hc0_1; clear hr0_1 hc0_1; have HB := Aside0.mk (Below.refl w.heap.size w); unfold bitmap_List.f at h; have H := h; clear h; obtain ⟨t131, A2, H⟩ := bx_ H; by_cases c3 : t131 = true; rotate_left
 ·replace c3 := Bool.eq_false_iff.mpr c3; subst c3; rw [if_neg nft_] at H; obtain rfl := oi_ H; go_enter Try.func12, Try.ntmps12; go_wp2_with (first | ((with_reducible refine gate_dst (N := 1) rfl ?_); refine be_ (cs := #[.int .i64 a0_0, .slice A0_1 l0_1.length c0_1]) (t := 25) ?_; intro gb130 hg w15 hbox hb; have BK130 := Aside0.mk (hbox); have GW130 := ag_ hg HB; have GE130 := ag_ hg HB; replace HB := ah_ HB hb; clear hb hbox hg; obtain ⟨Z16_0, Z16_1, F16⟩ := bc2 BK130.out) | ((with_reducible refine gate_callee (f := 15) rfl ?_); refine gl_ (some 9) Try.func15 #[.agg #[.int .i64 a0_0, .slice A0_1 l0_1.length c0_1]] ?_; (with_reducible refine (bitmap_Valid.calls k a0_0 _ _ l0_1 false _ ?side1 ?side2 A2.out).mono ?_); (case side1 => repeat (first | exact (Kd.C_below HR0_1.out HB.out) | (with_reducible refine Kd.C_alloc ?_ _) | (with_reducible refine Kd.C_drewN ?_ _) | (with_reducible refine Kd.C_drew ?_))); (case side2 => exact HC0_1.out); rintro e w17 ⟨rfl, hb⟩; refine ⟨_, rfl, ?_⟩; replace BK130 := ab_ BK130 hb; replace HB := hbs_ hb; (try clear hb); (try clear hb2); (try clear hk); (try clear hi)))
  go_ret
  exact ⟨_, z2_, z5_, hs_⟩
 subst c3; rw [if_pos rfl] at H; have H' := Aside0.mk H; clear H; go_enter Try.func12, Try.ntmps12; go_wp2_with (first | ((with_reducible refine gate_dst (N := 1) rfl ?_); refine be_ (cs := #[.int .i64 a0_0, .slice A0_1 l0_1.length c0_1]) (t := 25) ?_; intro gb130 hg w4 hbox hb; have BK130 := Aside0.mk (hbox); have GW130 := ag_ hg HB; have GE130 := ag_ hg HB; replace HB := ah_ HB hb; clear hb hbox hg; obtain ⟨Z5_0, Z5_1, F5⟩ := bc2 BK130.out) | ((with_reducible refine gate_callee (f := 15) rfl ?_); refine gl_ (some 9) Try.func15 #[.agg #[.int .i64 a0_0, .slice A0_1 l0_1.length c0_1]] ?_; (with_reducible refine (bitmap_Valid.calls k a0_0 _ _ l0_1 true _ ?side1 ?side2 A2.out).mono ?_); (case side1 => repeat (first | exact (Kd.C_below HR0_1.out HB.out) | (with_reducible refine Kd.C_alloc ?_ _) | (with_reducible refine Kd.C_drewN ?_ _) | (with_reducible refine Kd.C_drew ?_))); (case side2 => exact HC0_1.out); rintro e w6 ⟨rfl, hb⟩; refine ⟨_, rfl, ?_⟩; replace BK130 := ab_ BK130 hb; replace HB := hbs_ hb; (try clear hb); (try clear hb2); (try clear hk); (try clear hi); obtain ⟨Z7_0, Z7_1, F7⟩ := bc2 BK130.out)); go_loopg [3, 4, 14] k (fun kq v3 v4 v14 w' => ∃ (x3_1 : List Int) (x4_1 : Int) (x14_1 : Int), v4 = .int .i64 x4_1 ∧ v14 = .int .i64 x14_1 ∧ Aside0 (bitmap_List.l0 kq x3_1 x4_1 l0_1 (l0_1.length : Int) x14_1 = some r) ∧ Aside0 (kq ≤ k) ∧ Aside0 (Kd.R (Kd.int .i64) 3 w' w.heap.size (fun _ => True) v3 x3_1) ∧ Aside0 (w'.heap[gb130]? = some (.cells #[.int .i64 a0_0, (.slice A0_1 l0_1.length c0_1)] 25 (0, 0))) ∧ Aside0 (Below w.heap.size w w'))
 case atStart => exact ⟨(([] : List Int)), (0), (0), z0_, z0_, H', ⟨Nat.le_refl _⟩, ⟨z5_⟩, ⟨bk_ BK130.out⟩, ⟨hs_⟩⟩
 case round =>
  clear H'; try clear c1
  try clear p2
  try clear c3
  try clear Z5_0 Z5_1
  try clear Z7_0 Z7_1
  try clear F5
  try clear F7
  obtain ⟨x3_1, x4_1, x14_1, rfl, rfl, HA, HK1, HO_3, BK130, HB⟩ := hrel
  cases gk with
  | zero => exact absurd HA.out (by simp [bitmap_List.l0])
  | succ k1 =>
   have H := HA.out; clear HA; simp only [bitmap_List.l0] at H; by_cases c8 : x14_1 < (l0_1.length : Int); rotate_left
   ·rw [if_neg c8] at H; have c8b0 := df_ c8; clear c8; obtain rfl := oi_ H; go_wp2
    go_ret
    exact ⟨_, z2_, rk_ HO_3.out, hs_⟩
   rw [if_pos c8] at H; have c8b0 := dt_ c8; clear c8; by_cases c9 : 0 ≤ x14_1; rotate_left
   ·rw [if_neg c9] at H; exact no_ H
   rw [if_pos c9] at H; have c9b0 := dt_ c9; clear c9; by_cases c10 : x14_1 < (l0_1.length : Int); rotate_left
   ·rw [if_neg c10] at H; exact no_ H
   rw [if_pos c10] at H; have c10b0 := dt_ c10; clear c10; have H' := Aside0.mk H; clear H; have p132 : 0 ≤ (x14_1 : Int) := y0_; have q132 : x14_1 < (l0_1.length : Int) := y0_; obtain ⟨ad132, e132, hx132_0⟩ := Kd.at_int HR0_1.out x14_1 p132 q132
   cases e132
   replace hx132_0 := (HB.out.cell (World.block_lt_of_cell? w _ hx132_0)).trans hx132_0; replace p132 := eq_true p132; replace q132 := eq_true q132; go_wp2
   go_loopg [3, 7] k1 (fun kq v3 v7 w' => ∃ (x3_2 : List Int) (x7_2 : Int), v7 = .int .i64 x7_2 ∧ Aside0 (bitmap_List.l1 kq x3_2 x4_1 x14_1 (rd l0_1 x14_1) x7_2 l0_1 (l0_1.length : Int) x14_1 = some r) ∧ Aside0 (kq ≤ k1) ∧ Aside0 (Kd.R (Kd.int .i64) 3 w' w.heap.size (fun _ => True) v3 x3_2) ∧ Aside0 (w'.heap[gb130]? = some (.cells #[.int .i64 a0_0, (.slice (some ad132) l0_1.length c0_1)] 25 (0, 0))) ∧ Aside0 (Below w.heap.size w w'))
   case atStart => exact ⟨(x3_1), (x4_1), z0_, H', ⟨Nat.le_refl _⟩, ⟨z9_⟩, ⟨bk_ BK130.out⟩, ⟨hs_⟩⟩
   case round =>
    clear H'; try clear c1
    try clear p1
    try clear q1
    try clear hx1
    try clear p2
    try clear c3
    try clear c8
    try clear c8b0
    try clear c9
    try clear c9b0
    try clear c10
    try clear c10b0
    try clear Z5_0 Z5_1
    try clear Z7_0 Z7_1
    try clear F5
    try clear F7
    try clear hx132_0
    try clear p132
    try clear p2
    try clear q132
    obtain ⟨x3_2, x7_2, rfl, HA, HK2, HO_3, BK130, HB⟩ := hrel
    cases gk with
    | zero => exact absurd HA.out (by simp [bitmap_List.l1])
    | succ k2 =>
     have H := HA.out; clear HA; simp only [bitmap_List.l1] at H; by_cases c11 : (Int.tmod x14_1 2) = 1; rotate_left
     ·rw [if_neg c11] at H; have c11b0 := ef_ c11; have c11b1 := nt_ c11; have H' := Aside0.mk H; clear H; go_wp2
      go_roundg k2
      case measure => have := HK1.out; have := HK2.out; omega
      case rel => exact ⟨(x3_2), (wrap64 (x4_1 + (rd l0_1 x14_1))), (wrap64 (x14_1 + 1)), z0_, z0_, H', ⟨by have := HK1.out; have := HK2.out; omega⟩, ⟨z9_⟩, ⟨bk_ BK130.out⟩, ⟨hs_⟩⟩
     rw [if_pos c11] at H; have c11b0 := et_ c11; have c11b1 := nf_ c11; clear c11; by_cases c12 : x7_2 < (wrap64 (x4_1 + (rd l0_1 x14_1))); rotate_left
     ·rw [if_neg c12] at H; have c12b0 := df_ c12; clear c12; have H' := Aside0.mk H; clear H; go_wp2
      go_roundg k2
      case measure => have := HK1.out; have := HK2.out; omega
      case rel => exact ⟨(x3_2), (wrap64 (x4_1 + (rd l0_1 x14_1))), (wrap64 (x14_1 + 1)), z0_, z0_, H', ⟨by have := HK1.out; have := HK2.out; omega⟩, ⟨z9_⟩, ⟨bk_ BK130.out⟩, ⟨hs_⟩⟩
     rw [if_pos c12] at H; have c12b0 := dt_ c12; clear c12; by_cases c13 : x3_2.length < 17592186044416; rotate_left
     ·rw [if_neg c13] at H; exact no_ H
     rw [if_pos c13] at H; have LMc13 := Aside0.mk c13; clear c13; obtain ⟨y133, hy133⟩ : ∃ y_ : List Int, y_ = (x3_2 ++ [x7_2]) := ⟨_, rfl⟩; replace H : (bitmap_List.l1 k2 y133 x4_1 x14_1 (rd l0_1 x14_1) (wrap64 (x7_2 + 1)) l0_1 (l0_1.length : Int) x14_1) = some r := by first | (rw [hy133]; with_reducible exact H) | (have H2_ := (Option.bind_some _ _).symm.trans H; rw [hy133]; with_reducible exact H2_) | (have H2_ := (Option.bind_some _ _).symm.trans H; with_reducible exact H2_) | with_reducible exact H | (rw [hy133]; exact H) | exact H
     have Ny133 := Aside0.mk hy133; clear hy133; have H' := Aside0.mk H; clear H; go_wp2_with (first | ((with_reducible refine gate_builtin (b := .append) (xs := #[.tmp 32, .tmp 34]) rfl ?_); at_builtin; refine Kd.R_append (Kd.int .i64) (w0 := w) w.heap.size rfl (.tmp 32) (.tmp 34) 22 3 (.int .i64 0) 8 rfl Try.underlying22 info3 rfl (by decide) (by omega) u3 x3_2 x7_2 [.int .i64 x7_2] (fun _ => True) (fun _ => False) rfl rfl ?aP (fun _ hk => hk.elim) ?aF ?aO ?aB ?aS ?aL ?_; (case aP => exact rfl); (case aB => exact (hs_)); (case aF => exact (fun _ _ => trivial)); (case aO => exact (rk_ HO_3.out)); (case aS => exact (below_size (hs_))); (case aL => have := LMc13.out; omega); intro v134 w14 ho hb hg hat; rw [← Ny133.out] at ho; have n0_ := Aside0.mk (blk_grown (g := gb130) (o := .cells #[.int .i64 a0_0, .slice (some ad132) l0_1.length c0_1] 25 (0, 0)) (bk_ BK130.out) hg (Kd.R_ne HO_3.out BK130.out (by decide))); have n1_ := Aside0.mk (hb); have n2_ := Aside0.mk (ho); clear BK130; clear HB; clear HO_3; have BK130 := n0_; have HB := n1_; have HO135 := n2_; clear n0_ n1_ n2_; clear ho hb hg hat)); go_roundg k2
     case measure => have := HK1.out; have := HK2.out; omega
     case rel => exact ⟨(y133), (wrap64 (x7_2 + 1)), z0_, H', ⟨by have := HK1.out; have := HK2.out; omega⟩, ⟨by (with_reducible repeat (first | apply Kd.R_alloc | apply Kd.R_drewN | apply Kd.R_drew)); exact HO135.out⟩, ⟨bk_ BK130.out⟩, ⟨hs_⟩⟩


end Go.Proofs.Ytibnkopdkfjgpaa.Q


/-! bits and runs -/
namespace Bm
/-- what runs say, the first one of the given bit -/
def exp : Bool → List Int → List Bool
  | _, [] => []
  | b, r :: t => List.replicate r.toNat b ++ exp (!b) t
/-- runs of a list of bits, the first of the given bit; the bits that are counted already -/
def rle : Bool → Nat → List Bool → List Int
  | _, n, [] => [(n : Int)]
  | c, n, b :: t => if b = c then rle c (n + 1) t else (n : Int) :: rle b 1 t
def enc (l : List Bool) : List Int := if l = [] then [] else rle false 0 l
/-- runs as they must be -/
def Pos (l : List Int) : Prop := ∀ r ∈ l, (1 : Int) ≤ r
def Canon : List Int → Prop
  | [] => True
  | r :: t => 0 ≤ r ∧ Pos t ∧ (t = [] → 1 ≤ r)
theorem exp_append : ∀ (l m : List Int) (b : Bool), exp b (l ++ m) = exp b l ++ exp (if l.length % 2 = 0 then b else !b) m
  | [], m, b => by simp [exp]
  | r :: t, m, b => by
    rw [List.cons_append, exp, exp_append t m (!b), exp, List.append_assoc]
    congr 2
    rw [List.length_cons]
    have : (t.length + 1) % 2 = 0 ↔ ¬ (t.length % 2 = 0) := by omega
    by_cases h : t.length % 2 = 0
    · rw [if_pos h, if_neg (by omega)]
    · rw [if_neg h, if_pos (by omega)]; simp
theorem rle_exp : ∀ (l : List Bool) (c : Bool) (n : Nat), exp c (rle c n l) = List.replicate n c ++ l
  | [], c, n => by simp [rle, exp]
  | b :: t, c, n => by
    unfold rle
    by_cases h : b = c
    · rw [if_pos h, rle_exp t c (n + 1), h, List.replicate_succ', List.append_assoc]; rfl
    · rw [if_neg h, exp]
      have : (!c) = b := by cases b <;> cases c <;> simp_all
      rw [this, rle_exp t b 1]
      simp [List.replicate]
theorem exp_enc (l : List Bool) : exp false (enc l) = l := by
  unfold enc
  by_cases h : l = []
  · rw [if_pos h, h]; rfl
  · rw [if_neg h, rle_exp]; simp
theorem rle_ne : ∀ (l : List Bool) (c : Bool) (n : Nat), rle c n l ≠ []
  | [], c, n => by simp [rle]
  | b :: t, c, n => by
    unfold rle
    by_cases h : b = c
    · rw [if_pos h]; exact rle_ne t c _
    · rw [if_neg h]; simp
theorem rle_pos : ∀ (l : List Bool) (c : Bool) (n : Nat), 1 ≤ n → Pos (rle c n l)
  | [], c, n, h => by intro r hr; simp [rle] at hr; omega
  | b :: t, c, n, h => by
    unfold rle
    by_cases hb : b = c
    · rw [if_pos hb]; exact rle_pos t c _ (by omega)
    · rw [if_neg hb]
      intro r hr
      rcases List.mem_cons.1 hr with rfl | hr
      · omega
      · exact rle_pos t b 1 (by omega) r hr
theorem enc_canon (l : List Bool) : Canon (enc l) := by
  unfold enc
  by_cases h : l = []
  · rw [if_pos h]; trivial
  rw [if_neg h]
  cases l with
  | nil => exact absurd rfl h
  | cons b t =>
    unfold rle
    by_cases hb : b = false
    · rw [if_pos hb]
      have := rle_pos t false (0 + 1) (by omega)
      cases hr : rle false (0 + 1) t with
      | nil => trivial
      | cons r u =>
        rw [hr] at this
        have h1 := this r (by simp)
        exact ⟨by omega, fun x hx => this x (by simp [hx]), fun _ => h1⟩
    · rw [if_neg hb]
      exact ⟨by omega, rle_pos t b 1 (by omega), fun h => absurd h (rle_ne _ _ _)⟩
theorem rle_run : ∀ (m : Nat) (c : Bool) (n : Nat) (l : List Bool), rle c n (List.replicate m c ++ l) = rle c (n + m) l
  | 0, c, n, l => by simp
  | m + 1, c, n, l => by
    rw [List.replicate_succ, List.cons_append, rle, if_pos rfl, rle_run m c (n + 1) l]
    congr 1; omega
theorem rle_of_pos : ∀ (t : List Int) (r : Int) (c : Bool) (n : Nat), (n : Int) + 0 ≤ r → Pos t → rle c n (List.replicate (r.toNat - n) c ++ exp (!c) t) = r :: t
  | [], r, c, n, h, _ => by rw [rle_run, exp, rle]; congr 1; omega
  | s :: u, r, c, n, h, hp => by
    have hs := hp s (by simp)
    obtain ⟨m, hm⟩ : ∃ m : Nat, s.toNat = m + 1 := ⟨s.toNat - 1, by omega⟩
    rw [rle_run, exp, hm, List.replicate_succ, List.cons_append, rle, if_neg (by cases c <;> simp)]
    have e : rle (!c) 1 (List.replicate m (!c) ++ exp (!!c) u) = s :: u := by
      have := rle_of_pos u s (!c) 1 (by omega) (fun x hx => hp x (by simp [hx]))
      rwa [hm, Nat.add_sub_cancel] at this
    rw [e]; congr 1; omega
theorem enc_exp {l : List Int} (h : Canon l) : enc (exp false l) = l := by
  cases l with
  | nil => simp [exp, enc]
  | cons r t =>
    obtain ⟨h0, hp, h1⟩ := h
    have := rle_of_pos t r false 0 (by omega) hp
    unfold enc
    rw [if_neg, exp]
    · simpa using this
    · intro he
      rw [exp, List.append_eq_nil_iff] at he
      cases t with
      | nil => have := h1 rfl; have := he.1; simp at this; omega
      | cons s u =>
        have hs := hp s (by simp)
        obtain ⟨m, hm⟩ : ∃ m : Nat, s.toNat = m + 1 := ⟨s.toNat - 1, by omega⟩
        have := he.2
        rw [exp, hm] at this
        simp [List.replicate_succ] at this
def total (l : List Int) : Int := l.foldr (· + ·) 0
theorem total_cons (r : Int) (l : List Int) : total (r :: l) = r + total l := rfl
theorem exp_length : ∀ (l : List Int) (b : Bool), (∀ r ∈ l, (0:Int) ≤ r) → ((exp b l).length : Int) = total l
  | [], _, _ => rfl
  | r :: t, b, h => by
    have := exp_length t (!b) (fun x hx => h x (by simp [hx]))
    have hr := h r (by simp)
    rw [exp, List.length_append, List.length_replicate, total_cons, ← this]; omega
theorem canon_nonneg {l : List Int} (h : Canon l) : ∀ r ∈ l, (0:Int) ≤ r := by
  cases l with
  | nil => simp
  | cons r t =>
    intro x hx
    rcases List.mem_cons.1 hx with rfl | hx
    · exact h.1
    · have := h.2.1 x hx; omega
/-- the places of the bits that are set -/
def pos : Int → List Bool → List Int
  | _, [] => []
  | i, b :: t => if b = true then i :: pos (i + 1) t else pos (i + 1) t
theorem pos_append : ∀ (l m : List Bool) (i : Int), pos i (l ++ m) = pos i l ++ pos (i + l.length) m
  | [], m, i => by simp [pos]
  | b :: t, m, i => by
    rw [List.cons_append, pos, pos, pos_append t m (i + 1)]
    have e : i + 1 + (t.length : Int) = i + ((b :: t).length : Int) := by rw [List.length_cons]; omega
    rw [e]
    by_cases h : b = true
    · rw [if_pos h, if_pos h]; rfl
    · rw [if_neg h, if_neg h]
theorem pos_false (n : Nat) (i : Int) : pos i (List.replicate n false) = [] := by
  induction n generalizing i with
  | zero => rfl
  | succ n ih => rw [List.replicate_succ, pos, if_neg (by decide), ih]
theorem mem_pos : ∀ (l : List Bool) (i x : Int), x ∈ pos i l ↔ i ≤ x ∧ l.getD (x - i).toNat false = true ∧ x < i + l.length
  | [], i, x => by simp [pos]
  | b :: t, i, x => by
    have ih := mem_pos t (i + 1) x
    have key : x ∈ pos i (b :: t) ↔ (b = true ∧ x = i) ∨ x ∈ pos (i + 1) t := by
      rw [pos]
      by_cases h : b = true
      · rw [if_pos h, List.mem_cons]; simp [h]
      · rw [if_neg h]; simp [h]
    rw [key, ih, List.length_cons]
    by_cases hx : x = i
    · subst hx
      constructor
      · rintro (⟨h, _⟩ | ⟨h, _⟩)
        · subst h; exact ⟨by omega, by simp, by simp; omega⟩
        · omega
      · rintro ⟨_, h, _⟩
        exact .inl ⟨by simpa using h, rfl⟩
    · by_cases hlt : i ≤ x
      · have : (x - i).toNat = (x - (i + 1)).toNat + 1 := by omega
        rw [this, List.getD_cons_succ]
        constructor
        · rintro (⟨_, h⟩ | ⟨h1, h2, h3⟩)
          · exact absurd h hx
          · exact ⟨by omega, h2, by omega⟩
        · rintro ⟨h1, h2, h3⟩
          exact .inr ⟨by omega, h2, by omega⟩
      · constructor
        · rintro (⟨_, h⟩ | ⟨h1, h2, h3⟩)
          · exact absurd h hx
          · omega
        · rintro ⟨h1, _⟩; omega
theorem pos_length (l : List Bool) : ∀ i, (pos i l).length = l.count true := by
  induction l with
  | nil => intro i; rfl
  | cons b t ih =>
    intro i
    rw [pos]
    cases b
    · rw [if_neg (by decide), ih]; simp
    · rw [if_pos rfl, List.length_cons, ih]; simp
/-- bits of a list of places -/
def setAll : List Bool → List Int → List Bool
  | s, [] => s
  | s, n :: t => setAll (s.set n.toNat true) t
theorem setAll_length : ∀ (l : List Int) (s : List Bool), (setAll s l).length = s.length
  | [], s => rfl
  | n :: t, s => by rw [setAll, setAll_length t, List.length_set]
theorem setAll_get : ∀ (l : List Int) (s : List Bool) (j : Nat), (∀ n ∈ l, (0:Int) ≤ n ∧ n < s.length) → j < s.length → (setAll s l).getD j false = (s.getD j false || decide ((j : Int) ∈ l))
  | [], s, j, _, _ => by simp [setAll]
  | n :: t, s, j, h, hj => by
    have hn := h n (by simp)
    rw [setAll, setAll_get t _ j (fun x hx => by rw [List.length_set]; exact h x (by simp [hx])) (by rw [List.length_set]; exact hj)]
    by_cases e : n.toNat = j
    · subst e
      have : (n.toNat : Int) = n := by omega
      simp [List.getD, List.getElem?_set, hj, this]
    · have : (j : Int) ≠ n := by omega
      simp [List.getD, List.getElem?_set, e, this]
theorem list_ext_getD {l m : List Bool} (hl : l.length = m.length) (h : ∀ j, j < l.length → l.getD j false = m.getD j false) : l = m := by
  apply List.ext_getElem hl
  intro j h1 h2
  have := h j h1
  rwa [List.getD_eq_getElem?_getD, List.getD_eq_getElem?_getD, List.getElem?_eq_getElem h1, List.getElem?_eq_getElem h2] at this
/-- what a piece of bits makes of the runs -/
def push (R : List Int) (on : Bool) (n : Int) : List Int :=
  if R.length = 0 ∧ on = true then [0, n] else if 0 < R.length ∧ decide (R.length % 2 = 0) = on then R.set (R.length - 1) (R.getD (R.length - 1) 0 + n) else R ++ [n]
theorem canon_snoc {R : List Int} {n : Int} (hR : R ≠ []) (h : Canon R) (hn : 1 ≤ n) : Canon (R ++ [n]) := by
  cases R with
  | nil => exact absurd rfl hR
  | cons r t =>
    refine ⟨h.1, ?_, fun e => by simp at e⟩
    intro x hx
    rcases List.mem_append.1 hx with hx | hx
    · exact h.2.1 x hx
    · simp at hx; omega
theorem canon_last {R : List Int} {r n : Int} (h : Canon (R ++ [r])) (hn : 1 ≤ n) : Canon (R ++ [r + n]) := by
  cases R with
  | nil =>
    have h0 : (0:Int) ≤ r := h.1
    exact ⟨(by omega : (0:Int) ≤ r + n), (by intro x hx; simp at hx), fun _ => (by omega : (1:Int) ≤ r + n)⟩
  | cons s t =>
    refine ⟨h.1, ?_, fun e => by simp at e⟩
    intro x hx
    have h2 := h.2.1
    rcases List.mem_append.1 hx with hx | hx
    · exact h2 x (by simp [hx])
    · have := h2 r (by simp); simp at hx; omega
theorem push_canon {R : List Int} {on : Bool} {n : Int} (h : Canon R) (hn : 1 ≤ n) : Canon (push R on n) := by
  unfold push
  split
  · exact ⟨by omega, by intro x hx; simp at hx; omega, fun e => by simp at e⟩
  · rename_i h1
    split
    · rename_i h2
      obtain ⟨S, r, rfl⟩ : ∃ S r, R = S ++ [r] := ⟨R.dropLast, R.getLast (by intro e; simp [e] at h2), (List.dropLast_concat_getLast _).symm⟩
      have := canon_last h hn
      simpa using this
    · by_cases hR : R = []
      · subst hR; exact ⟨by omega, by intro x hx; simp at hx, fun _ => hn⟩
      · exact canon_snoc hR h hn
theorem push_exp {R : List Int} {on : Bool} {n : Int} (h : Canon R) (hn : 1 ≤ n) : exp false (push R on n) = exp false R ++ List.replicate n.toNat on := by
  unfold push
  split
  · rename_i h1
    obtain rfl := List.eq_nil_of_length_eq_zero h1.1
    rw [h1.2]; simp [exp]
  · rename_i h1
    split
    · rename_i h2
      obtain ⟨S, r, rfl⟩ : ∃ S r, R = S ++ [r] := ⟨R.dropLast, R.getLast (by intro e; simp [e] at h2), (List.dropLast_concat_getLast _).symm⟩
      have hr := canon_nonneg h r (by simp)
      have e : (S ++ [r]).set ((S ++ [r]).length - 1) ((S ++ [r]).getD ((S ++ [r]).length - 1) 0 + n) = S ++ [r + n] := by simp
      rw [e, exp_append, exp_append, List.append_assoc]
      congr 1
      have h3 := h2.2
      rw [List.length_append, List.length_singleton] at h3
      have ec : (if S.length % 2 = 0 then false else !false) = on := by
        rw [← h3]
        by_cases hs : S.length % 2 = 0
        · rw [if_pos hs]; symm; exact decide_eq_false (by omega)
        · rw [if_neg hs]; symm; exact decide_eq_true (by omega)
      rw [ec]
      simp only [exp, List.append_nil]
      rw [show (r + n).toNat = r.toNat + n.toNat by omega, List.replicate_append_replicate]
    · rename_i h2
      rw [exp_append]
      congr 1
      simp only [exp, List.append_nil]
      congr 1
      by_cases h0 : R.length = 0
      · rw [if_pos (by omega)]
        cases on
        · rfl
        · exact absurd ⟨h0, rfl⟩ h1
      · have h3 : decide (R.length % 2 = 0) ≠ on := fun e => h2 ⟨by omega, e⟩
        by_cases hs : R.length % 2 = 0
        · rw [if_pos hs]; rw [decide_eq_true hs] at h3; cases on <;> simp_all
        · rw [if_neg hs]; rw [decide_eq_false hs] at h3; cases on <;> simp_all
end Bm


/- Bitmaps: what the printed functions compute, told over lists of bits. -/
namespace Go.Proofs.Ytibnkopdkfjgpaa.Q
open Go.RowKit Go.Proofs.YtibnkopdkfjgpaaW.PrintWords Go.Proofs.YtibnkopdkfjgpaaW.PrintLast Go.Proofs.YtibnkopdkfjgpaaW.PrintMore
theorem wrap_id {x : Int} (h0 : -9223372036854775808 ≤ x) (h1 : x ≤ 9223372036854775807) : wrap64 x = x := by unfold wrap64; omega
theorem ev_ite {α : Type} {c : Prop} [Decidable c] {f g : Nat → Option α} {r : α} (h1 : c → Ev f r) (h2 : ¬ c → Ev g r) : Ev (fun k => if c then f k else g k) r := by
  by_cases h : c
  · exact Ev.congr (fun k => if_pos h) (h1 h)
  · exact Ev.congr (fun k => if_neg h) (h2 h)
theorem ev_yes {α : Type} {c : Prop} [Decidable c] {f g : Nat → Option α} {r : α} (h : c) (h1 : Ev f r) : Ev (fun k => if c then f k else g k) r := ev_ite (fun _ => h1) (fun h2 => absurd h h2)
theorem ev_no {α : Type} {c : Prop} [Decidable c] {f g : Nat → Option α} {r : α} (h : ¬ c) (h1 : Ev g r) : Ev (fun k => if c then f k else g k) r := ev_ite (fun h2 => absurd h2 h) (fun _ => h1)
theorem ev_eq {α : Type} {f : Nat → Option α} {r q : α} (h : Ev f q) (e : q = r) : Ev f r := e ▸ h
theorem drop_at {l : List Int} {i : Nat} {r : Int} {t : List Int} (h : l.drop i = r :: t) : i < l.length ∧ rd l (i : Int) = r ∧ l.drop (i + 1) = t := by
  have hlt : i < l.length := by
    rcases Nat.lt_or_ge i l.length with h1 | h1
    · exact h1
    · rw [List.drop_eq_nil_of_le h1] at h; cases h
  rw [List.drop_eq_getElem_cons hlt] at h
  obtain ⟨h1, h2⟩ := List.cons.inj h
  refine ⟨hlt, ?_, h2⟩
  unfold rd
  rw [Int.toNat_natCast, List.getD_eq_getElem?_getD, List.getElem?_eq_getElem hlt]
  exact h1
theorem drop_end {α : Type} {l : List α} {i : Nat} (h : l.drop i = []) : l.length ≤ i := by simpa [List.drop_eq_nil_iff] using h
open Bm
/-- what a run must be -/
def okB (L i : Nat) (r : Int) : Bool := !(decide (r < 0) || (decide (r = 0) && (decide (0 < i) || decide (L = 1))))
def okT (L : Nat) : Nat → List Int → Bool
  | _, [] => true
  | i, r :: t => okB L i r && okT L (i + 1) t
def vd (s : Int) (l : List Int) : Bool := decide (0 ≤ s) && (decide (s ≤ 1048576) && (okT l.length 0 l && decide (total l = s)))
theorem okB_iff {L i : Nat} {r : Int} : okB L i r = true ↔ 0 ≤ r ∧ (r = 0 → i = 0 ∧ L ≠ 1) := by
  unfold okB
  simp only [Bool.not_eq_true', Bool.or_eq_false_iff, Bool.and_eq_false_iff, decide_eq_false_iff_not]
  omega
theorem okT_nonneg {L : Nat} : ∀ (t : List Int) (i : Nat), okT L i t = true → 0 ≤ total t
  | [], _, _ => by simp [total]
  | r :: t, i, h => by
    rw [okT, Bool.and_eq_true] at h
    have := okT_nonneg t (i + 1) h.2
    have := (okB_iff.1 h.1).1
    rw [total_cons]; omega
theorem okT_pos {L : Nat} : ∀ (t : List Int) (i : Nat), 0 < i → okT L i t = true → Pos t
  | [], _, _, _ => by intro r hr; simp at hr
  | r :: t, i, h0, h => by
    rw [okT, Bool.and_eq_true] at h
    have h1 := okB_iff.1 h.1
    have h2 := okT_pos t (i + 1) (by omega) h.2
    intro x hx
    rcases List.mem_cons.1 hx with rfl | hx
    · omega
    · exact h2 x hx
theorem pos_okT {L : Nat} : ∀ (t : List Int) (i : Nat), Pos t → okT L i t = true
  | [], _, _ => rfl
  | r :: t, i, h => by
    rw [okT, Bool.and_eq_true]
    have := h r (by simp)
    exact ⟨okB_iff.2 ⟨by omega, fun e => by omega⟩, pos_okT t (i + 1) (fun x hx => h x (by simp [hx]))⟩
theorem okT_canon {l : List Int} (h : okT l.length 0 l = true) : Canon l := by
  cases l with
  | nil => trivial
  | cons r t =>
    rw [okT, Bool.and_eq_true] at h
    have h1 := okB_iff.1 h.1
    refine ⟨h1.1, okT_pos t 1 (by omega) h.2, fun e => ?_⟩
    subst e
    have := h1.2
    simp at this
    omega
theorem canon_okT {l : List Int} (h : Canon l) : okT l.length 0 l = true := by
  cases l with
  | nil => rfl
  | cons r t =>
    rw [okT, Bool.and_eq_true]
    refine ⟨okB_iff.2 ⟨h.1, fun e => ⟨rfl, fun e2 => ?_⟩⟩, pos_okT t 1 h.2.1⟩
    have ht : t = [] := by
      have : t.length = 0 := by simpa using e2
      exact List.eq_nil_of_length_eq_zero this
    have := h.2.2 ht
    omega
theorem vd_iff {s : Int} {l : List Int} : vd s l = true ↔ 0 ≤ s ∧ s ≤ 1048576 ∧ Canon l ∧ total l = s := by
  unfold vd
  simp only [Bool.and_eq_true, decide_eq_true_eq]
  exact ⟨fun h => ⟨h.1, h.2.1, okT_canon h.2.2.1, h.2.2.2⟩, fun h => ⟨h.1, h.2.1, canon_okT h.2.2.1, h.2.2.2⟩⟩
set_option maxRecDepth 100000 in
theorem Valid_l0 (l : List Int) (s : Int) (hL : l.length ≤ 1099511627776) (h0 : 0 ≤ s) (h1 : s ≤ 1048576) : ∀ (t : List Int) (i : Nat) (n : Int), l.drop i = t → 0 ≤ n → n ≤ (i : Int) * 1048576 → Ev (fun k => bitmap_Valid.l0 k n l (l.length : Int) i s l) (okT l.length i t && decide (n + total t = s)) := by
  intro t
  induction t with
  | nil =>
    intro i n ht hn hn2
    have := drop_end ht
    refine Ev.step (f := ?_) (fun k => by rw [bitmap_Valid.l0, if_neg (by omega)]) (ev_eq (Ev.now _) ?_)
    rw [Bool.eq_iff_iff]; simp [okT, total]
  | cons r t ih =>
    intro i n ht hn hn2
    obtain ⟨hlt, hr, ht2⟩ := drop_at ht
    refine Ev.step (f := ?_) (fun k => by rw [bitmap_Valid.l0, if_pos (by omega), if_pos (by omega), if_pos (by omega), hr]) ?_
    have bad : okB l.length i r = false → (okT l.length i (r :: t) && decide (n + total (r :: t) = s)) = false := fun h => by rw [okT, h]; rfl
    have go : 0 ≤ r → r ≤ s → okB l.length i r = true → Ev (fun k => bitmap_Valid.l0 k (wrap64 (n + r)) l (l.length : Int) (wrap64 ((i : Int) + 1)) s l) (okT l.length i (r :: t) && decide (n + total (r :: t) = s)) := fun g0 g1 g2 => by
      rw [wrap_id (by omega) (by omega), wrap_id (by omega) (by omega), okT, g2, Bool.true_and, total_cons, ← Int.add_assoc]
      exact_mod_cast ih (i + 1) (n + r) ht2 (by omega) (by omega)
    have big : ¬ r ≤ s → (okT l.length i (r :: t) && decide (n + total (r :: t) = s)) = false := fun g => by
      rw [Bool.and_eq_false_iff]
      by_cases e : okT l.length i (r :: t) = true
      · right
        rw [okT, Bool.and_eq_true] at e
        have := okT_nonneg t (i + 1) e.2
        rw [total_cons, decide_eq_false_iff_not]; omega
      · left; simpa using e
    have tst : okB l.length i r = false ↔ r < 0 ∨ (r = 0 ∧ (0 < i ∨ l.length = 1)) := by
      rw [← Bool.not_eq_true, okB_iff]; omega
    refine ev_ite (fun g => ?_) (fun g => ?_)
    · refine ev_ite (fun g2 => ev_eq (Ev.now _) (bad (tst.2 (by omega))).symm) (fun g2 => ?_)
      refine ev_ite (fun g3 => ev_eq (Ev.now _) (bad (tst.2 (by omega))).symm) (fun g3 => ?_)
      refine ev_ite (fun g4 => ev_eq (Ev.now _) (bad (tst.2 (by omega))).symm) (fun g4 => ?_)
      refine ev_ite (fun g5 => ev_eq (Ev.now _) (big (by omega)).symm) (fun g5 => ?_)
      refine go (by omega) (by omega) ?_
      rw [okB_iff]; omega
    · refine ev_ite (fun g5 => ev_eq (Ev.now _) (big (by omega)).symm) (fun g5 => ?_)
      refine go (by omega) (by omega) ?_
      rw [okB_iff]; omega
theorem Valid_ev (s : Int) (l : List Int) (hL : l.length ≤ 1099511627776) : Ev (fun k => bitmap_Valid.f k s l) (vd s l) := by
  unfold vd
  refine ev_ite (fun g => ?_) (fun g => ?_)
  · refine Ev.step (f := ?_) (fun k => by rw [bitmap_Valid.j0, if_pos rfl]) (ev_eq (Ev.now _) ?_)
    rw [decide_eq_false (by omega), Bool.false_and]
  · by_cases g2 : s > 1048576
    · refine Ev.step (f := ?_) (fun k => by rw [bitmap_Valid.j0, if_pos (by simpa using g2)]) (ev_eq (Ev.now _) ?_)
      rw [decide_eq_false (show ¬ s ≤ 1048576 by omega), Bool.false_and, Bool.and_false]
    · refine Ev.step (f := ?_) (fun k => by rw [bitmap_Valid.j0, if_neg (by simpa using g2)]) ?_
      rw [decide_eq_true (show 0 ≤ s by omega), decide_eq_true (show s ≤ 1048576 by omega), Bool.true_and, Bool.true_and]
      have := Valid_l0 l s hL (by omega) (by omega) l 0 0 rfl (by omega) (by omega)
      rw [Int.zero_add] at this
      exact_mod_cast this
set_option maxRecDepth 100000 in
theorem Right_l0 (l : List Int) (s : Int) (hL : l.length ≤ 1099511627776) (h0 : 0 ≤ s) (h1 : s ≤ 1048576) : ∀ (t : List Int) (i : Nat) (n : Int), l.drop i = t → 0 ≤ n → n ≤ s → Ev (fun k => graftageref27_Right.l0 k n i s l) (okT l.length i t && decide (n + total t = s))
  | [], i, n, ht, hn, hn2 => by
    have := drop_end ht
    refine Ev.step (f := ?_) (fun k => by rw [graftageref27_Right.l0, if_neg (by omega)]) (ev_eq (Ev.now _) ?_)
    rw [Bool.eq_iff_iff]; simp [okT, total]
  | r :: t, i, n, ht, hn, hn2 => by
    obtain ⟨hlt, hr, ht2⟩ := drop_at ht
    refine Ev.step (f := ?_) (fun k => by rw [graftageref27_Right.l0, if_pos (by omega), if_pos (by omega), hr, wrap_id (x := s - n) (by omega) (by omega)]) ?_
    have bad : okB l.length i r = false → (okT l.length i (r :: t) && decide (n + total (r :: t) = s)) = false := fun h => by rw [okT, h]; rfl
    have go : 0 ≤ r → r ≤ s - n → okB l.length i r = true → Ev (fun k => graftageref27_Right.l0 k (wrap64 (n + r)) (wrap64 ((i : Int) + 1)) s l) (okT l.length i (r :: t) && decide (n + total (r :: t) = s)) := fun g0 g1 g2 => by
      rw [wrap_id (by omega) (by omega), wrap_id (by omega) (by omega), okT, g2, Bool.true_and, total_cons, ← Int.add_assoc]
      exact_mod_cast Right_l0 l s hL h0 h1 t (i + 1) (n + r) ht2 (by omega) (by omega)
    have big : ¬ r ≤ s - n → (okT l.length i (r :: t) && decide (n + total (r :: t) = s)) = false := fun g => by
      rw [Bool.and_eq_false_iff]
      by_cases e : okT l.length i (r :: t) = true
      · right
        rw [okT, Bool.and_eq_true] at e
        have := okT_nonneg t (i + 1) e.2
        rw [total_cons, decide_eq_false_iff_not]; omega
      · left; simpa using e
    have tst : okB l.length i r = false ↔ r < 0 ∨ (r = 0 ∧ (0 < i ∨ l.length = 1)) := by
      rw [← Bool.not_eq_true, okB_iff]; omega
    refine ev_ite (fun g => ev_eq (Ev.now _) (bad (tst.2 (by omega))).symm) (fun g => ?_)
    refine ev_ite (fun g5 => ev_eq (Ev.now _) (big (by omega)).symm) (fun g5 => ?_)
    refine ev_ite (fun g2 => ?_) (fun g2 => ?_)
    · refine ev_ite (fun g3 => ev_eq (Ev.now _) (bad (tst.2 (by omega))).symm) (fun g3 => ?_)
      refine ev_ite (fun g4 => ev_eq (Ev.now _) (bad (tst.2 (by omega))).symm) (fun g4 => ?_)
      refine go (by omega) (by omega) ?_
      rw [okB_iff]; omega
    · refine go (by omega) (by omega) ?_
      rw [okB_iff]; omega
theorem Right_ev (s : Int) (l : List Int) (hL : l.length ≤ 1099511627776) : Ev (fun k => graftageref27_Right.f k s l) (vd s l) := by
  unfold vd
  refine ev_ite (fun g => ?_) (fun g => ?_)
  · refine Ev.step (f := ?_) (fun k => by rw [graftageref27_Right.j0, if_pos rfl]) (ev_eq (Ev.now _) ?_)
    rw [decide_eq_false (by omega), Bool.false_and]
  · by_cases g2 : s > 1048576
    · refine Ev.step (f := ?_) (fun k => by rw [graftageref27_Right.j0, if_pos (by simpa using g2)]) (ev_eq (Ev.now _) ?_)
      rw [decide_eq_false (show ¬ s ≤ 1048576 by omega), Bool.false_and, Bool.and_false]
    · refine Ev.step (f := ?_) (fun k => by rw [graftageref27_Right.j0, if_neg (by simpa using g2)]) ?_
      rw [decide_eq_true (show 0 ≤ s by omega), decide_eq_true (show s ≤ 1048576 by omega), Bool.true_and, Bool.true_and]
      have := Right_l0 l s hL (by omega) (by omega) l 0 0 rfl (by omega) (by omega)
      rw [Int.zero_add] at this
      exact_mod_cast this
theorem pos_run (n : Nat) (i : Int) : pos i (List.replicate (n + 1) true) = i :: pos (i + 1) (List.replicate n true) := by rw [List.replicate_succ, pos, if_pos rfl]
theorem List_l1 (l : List Int) (L : Int) (at_ r : Int) (i : Nat) (ix : Int) (h2 : i % 2 = 1) (ha : 0 ≤ at_) (hr : at_ + r ≤ 2097152) {q : List Int} : ∀ (d : Nat) (x : Int) (out : List Int), x + d = at_ + r → 0 ≤ x → out.length + d ≤ 4194304 → Ev (fun k => bitmap_List.l0 k (out ++ pos x (List.replicate d true)) (at_ + r) l L (wrap64 (ix + 1))) q → Ev (fun k => bitmap_List.l1 k out at_ i r x l L ix) q
  | 0, x, out, hx, h0, ho, hq => by
    refine Ev.step (f := ?_) (fun k => by rw [bitmap_List.l1, if_pos (by rw [Int.tmod_eq_emod_of_nonneg (by omega)]; omega), wrap_id (x := at_ + r) (by omega) (by omega), if_neg (by omega)]) ?_
    simpa [pos] using hq
  | d + 1, x, out, hx, h0, ho, hq => by
    refine Ev.step (f := ?_) (fun k => by rw [bitmap_List.l1, if_pos (by rw [Int.tmod_eq_emod_of_nonneg (by omega)]; omega), wrap_id (x := at_ + r) (by omega) (by omega), if_pos (by omega), if_pos (by omega), wrap_id (x := x + 1) (by omega) (by omega)]) ?_
    refine List_l1 l L at_ r i ix h2 ha hr d (x + 1) (out ++ [x]) (by omega) (by omega) (by rw [List.length_append, List.length_singleton]; omega) ?_
    rw [pos_run] at hq
    simpa using hq
theorem List_l0 (l : List Int) (hL : l.length ≤ 1099511627776) : ∀ (t : List Int) (i : Nat) (at_ : Int) (out : List Int), l.drop i = t → (∀ r ∈ t, (0 : Int) ≤ r) → 0 ≤ at_ → at_ + total t ≤ 1048576 → (out.length : Int) ≤ at_ → Ev (fun k => bitmap_List.l0 k out at_ l (l.length : Int) i) (out ++ pos at_ (exp (decide (i % 2 = 1)) t))
  | [], i, at_, out, ht, hp, h0, h1, ho => by
    have := drop_end ht
    refine Ev.step (f := ?_) (fun k => by rw [bitmap_List.l0, if_neg (by omega)]) (ev_eq (Ev.now _) ?_)
    simp [exp, pos]
  | r :: t, i, at_, out, ht, hp, h0, h1, ho => by
    obtain ⟨hlt, hr, ht2⟩ := drop_at ht
    have hr0 := hp r (by simp)
    have hp2 : ∀ x ∈ t, (0 : Int) ≤ x := fun x hx => hp x (by simp [hx])
    have ht0 : 0 ≤ total t := by
      have := exp_length t false hp2
      omega
    rw [total_cons] at h1
    have e1 : wrap64 ((i : Int) + 1) = ((i + 1 : Nat) : Int) := by rw [wrap_id (by omega) (by omega)]; omega
    refine Ev.step (f := ?_) (fun k => by rw [bitmap_List.l0, if_pos (by omega), if_pos (by omega), if_pos (by omega), hr]) ?_
    have ee : (decide ((i + 1) % 2 = 1)) = !(decide (i % 2 = 1)) := by
      rw [Bool.eq_iff_iff]
      simp only [Bool.not_eq_true', decide_eq_true_eq, decide_eq_false_iff_not]
      omega
    by_cases h2 : i % 2 = 1
    · refine List_l1 l (l.length : Int) at_ r i (i : Int) h2 h0 (by omega) r.toNat at_ out (by omega) h0 (by omega) ?_
      have hlen : (pos at_ (List.replicate r.toNat true)).length = r.toNat := by rw [pos_length]; simp
      have := List_l0 l hL t (i + 1) (at_ + r) (out ++ pos at_ (List.replicate r.toNat true)) ht2 hp2 (by omega) (by omega) (by rw [List.length_append, hlen]; omega)
      rw [e1]
      refine ev_eq this ?_
      rw [ee, decide_eq_true h2, exp, pos_append, List.append_assoc, List.length_replicate, show at_ + (r.toNat : Int) = at_ + r by omega]
    · refine Ev.step (f := ?_) (fun k => by rw [bitmap_List.l1, if_neg (by rw [Int.tmod_eq_emod_of_nonneg (by omega)]; omega), wrap_id (x := at_ + r) (by omega) (by omega), e1]) ?_
      have := List_l0 l hL t (i + 1) (at_ + r) out ht2 hp2 (by omega) (by omega) (by omega)
      refine ev_eq this ?_
      rw [ee, decide_eq_false h2, exp, pos_append, pos_false, List.nil_append, List.length_replicate, show at_ + (r.toNat : Int) = at_ + r by omega]
/-- the bits that a bitmap tells -/
def bitsOf (l : List Int) : List Bool := exp false l
def lst (s : Int) (l : List Int) : List Int := if vd s l = true then pos 0 (bitsOf l) else []
theorem List_ev (s : Int) (l : List Int) (hL : l.length ≤ 1099511627776) : Ev (fun k => bitmap_List.f k s l) (lst s l) := by
  refine Ev.bind (Valid_ev s l hL) ?_
  unfold lst
  refine ev_ite (fun g => ?_) (fun g => ?_)
  · rw [if_pos g]
    obtain ⟨h0, h1, hc, ht⟩ := vd_iff.1 g
    have := List_l0 l hL l 0 0 [] rfl (canon_nonneg hc) (by omega) (by omega) (by simp)
    exact_mod_cast this
  · rw [if_neg g]; exact Ev.now _
theorem refList_l1 (l : List Int) (s at_ r : Int) (i : Nat) (hi : i < l.length) (hri : rd l (i : Int) = r) (ha : 0 ≤ at_) (hr : at_ + r ≤ 2097152) {q : List Int} : ∀ (d : Nat) (x : Int) (out : List Int), x + d = r → 0 ≤ x → out.length + d ≤ 4194304 → Ev (fun k => graftageref27_List.l0 k (out ++ pos (at_ + x) (List.replicate d (decide (i % 2 = 1)))) (at_ + r) (wrap64 ((i : Int) + 1)) s l) q → Ev (fun k => graftageref27_List.l1 k out at_ i x s l) q
  | 0, x, out, hx, h0, ho, hq => by
    refine Ev.step (f := ?_) (fun k => by rw [graftageref27_List.l1, if_pos (by omega), if_pos (by omega), hri, if_neg (by omega), wrap_id (x := at_ + r) (by omega) (by omega)]) ?_
    simpa [pos] using hq
  | d + 1, x, out, hx, h0, ho, hq => by
    by_cases h2 : i % 2 = 1
    · refine Ev.step (f := ?_) (fun k => by rw [graftageref27_List.l1, if_pos (by omega), if_pos (by omega), hri, if_pos (by omega), if_pos (by rw [Int.tmod_eq_emod_of_nonneg (by omega)]; omega), if_pos (by omega), wrap_id (x := x + 1) (by omega) (by omega), wrap_id (x := at_ + x) (by omega) (by omega)]) ?_
      refine refList_l1 l s at_ r i hi hri ha hr d (x + 1) (out ++ [at_ + x]) (by omega) (by omega) (by rw [List.length_append, List.length_singleton]; omega) ?_
      rw [decide_eq_true h2, pos_run] at hq
      rw [decide_eq_true h2, ← Int.add_assoc]
      simpa using hq
    · refine Ev.step (f := ?_) (fun k => by rw [graftageref27_List.l1, if_pos (by omega), if_pos (by omega), hri, if_pos (by omega), if_neg (by rw [Int.tmod_eq_emod_of_nonneg (by omega)]; omega), wrap_id (x := x + 1) (by omega) (by omega)]) ?_
      refine refList_l1 l s at_ r i hi hri ha hr d (x + 1) out (by omega) (by omega) (by omega) ?_
      rw [decide_eq_false h2, pos_false] at hq ⊢
      exact hq
theorem refList_l0 (l : List Int) (s : Int) (hL : l.length ≤ 1099511627776) : ∀ (t : List Int) (i : Nat) (at_ : Int) (out : List Int), l.drop i = t → (∀ r ∈ t, (0 : Int) ≤ r) → 0 ≤ at_ → at_ + total t ≤ 1048576 → (out.length : Int) ≤ at_ → Ev (fun k => graftageref27_List.l0 k out at_ i s l) (out ++ pos at_ (exp (decide (i % 2 = 1)) t))
  | [], i, at_, out, ht, hp, h0, h1, ho => by
    have := drop_end ht
    refine Ev.step (f := ?_) (fun k => by rw [graftageref27_List.l0, if_neg (by omega)]) (ev_eq (Ev.now _) ?_)
    simp [exp, pos]
  | r :: t, i, at_, out, ht, hp, h0, h1, ho => by
    obtain ⟨hlt, hr, ht2⟩ := drop_at ht
    have hr0 := hp r (by simp)
    have hp2 : ∀ x ∈ t, (0 : Int) ≤ x := fun x hx => hp x (by simp [hx])
    have ht0 : 0 ≤ total t := by
      have := exp_length t false hp2
      omega
    rw [total_cons] at h1
    have e1 : wrap64 ((i : Int) + 1) = ((i + 1 : Nat) : Int) := by rw [wrap_id (by omega) (by omega)]; omega
    refine Ev.step (f := ?_) (fun k => by rw [graftageref27_List.l0, if_pos (by omega)]) ?_
    have ee : (decide ((i + 1) % 2 = 1)) = !(decide (i % 2 = 1)) := by
      rw [Bool.eq_iff_iff]
      simp only [Bool.not_eq_true', decide_eq_true_eq, decide_eq_false_iff_not]
      omega
    refine refList_l1 l s at_ r i hlt hr h0 (by omega) r.toNat 0 out (by omega) (by omega) (by omega) ?_
    rw [Int.add_zero]
    have hlen : (pos at_ (List.replicate r.toNat (decide (i % 2 = 1)))).length ≤ r.toNat := by
      rw [pos_length]
      have := List.count_le_length (a := true) (l := List.replicate r.toNat (decide (i % 2 = 1)))
      rwa [List.length_replicate] at this
    have := refList_l0 l s hL t (i + 1) (at_ + r) (out ++ pos at_ (List.replicate r.toNat (decide (i % 2 = 1)))) ht2 hp2 (by omega) (by omega) (by rw [List.length_append]; omega)
    rw [e1]
    refine ev_eq this ?_
    rw [ee, exp, pos_append, List.append_assoc, List.length_replicate, show at_ + (r.toNat : Int) = at_ + r by omega]
theorem refList_ev (s : Int) (l : List Int) (hL : l.length ≤ 1099511627776) : Ev (fun k => graftageref27_List.f k s l) (lst s l) := by
  refine Ev.bind (Right_ev s l hL) ?_
  unfold lst
  refine ev_ite (fun g => ?_) (fun g => ?_)
  · rw [if_pos g]
    obtain ⟨h0, h1, hc, ht⟩ := vd_iff.1 g
    have := refList_l0 l s hL l 0 0 [] rfl (canon_nonneg hc) (by omega) (by omega) (by simp)
    exact_mod_cast this
  · rw [if_neg g]; exact Ev.now _
theorem drop_atB {l : List Bool} {i : Nat} {b : Bool} {t : List Bool} (h : l.drop i = b :: t) : i < l.length ∧ rdOf false l (i : Int) = b ∧ l.drop (i + 1) = t := by
  have hlt : i < l.length := by
    rcases Nat.lt_or_ge i l.length with h1 | h1
    · exact h1
    · rw [List.drop_eq_nil_of_le h1] at h; cases h
  rw [List.drop_eq_getElem_cons hlt] at h
  obtain ⟨h1, h2⟩ := List.cons.inj h
  refine ⟨hlt, ?_, h2⟩
  unfold rdOf
  rw [Int.toNat_natCast, List.getD_eq_getElem?_getD, List.getElem?_eq_getElem hlt]
  exact h1
theorem rle_len : ∀ (l : List Bool) (c : Bool) (n : Nat), (rle c n l).length ≤ l.length + 1
  | [], c, n => by simp [rle]
  | b :: t, c, n => by
    unfold rle
    split
    · have := rle_len t c (n + 1); rw [List.length_cons]; omega
    · have := rle_len t b 1; rw [List.length_cons, List.length_cons]; omega
theorem enc_len (l : List Bool) : (enc l).length ≤ l.length + 1 := by
  unfold enc
  split
  · simp
  · exact rle_len _ _ _
theorem bits_l1 (l : List Bool) (x1 : Int → Option Bool) (hx : ∀ i : Nat, i < l.length → x1 i = some (rdOf false l i)) (s : Int) (hs : (l.length : Int) = s) (hL : l.length ≤ 1099511627776) (z : Int) : ∀ (t : List Bool) (i n : Nat) (was : Bool) (out : List Int), l.drop i = t → i ≤ l.length → n ≤ i → out.length ≤ i → was = ((out.length : Int) % 2 == 1) → Ev (fun k => bitmap_bits.l1 k s x1 i was n z out) (z, out ++ rle was n t)
  | [], i, n, was, out, ht, hi, hn, ho, hw => by
    have := drop_end ht
    refine Ev.step (f := ?_) (fun k => by rw [bitmap_bits.l1, if_neg (by omega), if_pos (by omega)]) ?_
    exact Ev.step (f := ?_) (fun k => by rw [bitmap_bits.l0, if_neg (by omega)]) (Ev.now _)
  | b :: t, i, n, was, out, ht, hi, hn, ho, hw => by
    obtain ⟨hlt, hr, ht2⟩ := drop_atB ht
    have hxi : x1 (i : Int) = some b := by rw [hx i hlt, hr]
    by_cases hb : b = was
    · refine Ev.step (f := ?_) (fun k => by rw [bitmap_bits.l1, if_pos (by omega), hxi, Option.bind_some, if_pos (by simpa using hb), wrap_id (x := (i : Int) + 1) (by omega) (by omega), wrap_id (x := (n : Int) + 1) (by omega) (by omega)]) ?_
      have := bits_l1 l x1 hx s hs hL z t (i + 1) (n + 1) was out ht2 (by omega) (by omega) (by omega) hw
      rw [rle, if_pos hb]
      exact_mod_cast this
    · refine Ev.step (f := ?_) (fun k => by rw [bitmap_bits.l1, if_pos (by omega), hxi, Option.bind_some, if_neg (by simpa using hb), if_pos (by omega)]) ?_
      have hw2 : (((out ++ [(n : Int)]).length : Int) % 2 == 1) = b := by
        have hbn : b = !was := by cases b <;> cases was <;> simp_all
        rw [hbn, hw, List.length_append, List.length_singleton, Bool.eq_iff_iff]
        simp only [beq_iff_eq, Bool.not_eq_true', beq_eq_false_iff_ne]
        omega
      refine Ev.step (f := ?_) (fun k => by rw [bitmap_bits.l0, if_pos (by omega), hw2]) ?_
      refine Ev.step (f := ?_) (fun k => by rw [bitmap_bits.l1, if_pos (by omega), hxi, Option.bind_some, if_pos (by simp), wrap_id (x := (i : Int) + 1) (by omega) (by omega), wrap_id (x := (0 : Int) + 1) (by omega) (by omega)]) ?_
      have := bits_l1 l x1 hx s hs hL z t (i + 1) 1 b (out ++ [(n : Int)]) ht2 (by omega) (by omega) (by rw [List.length_append, List.length_singleton]; omega) hw2.symm
      rw [rle, if_neg hb]
      refine ev_eq (q := (z, out ++ [(n : Int)] ++ rle b 1 t)) ?_ (by simp)
      exact_mod_cast this
theorem bits_ev (l : List Bool) (x1 : Int → Option Bool) (hx : ∀ i : Nat, i < l.length → x1 i = some (rdOf false l i)) (s : Int) (hs : (l.length : Int) = s) (hL : l.length ≤ 1099511627776) : Ev (fun k => bitmap_bits.f k s x1) (s, enc l) := by
  show Ev (fun k => bitmap_bits.l0 k s x1 0 s []) _
  unfold enc
  by_cases h : l = []
  · subst h
    rw [if_pos rfl]
    exact Ev.step (f := ?_) (fun k => by rw [bitmap_bits.l0, if_neg (by simp at hs; omega)]) (Ev.now _)
  · rw [if_neg h]
    have hlp := List.length_pos_iff.2 h
    refine Ev.step (f := ?_) (fun k => by rw [bitmap_bits.l0, if_pos (by omega)]) ?_
    have := bits_l1 l x1 hx s hs hL s l 0 0 false [] rfl (by omega) (by omega) (by simp) (by simp)
    exact_mod_cast this
def okP (s : Int) : List Int → Bool
  | [] => true
  | n :: t => !(decide (n < 0) || decide (n ≥ s)) && okP s t
def ofB (s : Int) (l : List Int) : Int × List Int × Int :=
  if s < 0 ∨ s > 1048576 then (0, [], 1) else if okP s l = true then (s, enc (setAll (List.replicate s.toNat false) l), 0) else (0, [], 1)
theorem Of_l0 (l : List Int) (s : Int) (h0 : 0 ≤ s) (h1 : s ≤ 1048576) (hL : l.length ≤ 1099511627776) : ∀ (t : List Int) (i : Nat) (set : List Bool), l.drop i = t → (set.length : Int) = s → Ev (fun k => bitmap_Of.l0 k s l (l.length : Int) i set) (if okP s t = true then (s, enc (setAll set t), 0) else (0, [], 1))
  | [], i, set, ht, hs => by
    have := drop_end ht
    refine Ev.step (f := ?_) (fun k => by rw [bitmap_Of.l0, if_neg (by omega)]) ?_
    rw [okP, if_pos rfl, setAll]
    exact Ev.bind (bits_ev set _ (fun i hi => by show bitmap_Of_1.f _ _ = _; unfold bitmap_Of_1.f; rw [if_pos (by omega), if_pos (by omega)]) s hs (by omega)) (Ev.now _)
  | r :: t, i, set, ht, hs => by
    obtain ⟨hlt, hr, ht2⟩ := drop_at ht
    have e1 : wrap64 ((i : Int) + 1) = ((i + 1 : Nat) : Int) := by rw [wrap_id (by omega) (by omega)]; omega
    refine Ev.step (f := ?_) (fun k => by rw [bitmap_Of.l0, if_pos (by omega), if_pos (by omega), if_pos (by omega), hr, e1]) ?_
    rw [okP]
    refine ev_ite (fun g => ev_eq (Ev.now _) ?_) (fun g => ?_)
    · rw [if_neg]; simp [g]
    refine ev_ite (fun g2 => ev_eq (Ev.now _) ?_) (fun g2 => ?_)
    · rw [if_neg]; simp [g2]
    refine ev_yes (by omega) (ev_yes (by omega) ?_)
    have := Of_l0 l s h0 h1 hL t (i + 1) (set.set r.toNat true) ht2 (by rw [List.length_set]; exact hs)
    rw [decide_eq_false g, decide_eq_false g2]
    exact this
theorem Of_ev (s : Int) (l : List Int) (hL : l.length ≤ 1099511627776) : Ev (fun k => bitmap_Of.f k s l) (ofB s l) := by
  unfold ofB
  refine ev_ite (fun g => ?_) (fun g => ?_)
  · rw [if_pos (.inl g)]
    exact Ev.step (f := ?_) (fun k => by rw [bitmap_Of.j0, if_pos rfl]) (Ev.now _)
  · by_cases g2 : s > 1048576
    · rw [if_pos (.inr g2)]
      exact Ev.step (f := ?_) (fun k => by rw [bitmap_Of.j0, if_pos (by simpa using g2)]) (Ev.now _)
    · rw [if_neg (by omega)]
      refine Ev.step (f := ?_) (fun k => by rw [bitmap_Of.j0, if_neg (by simpa using g2), if_pos (by omega), if_pos (by omega)]) ?_
      have := Of_l0 l s (by omega) (by omega) hL l 0 (List.replicate s.toNat false) rfl (by rw [List.length_replicate]; omega)
      exact_mod_cast this
theorem lives27 : Ev (fun k => graftagelaw27_lives.f k) true := Ev.of (fun k => graftagelaw27_lives.mono k) (k := 200) (by decide +kernel)
theorem liveOr27 : Ev (fun k => (graftagelaw27_lives.f k).bind fun t => some t) true := Ev.bind lives27 (Ev.now _)
end Go.Proofs.Ytibnkopdkfjgpaa.Q


namespace Go.Proofs.Ytibnkopdkfjgpaa.Q
open Go.RowKit Go.Proofs.YtibnkopdkfjgpaaW.PrintWords Go.Proofs.YtibnkopdkfjgpaaW.PrintLast Go.Proofs.YtibnkopdkfjgpaaW.PrintMore
attribute [local go_sem] max2_int min2_int max_two min_two max_three min_three max_four min_four   -- for this text's walks alone

mutual
def octet_Sum.l0 : Nat → ByteArray → Int → Int → Int → Option (Int)
 | 0, _, _, _, _ => none
 | k + 1, x0, x3, x7, x8 => if x8 < x7 then (if 0 ≤ x8 then (if x8 < (x0.size : Int) then (octet_Sum.l1 k x0 (Go.bits .xor .u32 x3 ((bt x0 x8) % 4294967296)) x7 x8 0) else (none)) else (none)) else (some (Go.bits .xor .u32 4294967295 x3))
def octet_Sum.l1 : Nat → ByteArray → Int → Int → Int → Int → Option (Int)
 | 0, _, _, _, _, _ => none
 | k + 1, x0, x3, x7, x8, x17 => if x17 < 8 then (if (Go.bits .and .u32 x3 1) = 1 then (octet_Sum.l1 k x0 (Go.bits .xor .u32 (x3 / 2) 3988292384) x7 x8 (wrap64 (x17 + 1))) else (octet_Sum.l1 k x0 (x3 / 2) x7 x8 (wrap64 (x17 + 1)))) else (octet_Sum.l0 k x0 x3 x7 (wrap64 (x8 + 1)))
end
def octet_Sum.f (k : Nat) (a0 : ByteArray) : Option (Int) := octet_Sum.l0 k a0 4294967295 (a0.size : Int) 0
set_option maxHeartbeats 8000000 in
set_option maxRecDepth 100000 in
theorem octet_Sum.calls (k : Nat) (a0 : ByteArray) (r : Int) (w : World) (h : octet_Sum.f k a0 = some r) :
  Calls Try.prog 61 #[.string a0] w fun e w' => e = .returned (.int .u32 r) ∧ Drawn0 w w' := by
 unfold octet_Sum.f at h; have H := h; clear h; have H' := Aside0.mk H; clear H; go_enter Try.func61, Try.ntmps61; go_wp2
 go_loopg [3, 8] k (fun kq v3 v8 w' => ∃ (x3_1 : Int) (x8_1 : Int), v3 = .int .u32 x3_1 ∧ v8 = .int .i64 x8_1 ∧ Aside0 (octet_Sum.l0 kq a0 x3_1 (a0.size : Int) x8_1 = some r) ∧ Aside0 (kq ≤ k) ∧ Drawn0 w w')
 case atStart => exact ⟨(4294967295), (0), z0_, z0_, H', ⟨Nat.le_refl _⟩, z3_⟩
 case round =>
  clear H'; obtain ⟨x3_1, x8_1, rfl, rfl, HA, HK1, ⟨m1, rfl⟩⟩ := hrel
  cases gk with
  | zero => exact absurd HA.out (by simp [octet_Sum.l0])
  | succ k1 =>
   have H := HA.out; clear HA; simp only [octet_Sum.l0] at H; by_cases c2 : x8_1 < (a0.size : Int); rotate_left
   ·rw [if_neg c2] at H; have c2b0 := df_ c2; clear c2; obtain rfl := oi_ H; go_wp2
    go_ret
    exact ⟨z0_, z3_⟩
   rw [if_pos c2] at H; have c2b0 := dt_ c2; clear c2; by_cases c3 : 0 ≤ x8_1; rotate_left
   ·rw [if_neg c3] at H; exact no_ H
   rw [if_pos c3] at H; have c3b0 := dt_ c3; clear c3; by_cases c4 : x8_1 < (a0.size : Int); rotate_left
   ·rw [if_neg c4] at H; exact no_ H
   rw [if_pos c4] at H; have c4b0 := dt_ c4; clear c4; have H' := Aside0.mk H; clear H; have p5 : 0 ≤ (x8_1 : Int) := y0_; have q5 : x8_1 < (a0.size : Int) := y0_; have hx5 := bt_at a0 x8_1; replace p5 := eq_true p5; replace q5 := eq_true q5; go_wp2
   go_loopg [3, 17] k1 (fun kq v3 v17 w' => ∃ (x3_2 : Int) (x17_2 : Int), v3 = .int .u32 x3_2 ∧ v17 = .int .i64 x17_2 ∧ Aside0 (octet_Sum.l1 kq a0 x3_2 (a0.size : Int) x8_1 x17_2 = some r) ∧ Aside0 (kq ≤ k1) ∧ Drawn0 w w')
   case atStart => exact ⟨(Go.bits .xor .u32 x3_1 ((bt a0 x8_1) % 4294967296)), (0), z0_, z0_, H', ⟨Nat.le_refl _⟩, z3_⟩
   case round =>
    clear H'; try clear c2
    try clear c2b0
    try clear p2
    try clear c3
    try clear c3b0
    try clear c4
    try clear c4b0
    try clear p5
    try clear q5
    try clear hx5
    try clear p5
    try clear q5
    obtain ⟨x3_2, x17_2, rfl, rfl, HA, HK2, ⟨m2, rfl⟩⟩ := hrel
    cases gk with
    | zero => exact absurd HA.out (by simp [octet_Sum.l1])
    | succ k2 =>
     have H := HA.out; clear HA; simp only [octet_Sum.l1] at H; by_cases c6 : x17_2 < 8; rotate_left
     ·rw [if_neg c6] at H; have c6b0 := df_ c6; clear c6; have H' := Aside0.mk H; clear H; go_wp2
      go_roundg k2
      case measure => have := HK1.out; have := HK2.out; omega
      case rel => exact ⟨(x3_2), (wrap64 (x8_1 + 1)), z0_, z0_, H', ⟨by have := HK1.out; have := HK2.out; omega⟩, z3_⟩
     rw [if_pos c6] at H; have c6b0 := dt_ c6; clear c6; by_cases c7 : (Go.bits .and .u32 x3_2 1) = 1; rotate_left
     ·rw [if_neg c7] at H; have c7b0 := ef_ c7; have c7b1 := nt_ c7; have H' := Aside0.mk H; clear H; go_wp2
      go_roundg k2
      case measure => have := HK1.out; have := HK2.out; omega
      case rel => exact ⟨(x3_2 / 2), (wrap64 (x17_2 + 1)), z0_, z0_, H', ⟨by have := HK1.out; have := HK2.out; omega⟩, z3_⟩
     rw [if_pos c7] at H; have c7b0 := et_ c7; have c7b1 := nf_ c7; clear c7; have H' := Aside0.mk H; clear H; go_wp2
     go_roundg k2
     case measure => have := HK1.out; have := HK2.out; omega
     case rel => exact ⟨(Go.bits .xor .u32 (x3_2 / 2) 3988292384), (wrap64 (x17_2 + 1)), z0_, z0_, H', ⟨by have := HK1.out; have := HK2.out; omega⟩, z3_⟩


def octet_Word.f (a0 : ByteArray) (a1 : Int) : Option (ByteArray) := (some (([(a1 / 16777216) % 256, (a1 / 65536) % 256, (a1 / 256) % 256, (a1) % 256] : List Int) : List Int)).bind fun y120 => (if a0.size + (strOfNums y120).size ≤ 9223372036854775807 then (some (a0 ++ (strOfNums y120))) else (none))
set_option maxHeartbeats 8000000 in
set_option maxRecDepth 100000 in
theorem octet_Word.calls (a0 : ByteArray) (a1 : Int) (r : ByteArray) (w : World) (h : octet_Word.f a0 a1 = some r) :
  Calls Try.prog 60 #[.string a0, .int .u32 a1] w fun e w' => e = .returned (.string r) ∧ Below w.heap.size w w' := by
 have HB := Aside0.mk (Below.refl w.heap.size w); unfold octet_Word.f at h; have H := h; clear h; obtain ⟨y120, hy120⟩ : ∃ y_ : List Int, y_ = (([(a1 / 16777216) % 256, (a1 / 65536) % 256, (a1 / 256) % 256, (a1) % 256] : List Int)) := ⟨_, rfl⟩; replace H : (if a0.size + (strOfNums y120).size ≤ 9223372036854775807 then (some (a0 ++ (strOfNums y120))) else (none)) = some r := by first | (rw [hy120]; with_reducible exact H) | (have H2_ := (Option.bind_some _ _).symm.trans H; rw [hy120]; with_reducible exact H2_) | (have H2_ := (Option.bind_some _ _).symm.trans H; with_reducible exact H2_) | with_reducible exact H | (rw [hy120]; exact H) | exact H
 have Ny120 := Aside0.mk hy120; clear hy120; by_cases c3 : a0.size + (strOfNums y120).size ≤ 9223372036854775807; rotate_left
 ·rw [if_neg c3] at H; exact no_ H
 rw [if_pos c3] at H; have c3b0 := eq_true c3; have c3b1 := dt_ c3; try have c3b2 := nl_ c3
 obtain rfl := oi_ H; go_enter Try.func60, Try.ntmps60; go_wp2_with (first | ((with_reducible refine gate_dst (N := 17) rfl ?_); refine Kd.R_lit (Kd.int .u8) _ 5 ?hg (N := 17) ?hd (xs := ([(a1 / 16777216) % 256, (a1 / 65536) % 256, (a1 / 256) % 256, (a1) % 256] : List Int)) (inner := [.int .u8 ((a1 / 16777216) % 256), .int .u8 ((a1 / 65536) % 256), .int .u8 ((a1 / 256) % 256), .int .u8 ((a1) % 256)]) (ok := fun _ => True) (okp := fun _ => True) ?hr ?hp (fun _ hk => hk) trivial (Below.refl _ _) (Nat.le_refl _) (by simp) ?_; (case hd => rfl); (case hg => rfl); (case hr => first | (go_simp; done) | (go_simp; rfl)); (case hp => exact (Reps.one (show Kd.M (Kd.int .u8) _ _ _ ((a1 / 16777216) % 256) [.int .u8 ((a1 / 16777216) % 256)] from rfl) (Reps.one (show Kd.M (Kd.int .u8) _ _ _ ((a1 / 65536) % 256) [.int .u8 ((a1 / 65536) % 256)] from rfl) (Reps.one (show Kd.M (Kd.int .u8) _ _ _ ((a1 / 256) % 256) [.int .u8 ((a1 / 256) % 256)] from rfl) (Reps.one (show Kd.M (Kd.int .u8) _ _ _ ((a1) % 256) [.int .u8 ((a1) % 256)] from rfl) (Reps.none _ _)))))); intro v121 w4 ho5 hb hg_ hnew_; clear hg_ hnew_; (first | rw [← Ny120.out] at ho5 | (simp only [Int.reduceToNat] at ho5; rw [← Ny120.out] at ho5)); have HO122 := Aside0.mk (Kd.R_lower ho5 (below_size (hb_ HB.out))); replace HB := ah_ HB hb; clear hb ho5; have hcv6 := own_string (P := Try.prog) Try.underlying87 Try.underlying5 Try.underlying9 (Kd.own_of_R HO122.out))); go_ret
 exact ⟨z2_, hb_ HB.out⟩


def octet_Seal.f (k : Nat) (a0 : ByteArray) : Option (ByteArray) := (octet_Sum.f k a0).bind fun t101 => ((octet_Word.f a0 t101).bind fun t102 => (some t102))
set_option maxHeartbeats 8000000 in
set_option maxRecDepth 100000 in
theorem octet_Seal.calls (k : Nat) (a0 : ByteArray) (r : ByteArray) (w : World) (h : octet_Seal.f k a0 = some r) :
  Calls Try.prog 47 #[.string a0] w fun e w' => e = .returned (.string r) ∧ Below w.heap.size w w' := by
 have HB := Aside0.mk (Below.refl w.heap.size w); unfold octet_Seal.f at h; have H := h; clear h; obtain ⟨t101, A2, H⟩ := bx_ H; obtain ⟨t102, A3, H⟩ := bx_ H; obtain rfl := oi_ H; go_enter Try.func47, Try.ntmps47; go_wp2_with (first | ((with_reducible refine gate_callee (f := 61) rfl ?_); refine gl_ (some 5) Try.func61 #[.string a0] ?_; refine cm_ (octet_Sum.calls k a0 t101 _ A2.out) ?_; rintro w' ⟨nd, rfl⟩) | ((with_reducible refine gate_callee (f := 60) rfl ?_); refine gl_ (some 6) Try.func60 #[.string a0, .int .u32 t101] ?_; refine cm_ (octet_Word.calls a0 t101 t102 _ A3.out) fun w4 hb => ?_; replace HB := ah_ HB hb; (try clear hb); (try clear hb2); (try clear hk); (try clear hi)))
 go_ret
 exact ⟨z2_, hb_ HB.out⟩


def octet_Open.f (k : Nat) (a0 : ByteArray) : Option (ByteArray × Bool) := if (a0.size : Int) < 4 then (some ((⟨#[]⟩ : ByteArray), false)) else (if 0 ≤ (wrap64 ((a0.size : Int) - 4)) then (if (wrap64 ((a0.size : Int) - 4)) ≤ (a0.size : Int) then ((octet_Seal.f k (a0.extract 0 ((wrap64 ((a0.size : Int) - 4)) : Int).toNat)).bind fun t102 => (if t102.toList = a0.toList then (some (a0.extract 0 ((wrap64 ((a0.size : Int) - 4)) : Int).toNat, true)) else (some ((⟨#[]⟩ : ByteArray), false)))) else (none)) else (none))
set_option maxHeartbeats 8000000 in
set_option maxRecDepth 100000 in
theorem octet_Open.calls (k : Nat) (a0 : ByteArray) (r1 : ByteArray) (r2 : Bool) (w : World) (h : octet_Open.f k a0 = some (r1, r2)) :
  Calls Try.prog 35 #[.string a0] w fun e w' => e = .returned (.tuple #[.string r1, .bool r2]) ∧ Below w.heap.size w w' := by
 have HB := Aside0.mk (Below.refl w.heap.size w); unfold octet_Open.f at h; have H := h; clear h; by_cases c2 : (a0.size : Int) < 4
 ·rw [if_pos c2] at H; have c2b0 := dt_ c2; have c2b1 : decide (a0.size < 4) = true := decide_eq_true (by omega); clear c2; obtain ⟨rfl, rfl⟩ := pj2_ H; go_enter Try.func35, Try.ntmps35; go_wp2
  go_ret2
  exact ⟨z2_, hb_ HB.out⟩
 rw [if_neg c2] at H; have c2b0 := df_ c2; have c2b1 : decide (a0.size < 4) = false := decide_eq_false (by omega); clear c2; obtain ⟨ji3, hji3⟩ : ∃ j_ : Int, (wrap64 ((a0.size : Int) - 4)) = j_ := ⟨_, rfl⟩; replace H : (if 0 ≤ (ji3) then (if (ji3) ≤ (a0.size : Int) then ((octet_Seal.f k (a0.extract 0 ((ji3) : Int).toNat)).bind fun t102 => (if t102.toList = a0.toList then (some (a0.extract 0 ((ji3) : Int).toNat, true)) else (some ((⟨#[]⟩ : ByteArray), false)))) else (none)) else (none)) = some (r1, r2) := by first | (rw [hji3] at H; exact H) | (simp only [hji3] at H ⊢; exact H)
 have hji3w : (IntKind.i64.wrap ((a0.size : Int) - 4)) = ji3 := (i64_w _).trans hji3; by_cases c4 : 0 ≤ (ji3); rotate_left
 ·rw [if_neg c4] at H; exact no_ H
 rw [if_pos c4] at H; have c4b0 := eq_true c4; have c4b1 := dt_ c4; clear c4; by_cases c5 : (ji3) ≤ (a0.size : Int); rotate_left
 ·rw [if_neg c5] at H; exact no_ H
 rw [if_pos c5] at H; have c5b0 := eq_true c5; have c5b1 := dt_ c5; clear c5; obtain ⟨t102, A6, H⟩ := bx_ H; by_cases c7 : t102.toList = a0.toList; rotate_left
 ·rw [if_neg c7] at H; have c7b0 := ef_ c7; have c7b1 := nt_ c7; obtain ⟨rfl, rfl⟩ := pj2_ H; go_enter Try.func35, Try.ntmps35; go_wp2_with (first | (go_at_call 47; (with_reducible refine (octet_Seal.calls k (a0.extract 0 ((ji3) : Int).toNat) t102 _ A6.out).mono ?_); rintro e w11 ⟨rfl, hb⟩; replace HB := ah_ HB hb; (try clear hb); (try clear hb2); (try clear hk); (try clear hi)))
  go_ret2
  exact ⟨by first | rfl | (simp [errW_none, errW_some] <;> rfl) | (simp only [← hji3]; first | rfl | (simp [errW_none, errW_some] <;> rfl)) | (simp [*, errW_none, errW_some] <;> rfl) | (simp [ne_nil_bool]; done) | (simp [*, ne_nil_bool]; done), hb_ HB.out⟩
 rw [if_pos c7] at H; have c7b0 := et_ c7; have c7b1 := nf_ c7; clear c7; have c8b0 := eq_true (y0_ : 0 ≤ (ji3)); have c9b0 := eq_true (y0_ : (ji3) ≤ (a0.size : Int)); obtain ⟨rfl, rfl⟩ := pj2_ H; go_enter Try.func35, Try.ntmps35; go_wp2_with (first | (go_at_call 47; (with_reducible refine (octet_Seal.calls k (a0.extract 0 ((ji3) : Int).toNat) t102 _ A6.out).mono ?_); rintro e w10 ⟨rfl, hb⟩; replace HB := ah_ HB hb; (try clear hb); (try clear hb2); (try clear hk); (try clear hi)))
 go_ret2
 exact ⟨by first | rfl | (simp [errW_none, errW_some] <;> rfl) | (simp only [← hji3]; first | rfl | (simp [errW_none, errW_some] <;> rfl)) | (simp [*, errW_none, errW_some] <;> rfl) | (simp [ne_nil_bool]; done) | (simp [*, ne_nil_bool]; done), hb_ HB.out⟩


mutual
def octet_Take.j0 : Nat → ByteArray → Int → Bool → Option (Int × Int × Int)
 | 0, _, _, _ => none
 | k + 1, x0, x1, x17 => if x17 = true then (some (0, 0, 1)) else (octet_Take.l0 k x0 x1 0 0)
def octet_Take.l0 : Nat → ByteArray → Int → Int → Int → Option (Int × Int × Int)
 | 0, _, _, _, _ => none
 | k + 1, x0, x1, x7, x18 => if x18 < 10 then (if (wrap64 (x1 + x18)) = (x0.size : Int) then (some (0, 0, 3)) else (if 0 ≤ (wrap64 (x1 + x18)) then (if (wrap64 (x1 + x18)) < (x0.size : Int) then (if x18 = 9 then (if (bt x0 (wrap64 (x1 + x18))) > 1 then (octet_Take.j2 k x0 x1 x7 x18 (bt x0 (wrap64 (x1 + x18))) x18 true) else (if x18 > 0 then (octet_Take.j2 k x0 x1 x7 x18 (bt x0 (wrap64 (x1 + x18))) x18 ((bt x0 (wrap64 (x1 + x18))) == 0)) else (octet_Take.j2 k x0 x1 x7 x18 (bt x0 (wrap64 (x1 + x18))) x18 false))) else (if x18 > 0 then (octet_Take.j2 k x0 x1 x7 x18 (bt x0 (wrap64 (x1 + x18))) x18 ((bt x0 (wrap64 (x1 + x18))) == 0)) else (octet_Take.j2 k x0 x1 x7 x18 (bt x0 (wrap64 (x1 + x18))) x18 false))) else (none)) else (none))) else (some (0, 0, 2))
def octet_Take.j2 : Nat → ByteArray → Int → Int → Int → Int → Int → Bool → Option (Int × Int × Int)
 | 0, _, _, _, _, _, _, _ => none
 | k + 1, x0, x1, x7, x8, x9, x18, x45 => if x45 = true then (some (0, 0, 2)) else (if 0 ≤ (wrap64 (7 * x8)) then (if x9 < 128 then (some (Go.bits .or .u64 x7 (shl .u64 (IntKind.u64.wrap (Go.bits .andNot .u8 x9 128)) (wrap64 (7 * x8))), wrap64 ((wrap64 (x1 + x8)) + 1), 0)) else (octet_Take.l0 k x0 x1 (Go.bits .or .u64 x7 (shl .u64 (IntKind.u64.wrap (Go.bits .andNot .u8 x9 128)) (wrap64 (7 * x8)))) (wrap64 (x18 + 1)))) else (none))
end
def octet_Take.f (k : Nat) (a0 : ByteArray) (a1 : Int) : Option (Int × Int × Int) := if a1 < 0 then (octet_Take.j0 k a0 a1 true) else (octet_Take.j0 k a0 a1 (decide (a1 > (a0.size : Int))))
set_option maxHeartbeats 8000000 in
set_option maxRecDepth 100000 in
theorem octet_Take.calls (k : Nat) (a0 : ByteArray) (a1 : Int) (r1 : Int) (r2 : Int) (r3 : Int) (w : World) (h : octet_Take.f k a0 a1 = some (r1, r2, r3)) :
  Calls Try.prog 63 #[.string a0, .int .i64 a1] w fun e w' => e = .returned (.tuple #[.int .u64 r1, .int .i64 r2, .int .i64 r3]) ∧ Drawn0 w w' := by
 unfold octet_Take.f at h; have H := h; clear h; have HC3 := Aside0.mk H; clear H; go_enter Try.func63, Try.ntmps63; go_upto_region 1 with (fail)
 go_cut [17] (fun v17 wc => ∃ (kq : Nat) (x17_2 : Bool), v17 = .bool x17_2 ∧ Aside0 (octet_Take.j0 kq a0 a1 x17_2 = some (r1, r2, r3)) ∧ Aside0 (kq ≤ k) ∧ Drawn0 w wc)
 case first =>
  have H := HC3.out; clear HC3; by_cases c4 : a1 < 0
  ·rw [if_pos c4] at H; have c4b0 := dt_ c4; clear c4; (first | rw [c4b0] | (simp only [i64_w, i32_w]; rw [c4b0]) | skip); (try rw [c4b8])
   have H' := Aside0.mk H; clear H; go_wp2
   go_meet
   case rel => exact ⟨_, (true), z0_, H', ⟨z6_⟩, z3_⟩
  rw [if_neg c4] at H; have c4b0 := df_ c4; clear c4; (first | rw [c4b0] | (simp only [i64_w, i32_w]; rw [c4b0]) | skip); (try rw [c4b8])
  have H' := Aside0.mk H; clear H; go_wp2
  go_meet
  case rel => exact ⟨_, (decide (a1 > (a0.size : Int))), z0_, H', ⟨z6_⟩, z3_⟩
 case rest =>
  clear HC3; try clear p2
  try clear c4
  try clear c4b0
  obtain ⟨kq, x17_2, rfl, HA, HJ2, ⟨mc2, rfl⟩⟩ := hcut
  cases kq with
  | zero => exact absurd HA.out (by simp [octet_Take.j0])
  | succ kj2 =>
   have H := HA.out; clear HA; simp only [octet_Take.j0] at H; by_cases c5 : x17_2 = true
   ·subst c5; rw [if_pos rfl] at H; obtain ⟨rfl, rfl, rfl⟩ := pj3_ H; go_wp2
    go_ret3
    exact ⟨z0_, z3_⟩
   replace c5 := Bool.eq_false_iff.mpr c5; subst c5; rw [if_neg nft_] at H; have H' := Aside0.mk H; clear H; go_wp2
   go_loopg [7, 18] kj2 (fun kq v7 v18 w' => ∃ (x7_2 : Int) (x18_2 : Int), v7 = .int .u64 x7_2 ∧ v18 = .int .i64 x18_2 ∧ Aside0 (octet_Take.l0 kq a0 a1 x7_2 x18_2 = some (r1, r2, r3)) ∧ Aside0 (kq ≤ kj2) ∧ Drawn0 w w')
   case atStart => exact ⟨(0), (0), z0_, z0_, H', ⟨Nat.le_refl _⟩, z3_⟩
   case round =>
    clear H'; try clear c2
    try clear p2
    try clear c4
    try clear c4b0
    try clear c5
    try clear p2
    obtain ⟨x7_2, x18_2, rfl, rfl, HA, HK2, ⟨m2, rfl⟩⟩ := hrel
    cases gk with
    | zero => exact absurd HA.out (by simp [octet_Take.l0])
    | succ k2 =>
     have H := HA.out; clear HA; simp only [octet_Take.l0] at H; by_cases c6 : x18_2 < 10; rotate_left
     ·rw [if_neg c6] at H; have c6b0 := df_ c6; clear c6; obtain ⟨rfl, rfl, rfl⟩ := pj3_ H; go_wp2
      go_ret3
      exact ⟨z0_, z3_⟩
     rw [if_pos c6] at H; have c6b0 := dt_ c6; clear c6; by_cases c7 : (wrap64 (a1 + x18_2)) = (a0.size : Int)
     ·rw [if_pos c7] at H; have c7b0 := et_ c7; have c7b1 := nf_ c7; clear c7; obtain ⟨rfl, rfl, rfl⟩ := pj3_ H; go_wp2
      go_ret3
      exact ⟨z0_, z3_⟩
     rw [if_neg c7] at H; have c7b0 := ef_ c7; have c7b1 := nt_ c7; obtain ⟨ji8, hji8⟩ : ∃ j_ : Int, (wrap64 (a1 + x18_2)) = j_ := ⟨_, rfl⟩; replace H : (if 0 ≤ (ji8) then (if (ji8) < (a0.size : Int) then (if x18_2 = 9 then (if (bt a0 (ji8)) > 1 then (octet_Take.j2 k2 a0 a1 x7_2 x18_2 (bt a0 (ji8)) x18_2 true) else (if x18_2 > 0 then (octet_Take.j2 k2 a0 a1 x7_2 x18_2 (bt a0 (ji8)) x18_2 ((bt a0 (ji8)) == 0)) else (octet_Take.j2 k2 a0 a1 x7_2 x18_2 (bt a0 (ji8)) x18_2 false))) else (if x18_2 > 0 then (octet_Take.j2 k2 a0 a1 x7_2 x18_2 (bt a0 (ji8)) x18_2 ((bt a0 (ji8)) == 0)) else (octet_Take.j2 k2 a0 a1 x7_2 x18_2 (bt a0 (ji8)) x18_2 false))) else (none)) else (none)) = some (r1, r2, r3) := by first | (rw [hji8] at H; exact H) | (simp only [hji8] at H ⊢; exact H)
     (try rw [hji8] at c7b0)
     (try rw [hji8] at c7b1)
     have hji8w : (IntKind.i64.wrap (a1 + x18_2)) = ji8 := (i64_w _).trans hji8; by_cases c9 : 0 ≤ (ji8); rotate_left
     ·rw [if_neg c9] at H; exact no_ H
     rw [if_pos c9] at H; have c9b0 := dt_ c9; clear c9; by_cases c10 : (ji8) < (a0.size : Int); rotate_left
     ·rw [if_neg c10] at H; exact no_ H
     rw [if_pos c10] at H; have c10b0 := dt_ c10; clear c10; have HC12 := Aside0.mk H; clear H; have p11 : 0 ≤ ((ji8) : Int) := y0_; have q11 : (ji8) < (a0.size : Int) := y0_; have hx11 := bt_at a0 (ji8); replace p11 := eq_true p11; replace q11 := eq_true q11; go_upto_region 10 with (fail)
     go_cut [45] (fun v45 wc => ∃ (kq : Nat) (x45_11 : Bool), v45 = .bool x45_11 ∧ Aside0 (octet_Take.j2 kq a0 a1 x7_2 x18_2 (bt a0 (ji8)) x18_2 x45_11 = some (r1, r2, r3)) ∧ Aside0 (kq ≤ k2) ∧ Drawn0 w wc)
     case first =>
      have H := HC12.out; clear HC12; by_cases c13 : x18_2 = 9; rotate_left
      ·rw [if_neg c13] at H; have c13b0 := ef_ c13; have c13b1 := nt_ c13; (first | rw [c13b0] | (simp only [i64_w, i32_w]; rw [c13b0]) | skip); (try rw [c13b8])
       by_cases c16 : x18_2 > 0
       ·rw [if_pos c16] at H; have c16b0 := dt_ c16; clear c16; have H' := Aside0.mk H; clear H; go_wp2
        go_meet
        case rel => exact ⟨_, (((bt a0 (ji8)) == 0)), (by first | rfl | (simp; done) | (simp only [← hji8] <;> (first | rfl | simp)) | (simp [*]; done)), H', ⟨by have := HJ2.out; have := HK2.out; first | omega | exact Nat.le_refl _⟩, z3_⟩
       rw [if_neg c16] at H; have c16b0 := df_ c16; clear c16; have H' := Aside0.mk H; clear H; go_wp2
       (try subst hji8)
       go_meet
       case rel => exact ⟨_, (false), z0_, H', ⟨by have := HJ2.out; have := HK2.out; first | omega | exact Nat.le_refl _⟩, z3_⟩
      rw [if_pos c13] at H; have c13b0 := et_ c13; have c13b1 := nf_ c13; clear c13; (first | rw [c13b0] | (simp only [i64_w, i32_w]; rw [c13b0]) | skip); (try rw [c13b8])
      by_cases c14 : (bt a0 (ji8)) > 1
      ·rw [if_pos c14] at H; have c14b0 := dt_ c14; clear c14; have H' := Aside0.mk H; clear H; go_wp2
       (try subst hji8)
       go_meet
       case rel => exact ⟨_, (true), z0_, H', ⟨by have := HJ2.out; have := HK2.out; first | omega | exact Nat.le_refl _⟩, z3_⟩
      rw [if_neg c14] at H; have c14b0 := df_ c14; clear c14; by_cases c15 : x18_2 > 0
      ·rw [if_pos c15] at H; have c15b0 := dt_ c15; clear c15; have H' := Aside0.mk H; clear H; go_wp2
       go_meet
       case rel => exact ⟨_, (((bt a0 (ji8)) == 0)), (by first | rfl | (simp; done) | (simp only [← hji8] <;> (first | rfl | simp)) | (simp [*]; done)), H', ⟨by have := HJ2.out; have := HK2.out; first | omega | exact Nat.le_refl _⟩, z3_⟩
      rw [if_neg c15] at H; have c15b0 := df_ c15; clear c15; have H' := Aside0.mk H; clear H; go_wp2
      (try subst hji8)
      go_meet
      case rel => exact ⟨_, (false), z0_, H', ⟨by have := HJ2.out; have := HK2.out; first | omega | exact Nat.le_refl _⟩, z3_⟩
     case rest =>
      clear HC12; try clear c1
      try clear p1
      try clear q1
      try clear hx1
      try clear c2
      try clear p2
      try clear c4
      try clear c4b0
      try clear c5
      try clear c6
      try clear c6b0
      try clear p6
      try clear c7
      try clear c7b0
      try clear c7b1
      try clear c9
      try clear c9b0
      try clear c10
      try clear c10b0
      try clear p11
      try clear q11
      try clear hx11
      try clear c13
      try clear c13b0
      try clear c13b1
      try clear c14
      try clear c14b0
      try clear c15
      try clear c15b0
      try clear c16
      try clear c16b0
      try clear p11
      try clear p2
      try clear q11
      obtain ⟨kq, x45_11, rfl, HA, HJ11, ⟨mc11, rfl⟩⟩ := hcut
      cases kq with
      | zero => exact absurd HA.out (by simp [octet_Take.j2])
      | succ kj11 =>
       have H := HA.out; clear HA; simp only [octet_Take.j2] at H; by_cases c17 : x45_11 = true
       ·subst c17; rw [if_pos rfl] at H; obtain ⟨rfl, rfl, rfl⟩ := pj3_ H; go_wp2
        go_ret3
        exact ⟨by first | rfl | (simp; done) | (simp only [← hji8] <;> (first | rfl | simp)) | (simp [*]; done), z3_⟩
       replace c17 := Bool.eq_false_iff.mpr c17; subst c17; rw [if_neg nft_] at H; obtain ⟨ji18, hji18⟩ : ∃ j_ : Int, (wrap64 (7 * x18_2)) = j_ := ⟨_, rfl⟩; replace H : (if 0 ≤ (ji18) then (if (bt a0 (ji8)) < 128 then (some (Go.bits .or .u64 x7_2 (shl .u64 (IntKind.u64.wrap (Go.bits .andNot .u8 (bt a0 (ji8)) 128)) (ji18)), wrap64 ((wrap64 (a1 + x18_2)) + 1), 0)) else (octet_Take.l0 kj11 a0 a1 (Go.bits .or .u64 x7_2 (shl .u64 (IntKind.u64.wrap (Go.bits .andNot .u8 (bt a0 (ji8)) 128)) (ji18))) (wrap64 (x18_2 + 1)))) else (none)) = some (r1, r2, r3) := by first | (rw [hji18] at H; exact H) | (simp only [hji18] at H ⊢; exact H)
       have hji18w : (IntKind.i64.wrap (7 * x18_2)) = ji18 := (i64_w _).trans hji18; by_cases c19 : 0 ≤ (ji18); rotate_left
       ·rw [if_neg c19] at H; exact no_ H
       rw [if_pos c19] at H; have c19b0 := eq_true c19; have c19b1 := dt_ c19; clear c19; obtain ⟨ji20, hji20⟩ : ∃ j_ : Int, (shl .u64 (IntKind.u64.wrap (Go.bits .andNot .u8 (bt a0 (ji8)) 128)) (ji18)) = j_ := ⟨_, rfl⟩; replace H : (if (bt a0 (ji8)) < 128 then (some (Go.bits .or .u64 x7_2 (ji20), wrap64 ((wrap64 (a1 + x18_2)) + 1), 0)) else (octet_Take.l0 kj11 a0 a1 (Go.bits .or .u64 x7_2 (ji20)) (wrap64 (x18_2 + 1)))) = some (r1, r2, r3) := by first | (rw [hji20] at H; exact H) | (simp only [hji20] at H ⊢; exact H)
       have hji20_ : (IntKind.u64.wrap ((IntKind.u64.wrap (Go.bits .andNot .u8 (bt a0 (ji8)) 128)) * 2 ^ min (ji18).toNat 64)) = ji20 := hji20; have hji20z : (ji18) ≤ 64 → (IntKind.u64.wrap ((IntKind.u64.wrap (Go.bits .andNot .u8 (bt a0 (ji8)) 128)) * 2 ^ (ji18).toNat)) = ji20 := shl_small hji20; by_cases c21 : (bt a0 (ji8)) < 128
       ·rw [if_pos c21] at H; have c21b0 := dt_ c21; clear c21; obtain ⟨rfl, rfl, rfl⟩ := pj3_ H; go_wp2
        go_ret3
        exact ⟨by first | rfl | (simp; done) | (simp only [← hji8, ← hji18, ← hji20] <;> (first | rfl | simp)) | (simp [*]; done), z3_⟩
       rw [if_neg c21] at H; have c21b0 := df_ c21; clear c21; have H' := Aside0.mk H; clear H; go_wp2
       go_roundg kj11
       case measure => have := HJ2.out; have := HK2.out; have := HJ11.out; omega
       case rel => exact ⟨(Go.bits .or .u64 x7_2 (ji20)), (wrap64 (x18_2 + 1)), (by first | rfl | (simp; done) | (simp only [← hji20] <;> (first | rfl | simp)) | (simp [*]; done)), z0_, H', ⟨by have := HJ2.out; have := HK2.out; have := HJ11.out; omega⟩, z3_⟩


def ident_Hex.l0 : Nat → ByteArray → List Int → Int → Int → Option (ByteArray)
 | 0, _, _, _, _ => none
 | k + 1, x0, x3, x10, x11 => if x11 < x10 then (if 0 ≤ x11 then (if x11 < (x0.size : Int) then (if 0 ≤ ((bt x0 x11) / 16) then (if ((bt x0 x11) / 16) < 16 then (if 0 ≤ (Go.bits .and .u8 (bt x0 x11) 15) then (if (Go.bits .and .u8 (bt x0 x11) 15) < 16 then ((some (([bt ⟨#[48, 49, 50, 51, 52, 53, 54, 55, 56, 57, 97, 98, 99, 100, 101, 102]⟩ ((bt x0 x11) / 16), bt ⟨#[48, 49, 50, 51, 52, 53, 54, 55, 56, 57, 97, 98, 99, 100, 101, 102]⟩ (Go.bits .and .u8 (bt x0 x11) 15)] : List Int) : List Int)).bind fun y104 => (if x3.length + y104.length < 140737488355328 then (ident_Hex.l0 k x0 (x3 ++ y104) x10 (wrap64 (x11 + 1))) else (none))) else (none)) else (none)) else (none)) else (none)) else (none)) else (none)) else (some (strOfNums x3))
def ident_Hex.f (k : Nat) (a0 : ByteArray) : Option (ByteArray) := if 0 ≤ (wrap64 (2 * (a0.size : Int))) then (if (wrap64 (2 * (a0.size : Int)) : Int).toNat ≤ 281474976710656 then (ident_Hex.l0 k a0 (([] : List Int)) (a0.size : Int) 0) else (none)) else (none)
theorem ident_Hex.mono_l : ∀ k, (∀ y0 y1 y2 y3, LeO (ident_Hex.l0 k y0 y1 y2 y3) (ident_Hex.l0 (k + 1) y0 y1 y2 y3))
 | 0 => fun _ _ _ _ r h => by simp [ident_Hex.l0] at h
 | k + 1 => by
  have ih0 := ident_Hex.mono_l k
  ·intro y0 y1 y2 y3
   unfold ident_Hex.l0
   have m0_ := @ih0
   exact mz_
theorem ident_Hex.mono : ∀ a0 k, LeO (ident_Hex.f k a0) (ident_Hex.f (k + 1) a0) := by
 intro a0 k; have ih0 := ident_Hex.mono_l k; unfold ident_Hex.f; have m0_ := @ih0; exact mz_
def ident_Hex.T5 : Bool × List (List Nat × List Nat) := (true, [([], []), ([], []), ([], []), ([1, 2], [1, 2]), ([3], [3]), ([4], [4]), ([], []), ([], []), ([6, 7], [6, 7]), ([8], [8]), ([9], [9]), ([5, 10], [5, 10]), ([0, 11], [0, 11]), ([12, 12, 0, 1, 2, 3, 4, 5, 6, 7, 8, 9, 10, 11, 12], [0, 12])])
def ident_Hex.B5 : List Nat := [0, 0, 0, 6, 14, 30, 0, 0, 192, 448, 960, 2046, 4095, 8191]
theorem ident_Hex.tab5 : rtab .any (opsOf Try.f50 5) = ident_Hex.T5 := by kernel_rfl
theorem ident_Hex.bits5 : waitsOk ident_Hex.T5.2 ident_Hex.B5 = true := by kernel_rfl
set_option maxHeartbeats 8000000 in
set_option maxRecDepth 100000 in
theorem ident_Hex.calls (k : Nat) (a0 : ByteArray) (r : ByteArray) (w : World) (h : ident_Hex.f k a0 = some r) :
  Calls Try.prog 50 #[.string a0] w fun e w' => e = .returned (.string r) ∧ Below w.heap.size w w' := by
 have HB := Aside0.mk (Below.refl w.heap.size w); unfold ident_Hex.f at h; have H := h; clear h; obtain ⟨ji2, hji2⟩ : ∃ j_ : Int, (wrap64 (2 * (a0.size : Int))) = j_ := ⟨_, rfl⟩; replace H : (if 0 ≤ (ji2) then (if (ji2 : Int).toNat ≤ 281474976710656 then (ident_Hex.l0 k a0 (([] : List Int)) (a0.size : Int) 0) else (none)) else (none)) = some r := by first | (rw [hji2] at H; exact H) | (simp only [hji2] at H ⊢; exact H)
 have hji2w : (IntKind.i64.wrap (2 * (a0.size : Int))) = ji2 := (i64_w _).trans hji2; by_cases c3 : 0 ≤ (ji2); rotate_left
 ·rw [if_neg c3] at H; exact no_ H
 rw [if_pos c3] at H; have c3b0 := eq_true c3; have c3b1 := dt_ c3; clear c3; by_cases c4 : (ji2 : Int).toNat ≤ 281474976710656; rotate_left
 ·rw [if_neg c4] at H; exact no_ H
 rw [if_pos c4] at H; have c4b0 := eq_true c4; have c4b1 := dt_ c4; clear c4; obtain ⟨y101, hy101⟩ : ∃ y_ : List Int, y_ = (([] : List Int)) := ⟨_, rfl⟩; replace H : (ident_Hex.l0 k a0 y101 (a0.size : Int) 0) = some r := by first | (rw [hy101]; with_reducible exact H) | (have H2_ := (Option.bind_some _ _).symm.trans H; rw [hy101]; with_reducible exact H2_) | (have H2_ := (Option.bind_some _ _).symm.trans H; with_reducible exact H2_) | with_reducible exact H | (rw [hy101]; exact H) | exact H
 have Ny101 := Aside0.mk hy101; clear hy101; have H' := Aside0.mk H; clear H; go_enter Try.func50, Try.ntmps50; go_wp2_with (first | ((with_reducible refine gate_dst (N := 8) rfl ?_); refine R_makecap (Kd.int .u8) _ 5 rfl (N := 8) rfl 87 _ _ rfl ji2 rfl rfl Try.underlying87 (.int .u8 0) 1 info5 rfl (by decide) (ok := fun _ => True) trivial (y0_) (Nat.le_trans (Nat.mul_le_mul_right _ (y0_ : ji2.toNat ≤ 281474976710656)) (by omega)) (Below.refl _ _) (Nat.le_refl _) ?_; intro v102 w5 ho6 hb hg_ hnew_; clear hg_ hnew_; (first | rw [← Ny101.out] at ho6 | (simp only [Int.reduceToNat] at ho6; rw [← Ny101.out] at ho6)); have HO103 := Aside0.mk (Kd.R_lower ho6 (below_size (hb_ HB.out))); replace HB := ah_ HB hb; clear hb ho6)); go_loopg [3, 11] k (fun kq v3 v11 w' => ∃ (x3_1 : List Int) (x11_1 : Int), v11 = .int .i64 x11_1 ∧ Aside0 (ident_Hex.l0 kq a0 x3_1 (a0.size : Int) x11_1 = some r) ∧ Aside0 (kq ≤ k) ∧ Aside0 (Kd.R (Kd.int .u8) 5 w' w.heap.size (fun _ => True) v3 x3_1) ∧ Aside0 (Below w.heap.size w w'))
 case atStart => exact ⟨(y101), (0), z0_, H', ⟨Nat.le_refl _⟩, ⟨by (with_reducible repeat (first | apply Kd.R_alloc | apply Kd.R_drewN | apply Kd.R_drew)); exact HO103.out⟩, ⟨hb_ HB.out⟩⟩
 case round =>
  clear H'; try clear p2
  try clear c3
  try clear c3b0
  try clear c3b1
  try clear c4
  try clear c4b0
  try clear c4b1
  try clear c5
  try clear p6
  obtain ⟨x3_1, x11_1, rfl, HA, HK1, HO_3, HB⟩ := hrel
  cases gk with
  | zero => exact absurd HA.out (by simp [ident_Hex.l0])
  | succ k1 =>
   have H := HA.out; clear HA; simp only [ident_Hex.l0] at H; by_cases c7 : x11_1 < (a0.size : Int); rotate_left
   ·rw [if_neg c7] at H; have c7b0 := df_ c7; clear c7; obtain rfl := oi_ H; have hcv25 := own_string (P := Try.prog) Try.underlying87 Try.underlying5 Try.underlying9 (Kd.own_of_R HO_3.out); go_wp2
    go_ret
    exact ⟨by first | rfl | (simp [errW_none, errW_some] <;> rfl) | (simp only [← hji2]; first | rfl | (simp [errW_none, errW_some] <;> rfl)) | (simp [*, errW_none, errW_some] <;> rfl) | (simp [ne_nil_bool]; done) | (simp [*, ne_nil_bool]; done), hb_ HB.out⟩
   rw [if_pos c7] at H; have c7b0 := dt_ c7; clear c7; by_cases c8 : 0 ≤ x11_1; rotate_left
   ·rw [if_neg c8] at H; exact no_ H
   rw [if_pos c8] at H; have c8b0 := dt_ c8; clear c8; by_cases c9 : x11_1 < (a0.size : Int); rotate_left
   ·rw [if_neg c9] at H; exact no_ H
   rw [if_pos c9] at H; have c9b0 := dt_ c9; clear c9; obtain ⟨ji11, hji11⟩ : ∃ j_ : Int, ((bt a0 x11_1) / 16) = j_ := ⟨_, rfl⟩; replace H : (if 0 ≤ (ji11) then (if (ji11) < 16 then (if 0 ≤ (Go.bits .and .u8 (bt a0 x11_1) 15) then (if (Go.bits .and .u8 (bt a0 x11_1) 15) < 16 then ((some (([bt ⟨#[48, 49, 50, 51, 52, 53, 54, 55, 56, 57, 97, 98, 99, 100, 101, 102]⟩ (ji11), bt ⟨#[48, 49, 50, 51, 52, 53, 54, 55, 56, 57, 97, 98, 99, 100, 101, 102]⟩ (Go.bits .and .u8 (bt a0 x11_1) 15)] : List Int) : List Int)).bind fun y104 => (if x3_1.length + y104.length < 140737488355328 then (ident_Hex.l0 k1 a0 (x3_1 ++ y104) (a0.size : Int) (wrap64 (x11_1 + 1))) else (none))) else (none)) else (none)) else (none)) else (none)) = some r := by first | (rw [hji11] at H; exact H) | (simp only [hji11] at H ⊢; exact H)
   by_cases c12 : 0 ≤ (ji11); rotate_left
   ·rw [if_neg c12] at H; exact no_ H
   rw [if_pos c12] at H; have c12b0 := dt_ c12; clear c12; by_cases c13 : (ji11) < 16; rotate_left
   ·rw [if_neg c13] at H; exact no_ H
   rw [if_pos c13] at H; have c13b0 := dt_ c13; clear c13; by_cases c16 : 0 ≤ (Go.bits .and .u8 (bt a0 x11_1) 15); rotate_left
   ·rw [if_neg c16] at H; exact no_ H
   rw [if_pos c16] at H; have c16b0 := dt_ c16; clear c16; by_cases c17 : (Go.bits .and .u8 (bt a0 x11_1) 15) < 16; rotate_left
   ·rw [if_neg c17] at H; exact no_ H
   rw [if_pos c17] at H; have c17b0 := dt_ c17; clear c17; obtain ⟨y104, hy104⟩ : ∃ y_ : List Int, y_ = (([bt ⟨#[48, 49, 50, 51, 52, 53, 54, 55, 56, 57, 97, 98, 99, 100, 101, 102]⟩ (ji11), bt ⟨#[48, 49, 50, 51, 52, 53, 54, 55, 56, 57, 97, 98, 99, 100, 101, 102]⟩ (Go.bits .and .u8 (bt a0 x11_1) 15)] : List Int)) := ⟨_, rfl⟩; replace H : (if x3_1.length + y104.length < 140737488355328 then (ident_Hex.l0 k1 a0 (x3_1 ++ y104) (a0.size : Int) (wrap64 (x11_1 + 1))) else (none)) = some r := by first | (rw [hy104]; with_reducible exact H) | (have H2_ := (Option.bind_some _ _).symm.trans H; rw [hy104]; with_reducible exact H2_) | (have H2_ := (Option.bind_some _ _).symm.trans H; with_reducible exact H2_) | with_reducible exact H | (rw [hy104]; exact H) | exact H
   have Ny104 := Aside0.mk hy104; clear hy104; by_cases c19 : x3_1.length + y104.length < 140737488355328; rotate_left
   ·rw [if_neg c19] at H; exact no_ H
   rw [if_pos c19] at H; have LMc19 := Aside0.mk c19; clear c19; obtain ⟨y107, hy107⟩ : ∃ y_ : List Int, y_ = (x3_1 ++ y104) := ⟨_, rfl⟩; replace H : (ident_Hex.l0 k1 a0 y107 (a0.size : Int) (wrap64 (x11_1 + 1))) = some r := by first | (rw [hy107]; with_reducible exact H) | (have H2_ := (Option.bind_some _ _).symm.trans H; rw [hy107]; with_reducible exact H2_) | (have H2_ := (Option.bind_some _ _).symm.trans H; with_reducible exact H2_) | with_reducible exact H | (rw [hy107]; exact H) | exact H
   have Ny107 := Aside0.mk hy107; clear hy107; have H' := Aside0.mk H; clear H; try go_wp2
   replace HO_3 := Aside0.mk (Kd.R_drew HO_3.out); replace HB := hd_ HB; have p10 : 0 ≤ (x11_1 : Int) := y0_; have q10 : x11_1 < (a0.size : Int) := y0_; have hx10 := bt_at a0 x11_1; replace p10 := eq_true p10; replace q10 := eq_true q10; have p14 : 0 ≤ ((ji11) : Int) := y0_; have q14 : (ji11) < (16 : Int) := y0_; have hx14 := bt_at ⟨#[48, 49, 50, 51, 52, 53, 54, 55, 56, 57, 97, 98, 99, 100, 101, 102]⟩ (ji11); replace p14 := eq_true p14; replace q14 := eq_true q14; have p15 : 0 ≤ (x11_1 : Int) := y0_; have q15 : x11_1 < (a0.size : Int) := y0_; have hx15 := bt_at a0 x11_1; replace p15 := eq_true p15; replace q15 := eq_true q15; have p18 : 0 ≤ ((Go.bits .and .u8 (bt a0 x11_1) 15) : Int) := y0_; have q18 : (Go.bits .and .u8 (bt a0 x11_1) 15) < (16 : Int) := y0_; have hx18 := bt_at ⟨#[48, 49, 50, 51, 52, 53, 54, 55, 56, 57, 97, 98, 99, 100, 101, 102]⟩ (Go.bits .and .u8 (bt a0 x11_1) 15); replace p18 := eq_true p18; replace q18 := eq_true q18; refine start_ (n := 14) (S := fun w' => True) (ds := []) (bs 14 0) (by kernel_rfl) rfl rfl trivial (fun hHeld => ?_); refine with_tabW ident_Hex.tab5 ident_Hex.bits5 (fun HT_ HW_ => ?_); generalize wr.drew = w20 at HO_3 HB hHeld ⊢; refine pun_ 0 14 14 1 ?_; refine pun_ 1 15 14 3 ?_; refine pun_ 2 16 14 7 ?_; refine pun_ 6 20 14 71 ?_; refine pun_ 7 21 14 199 ?_; refine tkW0n_ 3 17 14 207 hHeld ?_; refine pun_ 4 18 14 223 ?_; refine tkW0n_ 5 19 14 255 hHeld ?_; refine tkW0n_ 8 22 14 511 hHeld ?_; refine pun_ 9 23 14 1023 ?_; refine tkW0n_ 10 24 14 2047 hHeld ?_; refine on_ 11 25 14 4095 (fun K hK => ?_); refine Kd.R_lit_step (Kd.int .u8) _ 5 ?hg (N := 25) ?hd (xs := ([bt ⟨#[48, 49, 50, 51, 52, 53, 54, 55, 56, 57, 97, 98, 99, 100, 101, 102]⟩ (ji11), bt ⟨#[48, 49, 50, 51, 52, 53, 54, 55, 56, 57, 97, 98, 99, 100, 101, 102]⟩ (Go.bits .and .u8 (bt a0 x11_1) 15)] : List Int)) (inner := [.int .u8 (bt ⟨#[48, 49, 50, 51, 52, 53, 54, 55, 56, 57, 97, 98, 99, 100, 101, 102]⟩ (ji11)), .int .u8 (bt ⟨#[48, 49, 50, 51, 52, 53, 54, 55, 56, 57, 97, 98, 99, 100, 101, 102]⟩ (Go.bits .and .u8 (bt a0 x11_1) 15))]) (ok := fun _ => True) (okp := fun _ => True) ?hr ?hp (fun _ hk => hk) trivial (Below.refl _ _) (Nat.le_refl _) (by simp) ?_; (case hd => rfl); (case hg => rfl); (case hr => first | (go_simp; done) | (go_simp; rfl)); (case hp => exact (Reps.one (show Kd.M (Kd.int .u8) _ _ _ (bt ⟨#[48, 49, 50, 51, 52, 53, 54, 55, 56, 57, 97, 98, 99, 100, 101, 102]⟩ (ji11)) [.int .u8 (bt ⟨#[48, 49, 50, 51, 52, 53, 54, 55, 56, 57, 97, 98, 99, 100, 101, 102]⟩ (ji11))] from rfl) (Reps.one (show Kd.M (Kd.int .u8) _ _ _ (bt ⟨#[48, 49, 50, 51, 52, 53, 54, 55, 56, 57, 97, 98, 99, 100, 101, 102]⟩ (Go.bits .and .u8 (bt a0 x11_1) 15)) [.int .u8 (bt ⟨#[48, 49, 50, 51, 52, 53, 54, 55, 56, 57, 97, 98, 99, 100, 101, 102]⟩ (Go.bits .and .u8 (bt a0 x11_1) 15))] from rfl) (Reps.none _ _))))
   intro v105 w21 ho22 hb hg_ hnew_; clear hg_ hnew_; (first | rw [← Ny104.out] at ho22 | (simp only [Int.reduceToNat] at ho22; rw [← Ny104.out] at ho22)); have HO106 := Aside0.mk (Kd.R_lower (Kd.R_new' ho22 (Kd.R_lt (rk_ HO_3.out))) (below_size (hb_ HB.out))); replace HO_3 := Aside0.mk (Kd.R_elder' (rk_ HO_3.out) (Kd.R_base ho22) hb); replace HB := ah_ HB hb; clear hb ho22; obtain ⟨Ao24, co24, eo24⟩ := Kd.R_slice HO106.out; (first | subst eo24 | (injection eo24 with f1_ f2_ f3_; have f4_ := f1_.symm; have f5_ := f3_.symm; clear f1_ f2_ f3_; subst f4_; subst f5_)); refine hK.out _ _ trivial (fun hHeld => ?_); clear hK K; refine nrm_ 25 ?_
   refine on_ 12 26 14 8191 (fun K hK => ?_); refine Kd.R_append_rows_step (Kd.int .u8) (w0 := w) w.heap.size (by rfl) (.tmp 14) (.tmp 25) 87 5 (.int .u8 0) 1 rfl Try.underlying87 info5 rfl (by decide) (by omega) u3 x3_1 y104 _ _ _ (fun k_ => some k_ ≠ (.slice Ao24 y104.length co24 : Value).ownBlock) (fun _ => False) rfl rfl ?aO ?aR (fun _ _ h => h) (fun _ h => h.elim) ?aF ?aB ?aS ?aL ?_; (case aR => repeat (first | exact (Kd.R_reads' HO106.out).2.2 | (with_reducible refine Kd.C_alloc ?_ _) | (with_reducible refine Kd.C_drewN ?_ _) | (with_reducible refine Kd.C_drew ?_)))
   (case aB => exact (hb_ HB.out))
   (case aF => exact (fun k_ hk => Kd.fresh' (Kd.R_lt (rk_ HO106.out)) k_ hk))
   (case aO => exact (by (with_reducible repeat (first | apply Kd.R_alloc | apply Kd.R_drewN | apply Kd.R_drew)); exact Kd.R_mono HO_3.out (fun _ hk => hk.2)))
   (case aS => exact (below_size (hb_ HB.out)))
   (case aL => have := LMc19.out; omega)
   intro v108 w23 ho hb hg hat; rw [← Ny107.out] at ho; have n0_ := Aside0.mk (Kd.R_after (ok := (fun _ => True)) (rk_ HO106.out) hg hat); have n1_ := Aside0.mk (hb); have n2_ := Aside0.mk (ho); clear HO106; clear HB; clear HO_3; have HO106 := n0_; have HB := n1_; have HO109 := n2_; clear n0_ n1_ n2_; clear ho hb hg hat; refine hK.out _ _ trivial (fun hHeld => ?_); clear hK K; refine nrm_ 26 ?_
   refine pun_ 13 3 14 16383 ?_; refine dn_ ?_; try go_wp2
   go_roundg k1
   case measure => have := HK1.out; omega
   case rel => exact ⟨(y107), (wrap64 (x11_1 + 1)), z0_, H', ⟨by have := HK1.out; omega⟩, ⟨by (with_reducible repeat (first | apply Kd.R_alloc | apply Kd.R_drewN | apply Kd.R_drew)); exact Kd.R_mono HO109.out (fun _ hk => trivial)⟩, ⟨hb_ HB.out⟩⟩


/-- A state of type 52 at block g of W; what its slices lead to came in by w0. -/
def IsS52 (w0 W : World) (g : Nat) (f0 : ByteArray) (f1 : Int) (f2 : Bool) : Prop := W.heap[g]? = some (.cells #[.string f0, .int .i64 f1, .bool f2] 52 (0, 0)) ∧ w0.heap.size ≤ g
theorem IsS52.grown {w0 W : World} {g : Nat} {f0 : ByteArray} {f1 : Int} {f2 : Bool} {W1 : World} {row : Option Nat} (h : IsS52 w0 W g f0 f1 f2) (hw : W.grownBy W1 row) (hne : some g ≠ row) : IsS52 w0 W1 g f0 f1 f2 := by
 obtain ⟨hb, hg⟩ := h; exact ⟨blk_grown hb hw hne, hg⟩
theorem IsS52.kept {w0 W : World} {g : Nat} {f0 : ByteArray} {f1 : Int} {f2 : Bool} {W1 : World} {S : Nat → Prop} (h : IsS52 w0 W g f0 f1 f2) (hk : Kept W W1 S) (hne : ¬ S g) : IsS52 w0 W1 g f0 f1 f2 := by
 obtain ⟨hb, hg⟩ := h; exact ⟨blk_kept hb hk hne, hg⟩
theorem IsS52.below {w0 W : World} {g : Nat} {f0 : ByteArray} {f1 : Int} {f2 : Bool} {W1 : World} (h : IsS52 w0 W g f0 f1 f2) (hw : Below W.heap.size W W1) : IsS52 w0 W1 g f0 f1 f2 := h.grown (grown_of_below hw none) (by simp)
theorem IsS52.alloc {w0 W : World} {g : Nat} {f0 : ByteArray} {f1 : Int} {f2 : Bool} (h : IsS52 w0 W g f0 f1 f2) (o : Obj) : IsS52 w0 (W.alloc o) g f0 f1 f2 := h.below (below_alloc (Below.refl _ _) o)
theorem IsS52.drewN {w0 W : World} {g : Nat} {f0 : ByteArray} {f1 : Int} {f2 : Bool} (h : IsS52 w0 W g f0 f1 f2) (m : Nat) : IsS52 w0 (W.drewN m) g f0 f1 f2 := h
theorem IsS52.drew {w0 W : World} {g : Nat} {f0 : ByteArray} {f1 : Int} {f2 : Bool} (h : IsS52 w0 W g f0 f1 f2) : IsS52 w0 W.drew g f0 f1 f2 := h
theorem IsS52.at_ {w0 W : World} {g : Nat} {f0 : ByteArray} {f1 : Int} {f2 : Bool} {w' : World} {m : Nat} (hq : W.drewN m = w') (h : IsS52 w0 W g f0 f1 f2) : IsS52 w0 w' g f0 f1 f2 := by subst hq; exact IsS52.drewN h m
theorem IsS52.apart {w0 W : World} {g : Nat} {f0 : ByteArray} {f1 : Int} {f2 : Bool} {α : Type} {d : Kd α} {e : Nat} {base : Nat} {ok : Nat → Prop} {v : Value} {xs : List α} (h : IsS52 w0 W g f0 f1 f2) (ho : d.R e W base ok v xs) (ht : ∀ q, q ∈ e :: d.E → q ≠ 52) : d.R e W base (fun k => ok k ∧ k ≠ g) v xs := by
 obtain ⟨hb, hg⟩ := h; exact Kd.R_types ho hb ht
theorem IsS52.own_ne {w0 W : World} {g : Nat} {f0 : ByteArray} {f1 : Int} {f2 : Bool} {α : Type} {d : Kd α} {e : Nat} {base : Nat} {ok : Nat → Prop} {v : Value} {xs : List α} (h : IsS52 w0 W g f0 f1 f2) (ho : d.R e W base ok v xs) (ht : e ≠ 52) : some g ≠ v.ownBlock := by
 obtain ⟨hb, hg⟩ := h; exact Kd.R_ne ho hb ht
theorem IsS52.lt {w0 W : World} {g : Nat} {f0 : ByteArray} {f1 : Int} {f2 : Bool} (h : IsS52 w0 W g f0 f1 f2) : g < W.heap.size := by
 obtain ⟨hb, hg⟩ := h; exact blk_lt hb
theorem IsS52.ge {w0 W : World} {g : Nat} {f0 : ByteArray} {f1 : Int} {f2 : Bool} (h : IsS52 w0 W g f0 f1 f2) : w0.heap.size ≤ g := by
 obtain ⟨hb, hg⟩ := h; exact hg
theorem IsS52.far {w0 W : World} {g : Nat} {f0 : ByteArray} {f1 : Int} {f2 : Bool} {p : Addr} (h : IsS52 w0 W g f0 f1 f2) (hne : g ≠ p.block) (u : Value) : IsS52 w0 (W.setCell p u) g f0 f1 f2 := by
 obtain ⟨hb, hg⟩ := h; exact ⟨blk_far hb hne u, hg⟩
theorem cellS52_0 {W : World} {g : Nat} {f0 : ByteArray} {f1 : Int} {f2 : Bool} (h : W.heap[g]? = some (.cells #[.string f0, .int .i64 f1, .bool f2] 52 (0, 0))) : W.cell? ⟨g, 0, none⟩ = some (.string f0) := (blk_cell h 0).trans rfl
theorem IsS52.set_0 {w0 W : World} {g : Nat} {f0 : ByteArray} {f1 : Int} {f2 : Bool} (h : IsS52 w0 W g f0 f1 f2) (x : ByteArray) : IsS52 w0 (W.setCell ⟨g, 0, none⟩ (.string x)) g x f1 f2 := by
 obtain ⟨hb, hg⟩ := h; exact ⟨by simpa using blk_set hb 0 (.string x), hg⟩
theorem cellS52_1 {W : World} {g : Nat} {f0 : ByteArray} {f1 : Int} {f2 : Bool} (h : W.heap[g]? = some (.cells #[.string f0, .int .i64 f1, .bool f2] 52 (0, 0))) : W.cell? ⟨g, 1, none⟩ = some (.int .i64 f1) := (blk_cell h 1).trans rfl
theorem IsS52.set_1 {w0 W : World} {g : Nat} {f0 : ByteArray} {f1 : Int} {f2 : Bool} (h : IsS52 w0 W g f0 f1 f2) (x : Int) : IsS52 w0 (W.setCell ⟨g, 1, none⟩ (.int .i64 x)) g f0 x f2 := by
 obtain ⟨hb, hg⟩ := h; exact ⟨by simpa using blk_set hb 1 (.int .i64 x), hg⟩
theorem cellS52_2 {W : World} {g : Nat} {f0 : ByteArray} {f1 : Int} {f2 : Bool} (h : W.heap[g]? = some (.cells #[.string f0, .int .i64 f1, .bool f2] 52 (0, 0))) : W.cell? ⟨g, 2, none⟩ = some (.bool f2) := (blk_cell h 2).trans rfl
theorem IsS52.set_2 {w0 W : World} {g : Nat} {f0 : ByteArray} {f1 : Int} {f2 : Bool} (h : IsS52 w0 W g f0 f1 f2) (x : Bool) : IsS52 w0 (W.setCell ⟨g, 2, none⟩ (.bool x)) g f0 f1 x := by
 obtain ⟨hb, hg⟩ := h; exact ⟨by simpa using blk_set hb 2 (.bool x), hg⟩
theorem IsS52.new (w0 W : World) (f0 : ByteArray) (f1 : Int) (f2 : Bool) (hB : Below w0.heap.size w0 W) : IsS52 w0 (W.alloc (.cells #[.string f0, .int .i64 f1, .bool f2] 52)) W.heap.size f0 f1 f2 := ⟨by simpa using heap_alloc_new W _, hB.size⟩

def bitmap_reader_num.f (k : Nat) (s0_0 : ByteArray) (s0_1 : Int) (s0_2 : Bool) (a1 : Int) : Option (Int × ByteArray × Int × Bool) := (octet_Take.f k s0_0 s0_1).bind fun bt111 => (if s0_2 = true then (some (0, s0_0, s0_1, true)) else (if bt111.2.2 = 0 then (if bt111.1 > (IntKind.u64.wrap (a1)) then (some (0, s0_0, s0_1, true)) else (some (wrap64 (bt111.1), s0_0, bt111.2.1, s0_2))) else (some (0, s0_0, s0_1, true))))
set_option maxHeartbeats 8000000 in
set_option maxRecDepth 100000 in
theorem bitmap_reader_num.calls (k : Nat) (g : Nat) (s0_0 : ByteArray) (s0_1 : Int) (s0_2 : Bool) (a1 : Int) (r1 : Int) (r2 : ByteArray) (r3 : Int) (r4 : Bool) (w0 w : World) (hI : IsS52 w0 w g s0_0 s0_1 s0_2) (hB : Below w0.heap.size w0 w) (h : bitmap_reader_num.f k s0_0 s0_1 s0_2 a1 = some (r1, r2, r3, r4)) :
  Calls Try.prog 49 #[.pointer (some ⟨g, 0, none⟩), .int .i64 a1] w fun e w' => e = .returned (.int .i64 r1) ∧ IsS52 w0 w' g r2 r3 r4 ∧ Below w0.heap.size w0 w' ∧ KeepBut w w' g none := by
 have HI0 := Aside0.mk hI; have HK := Aside0.mk (KeepBut.refl w g none); have HL := Aside0.mk hB.size; clear hI; have HW0 := Aside0.mk hB.size; have HB := Aside0.mk hB; clear hB; unfold bitmap_reader_num.f at h; have H := h; clear h; obtain ⟨⟨t111, t112, t113⟩, A3, H⟩ := bx_ H; dsimp only at H; by_cases c4 : s0_2 = true
 ·subst c4; rw [if_pos rfl] at H; obtain ⟨rfl, rfl, rfl, rfl⟩ := pj4_ H; obtain ⟨HGz5, hgz5⟩ := HI0.out; have Z5_0 := cellS52_0 HGz5; have Z5_1 := cellS52_1 HGz5; have Z5_2 := cellS52_2 HGz5; have F5_0 := blk_frozen HGz5 0; have F5_1 := blk_frozen HGz5 1; have F5_2 := blk_frozen HGz5 2; clear HGz5 hgz5; go_enter Try.func49, Try.ntmps49; go_wp2_with (first | (go_at_call 63; (with_reducible refine (octet_Take.calls k s0_0 s0_1 t111 t112 t113 _ A3.out).mono ?_); rintro e w' ⟨rfl, ⟨nd, rfl⟩⟩; (try first | exact ⟨rfl, _, World.drewN_drewN _ _ _⟩ | exact ⟨rfl, _, Eq.trans (World.drewN_drewN _ _ _) (congrArg (World.drewN _) (Nat.add_assoc _ _ _))⟩)))
  repeat (go_quiet (first | (go_at_call 63; (with_reducible refine (octet_Take.calls k s0_0 s0_1 t111 t112 t113 _ A3.out).mono ?_); rintro e w' ⟨rfl, ⟨nd, rfl⟩⟩; (try first | exact ⟨rfl, _, World.drewN_drewN _ _ _⟩ | exact ⟨rfl, _, Eq.trans (World.drewN_drewN _ _ _) (congrArg (World.drewN _) (Nat.add_assoc _ _ _))⟩))); try go_wp2_with (first | (go_at_call 63; (with_reducible refine (octet_Take.calls k s0_0 s0_1 t111 t112 t113 _ A3.out).mono ?_); rintro e w' ⟨rfl, ⟨nd, rfl⟩⟩; (try first | exact ⟨rfl, _, World.drewN_drewN _ _ _⟩ | exact ⟨rfl, _, Eq.trans (World.drewN_drewN _ _ _) (congrArg (World.drewN _) (Nat.add_assoc _ _ _))⟩))))
  go_ret
  exact ⟨z2_, z24_, z25_, z13_⟩
 replace c4 := Bool.eq_false_iff.mpr c4; subst c4; rw [if_neg nft_] at H; by_cases c6 : t113 = 0; rotate_left
 ·rw [if_neg c6] at H; have c6b0 := ef_ c6; have c6b1 := nt_ c6; obtain ⟨rfl, rfl, rfl, rfl⟩ := pj4_ H; obtain ⟨HGz10, hgz10⟩ := HI0.out; have Z10_0 := cellS52_0 HGz10; have Z10_1 := cellS52_1 HGz10; have Z10_2 := cellS52_2 HGz10; have F10_0 := blk_frozen HGz10 0; have F10_1 := blk_frozen HGz10 1; have F10_2 := blk_frozen HGz10 2; clear HGz10 hgz10; go_enter Try.func49, Try.ntmps49; go_wp2_with (first | (go_at_call 63; (with_reducible refine (octet_Take.calls k s0_0 s0_1 t111 t112 t113 _ A3.out).mono ?_); rintro e w' ⟨rfl, ⟨nd, rfl⟩⟩; (try first | exact ⟨rfl, _, World.drewN_drewN _ _ _⟩ | exact ⟨rfl, _, Eq.trans (World.drewN_drewN _ _ _) (congrArg (World.drewN _) (Nat.add_assoc _ _ _))⟩)))
  repeat (go_quiet (first | (go_at_call 63; (with_reducible refine (octet_Take.calls k s0_0 s0_1 t111 t112 t113 _ A3.out).mono ?_); rintro e w' ⟨rfl, ⟨nd, rfl⟩⟩; (try first | exact ⟨rfl, _, World.drewN_drewN _ _ _⟩ | exact ⟨rfl, _, Eq.trans (World.drewN_drewN _ _ _) (congrArg (World.drewN _) (Nat.add_assoc _ _ _))⟩))); try go_wp2_with (first | (go_at_call 63; (with_reducible refine (octet_Take.calls k s0_0 s0_1 t111 t112 t113 _ A3.out).mono ?_); rintro e w' ⟨rfl, ⟨nd, rfl⟩⟩; (try first | exact ⟨rfl, _, World.drewN_drewN _ _ _⟩ | exact ⟨rfl, _, Eq.trans (World.drewN_drewN _ _ _) (congrArg (World.drewN _) (Nat.add_assoc _ _ _))⟩))))
  go_ret
  exact ⟨z2_, z24_, z25_, z13_⟩
 rw [if_pos c6] at H; have c6b0 := et_ c6; have c6b1 := nf_ c6; clear c6; by_cases c7 : t111 > (IntKind.u64.wrap (a1))
 ·rw [if_pos c7] at H; have c7b0 := dt_ c7; clear c7; obtain ⟨rfl, rfl, rfl, rfl⟩ := pj4_ H; obtain ⟨HGz8, hgz8⟩ := HI0.out; have Z8_0 := cellS52_0 HGz8; have Z8_1 := cellS52_1 HGz8; have Z8_2 := cellS52_2 HGz8; have F8_0 := blk_frozen HGz8 0; have F8_1 := blk_frozen HGz8 1; have F8_2 := blk_frozen HGz8 2; clear HGz8 hgz8; go_enter Try.func49, Try.ntmps49; go_wp2_with (first | (go_at_call 63; (with_reducible refine (octet_Take.calls k s0_0 s0_1 t111 t112 t113 _ A3.out).mono ?_); rintro e w' ⟨rfl, ⟨nd, rfl⟩⟩; (try first | exact ⟨rfl, _, World.drewN_drewN _ _ _⟩ | exact ⟨rfl, _, Eq.trans (World.drewN_drewN _ _ _) (congrArg (World.drewN _) (Nat.add_assoc _ _ _))⟩)))
  repeat (go_quiet (first | (go_at_call 63; (with_reducible refine (octet_Take.calls k s0_0 s0_1 t111 t112 t113 _ A3.out).mono ?_); rintro e w' ⟨rfl, ⟨nd, rfl⟩⟩; (try first | exact ⟨rfl, _, World.drewN_drewN _ _ _⟩ | exact ⟨rfl, _, Eq.trans (World.drewN_drewN _ _ _) (congrArg (World.drewN _) (Nat.add_assoc _ _ _))⟩))); try go_wp2_with (first | (go_at_call 63; (with_reducible refine (octet_Take.calls k s0_0 s0_1 t111 t112 t113 _ A3.out).mono ?_); rintro e w' ⟨rfl, ⟨nd, rfl⟩⟩; (try first | exact ⟨rfl, _, World.drewN_drewN _ _ _⟩ | exact ⟨rfl, _, Eq.trans (World.drewN_drewN _ _ _) (congrArg (World.drewN _) (Nat.add_assoc _ _ _))⟩))))
  go_ret
  exact ⟨z2_, z24_, z25_, z13_⟩
 rw [if_neg c7] at H; have c7b0 := df_ c7; clear c7; obtain ⟨rfl, rfl, rfl, rfl⟩ := pj4_ H; obtain ⟨HGz9, hgz9⟩ := HI0.out; have Z9_0 := cellS52_0 HGz9; have Z9_1 := cellS52_1 HGz9; have Z9_2 := cellS52_2 HGz9; have F9_0 := blk_frozen HGz9 0; have F9_1 := blk_frozen HGz9 1; have F9_2 := blk_frozen HGz9 2; clear HGz9 hgz9; go_enter Try.func49, Try.ntmps49; go_wp2_with (first | (go_at_call 63; (with_reducible refine (octet_Take.calls k s0_0 s0_1 t111 t112 t113 _ A3.out).mono ?_); rintro e w' ⟨rfl, ⟨nd, rfl⟩⟩; (try first | exact ⟨rfl, _, World.drewN_drewN _ _ _⟩ | exact ⟨rfl, _, Eq.trans (World.drewN_drewN _ _ _) (congrArg (World.drewN _) (Nat.add_assoc _ _ _))⟩)))
 repeat (go_quiet (first | (go_at_call 63; (with_reducible refine (octet_Take.calls k s0_0 s0_1 t111 t112 t113 _ A3.out).mono ?_); rintro e w' ⟨rfl, ⟨nd, rfl⟩⟩; (try first | exact ⟨rfl, _, World.drewN_drewN _ _ _⟩ | exact ⟨rfl, _, Eq.trans (World.drewN_drewN _ _ _) (congrArg (World.drewN _) (Nat.add_assoc _ _ _))⟩))); try go_wp2_with (first | (go_at_call 63; (with_reducible refine (octet_Take.calls k s0_0 s0_1 t111 t112 t113 _ A3.out).mono ?_); rintro e w' ⟨rfl, ⟨nd, rfl⟩⟩; (try first | exact ⟨rfl, _, World.drewN_drewN _ _ _⟩ | exact ⟨rfl, _, Eq.trans (World.drewN_drewN _ _ _) (congrArg (World.drewN _) (Nat.add_assoc _ _ _))⟩))))
 go_ret
 exact ⟨z2_, z24_, z25_, z13_⟩

end Go.Proofs.Ytibnkopdkfjgpaa.Q


/- Query of bitmaps, first part: sums, numbers and hexadecimal digits of both programs. -/
namespace Go.Proofs.Ytibnkopdkfjgpaa.Q
open Go.RowKit Go.Proofs.YtibnkopdkfjgpaaW.PrintWords Go.Proofs.YtibnkopdkfjgpaaW.PrintLast Go.Proofs.YtibnkopdkfjgpaaW.PrintMore
theorem u32_wrap (x : Int) : IntKind.u32.wrap x = x % 4294967296 := by rw [IntKind.wrap]; simp [IntKind.signed, IntKind.bits]
theorem u64_wrap (x : Int) : IntKind.u64.wrap x = x % 18446744073709551616 := by rw [IntKind.wrap]; simp [IntKind.signed, IntKind.bits]
theorem xor_u32 (a b : Int) : 0 ≤ Go.bits .xor .u32 a b ∧ Go.bits .xor .u32 a b < 4294967296 := by
  unfold Go.bits
  rw [u32_wrap]; omega
theorem xor_comm32 (a b : Int) : Go.bits .xor .u32 a b = Go.bits .xor .u32 b a := by
  unfold Go.bits
  simp only
  rw [BitVec.xor_comm]
theorem and1_u32 {x : Int} (h0 : 0 ≤ x) (h1 : x < 4294967296) : Go.bits .and .u32 x 1 = x % 2 := by
  obtain ⟨n, rfl⟩ := Int.eq_ofNat_of_zero_le h0
  unfold Go.bits
  simp only
  rw [u32_wrap, BitVec.toNat_and, BitVec.toNat_ofInt, BitVec.toNat_ofInt]
  have e1 : ((n : Int) % ((2 ^ IntKind.u32.bits : Nat) : Int)).toNat = n := by
    show ((n : Int) % 4294967296).toNat = n
    omega
  have e2 : ((1 : Int) % ((2 ^ IntKind.u32.bits : Nat) : Int)).toNat = 1 := rfl
  rw [e1, e2, Nat.and_one_is_mod]
  omega
def sx (c : Int) : Int := if c % 2 = 1 then Go.bits .xor .u32 (c / 2) 3988292384 else c / 2
def sxn : Nat → Int → Int
  | 0, c => c
  | n + 1, c => sxn n (sx c)
theorem sx_ok {c : Int} (h0 : 0 ≤ c) (h1 : c < 4294967296) : 0 ≤ sx c ∧ sx c < 4294967296 := by
  unfold sx
  split
  · exact xor_u32 _ _
  · omega
theorem sxn_ok : ∀ (n : Nat) {c : Int}, 0 ≤ c → c < 4294967296 → 0 ≤ sxn n c ∧ sxn n c < 4294967296
  | 0, c, h0, h1 => ⟨h0, h1⟩
  | n + 1, c, h0, h1 => by have := sx_ok h0 h1; exact sxn_ok n this.1 this.2
def sumC (s : ByteArray) : Nat → Nat → Int → Int
  | 0, _, c => c
  | d + 1, i, c => sumC s d (i + 1) (sxn 8 (Go.bits .xor .u32 c (bt s (i : Nat) % 4294967296)))
def sumB (s : ByteArray) : Int := Go.bits .xor .u32 4294967295 (sumC s s.size 0 4294967295)
theorem Sum_l1 (s : ByteArray) (L : Int) (i : Nat) {r : Int} : ∀ (n j : Nat) (c : Int), j + n = 8 → 0 ≤ c → c < 4294967296 → Ev (fun k => octet_Sum.l0 k s (sxn n c) L (wrap64 ((i : Int) + 1))) r → Ev (fun k => octet_Sum.l1 k s c L i j) r := by
  intro n
  induction n with
  | zero =>
    intro j c hj h0 h1 h
    exact Ev.step (f := ?_) (fun k => by rw [octet_Sum.l1, if_neg (by omega)]) h
  | succ n ih =>
    intro j c hj h0 h1 h
    have ok := sx_ok h0 h1
    have e : wrap64 ((j : Int) + 1) = ((j + 1 : Nat) : Int) := by rw [wrap_id (by omega) (by omega)]; omega
    by_cases g : c % 2 = 1
    · have eg : sx c = Go.bits .xor .u32 (c / 2) 3988292384 := if_pos g
      refine Ev.step (f := ?_) (fun k => by rw [octet_Sum.l1, if_pos (by omega), and1_u32 h0 h1, if_pos g, e, ← eg]) ?_
      exact ih (j + 1) (sx c) (by omega) ok.1 ok.2 h
    · have eg : sx c = c / 2 := if_neg g
      refine Ev.step (f := ?_) (fun k => by rw [octet_Sum.l1, if_pos (by omega), and1_u32 h0 h1, if_neg g, e, ← eg]) ?_
      exact ih (j + 1) (sx c) (by omega) ok.1 ok.2 h
theorem Sum_l0 (s : ByteArray) (hs : s.size ≤ 4294967296) : ∀ (d i : Nat) (c : Int), i + d = s.size → 0 ≤ c → c < 4294967296 → Ev (fun k => octet_Sum.l0 k s c s.size i) (Go.bits .xor .u32 4294967295 (sumC s d i c)) := by
  intro d
  induction d with
  | zero =>
    intro i c hi h0 h1
    exact Ev.step (f := ?_) (fun k => by rw [octet_Sum.l0, if_neg (by omega)]) (Ev.now _)
  | succ d ih =>
    intro i c hi h0 h1
    have hx := xor_u32 c (bt s (i : Nat) % 4294967296)
    have ok := sxn_ok 8 hx.1 hx.2
    refine Ev.step (f := ?_) (fun k => by rw [octet_Sum.l0, if_pos (by omega), if_pos (by omega), if_pos (by omega)]) ?_
    refine Sum_l1 s s.size i 8 0 _ rfl hx.1 hx.2 ?_
    rw [wrap_id (by omega) (by omega), show (i : Int) + 1 = ((i + 1 : Nat) : Int) by omega]
    exact ih (i + 1) _ (by omega) ok.1 ok.2
theorem Sum_ev (s : ByteArray) (hs : s.size ≤ 4294967296) : Ev (fun k => octet_Sum.f k s) (sumB s) := by
  have := Sum_l0 s hs s.size 0 4294967295 (by omega) (by omega) (by omega)
  exact this
theorem refSum_l1 (s : ByteArray) (i : Nat) {r : Int} : ∀ (n j : Nat) (c : Int), j + n = 8 → 0 ≤ c → c < 4294967296 → Ev (fun k => graftageref01_Sum.l0 k s (sxn n c) (wrap64 ((i : Int) + 1))) r → Ev (fun k => graftageref01_Sum.l1 k s c i j) r := by
  intro n
  induction n with
  | zero =>
    intro j c hj h0 h1 h
    exact Ev.step (f := ?_) (fun k => by rw [graftageref01_Sum.l1, if_neg (by omega)]) h
  | succ n ih =>
    intro j c hj h0 h1 h
    have ok := sx_ok h0 h1
    have e : wrap64 ((j : Int) + 1) = ((j + 1 : Nat) : Int) := by rw [wrap_id (by omega) (by omega)]; omega
    have e2 : Int.tmod c 2 = c % 2 := Int.tmod_eq_emod_of_nonneg h0
    have e3 : Int.tdiv c 2 % 4294967296 = c / 2 := by rw [Int.tdiv_eq_ediv_of_nonneg h0]; omega
    by_cases g : c % 2 = 1
    · have eg : sx c = Go.bits .xor .u32 (c / 2) 3988292384 := if_pos g
      refine Ev.step (f := ?_) (fun k => by rw [graftageref01_Sum.l1, if_pos (by omega), e2, if_pos g, e, e3, ← eg]) ?_
      exact ih (j + 1) (sx c) (by omega) ok.1 ok.2 h
    · have eg : sx c = c / 2 := if_neg g
      refine Ev.step (f := ?_) (fun k => by rw [graftageref01_Sum.l1, if_pos (by omega), e2, if_neg g, e, e3, ← eg]) ?_
      exact ih (j + 1) (sx c) (by omega) ok.1 ok.2 h
theorem refSum_l0 (s : ByteArray) (hs : s.size ≤ 4294967296) : ∀ (d i : Nat) (c : Int), i + d = s.size → 0 ≤ c → c < 4294967296 → Ev (fun k => graftageref01_Sum.l0 k s c i) (Go.bits .xor .u32 4294967295 (sumC s d i c)) := by
  intro d
  induction d with
  | zero =>
    intro i c hi h0 h1
    exact Ev.step (f := ?_) (fun k => by rw [graftageref01_Sum.l0, if_neg (by omega)]) (ev_eq (Ev.now _) (xor_comm32 _ _))
  | succ d ih =>
    intro i c hi h0 h1
    have hx := xor_u32 c (bt s (i : Nat) % 4294967296)
    have ok := sxn_ok 8 hx.1 hx.2
    refine Ev.step (f := ?_) (fun k => by rw [graftageref01_Sum.l0, if_pos (by omega), if_pos (by omega)]) ?_
    refine refSum_l1 s i 8 0 _ rfl hx.1 hx.2 ?_
    rw [wrap_id (by omega) (by omega), show (i : Int) + 1 = ((i + 1 : Nat) : Int) by omega]
    exact ih (i + 1) _ (by omega) ok.1 ok.2
theorem refSum_ev (s : ByteArray) (hs : s.size ≤ 4294967296) : Ev (fun k => graftageref01_Sum.f k s) (sumB s) := by
  have := refSum_l0 s hs s.size 0 4294967295 (by omega) (by omega) (by omega)
  exact this
def wordL (c : Int) : List Int := [c / 16777216 % 256, c / 65536 % 256, c / 256 % 256, c % 256]
def sealB (s : ByteArray) : ByteArray := s ++ strOfNums (wordL (sumB s))
theorem word_size (s : ByteArray) (c : Int) (hs : s.size ≤ 4294967296) : s.size + (strOfNums (wordL c)).size ≤ 9223372036854775807 := by
  rw [strOfNums_size]; simp [wordL]; omega
theorem Seal_ev (s : ByteArray) (hs : s.size ≤ 4294967296) : Ev (fun k => octet_Seal.f k s) (sealB s) := by
  refine Ev.bind (Sum_ev s hs) ?_
  have e : octet_Word.f s (sumB s) = some (sealB s) := by
    unfold octet_Word.f
    rw [Option.bind_some]
    exact if_pos (word_size s _ hs)
  simp only [e, Option.bind_some]
  exact Ev.now _
theorem refSeal_ev (s : ByteArray) (hs : s.size ≤ 4294967296) : Ev (fun k => graftageref01_Seal.f k s) (sealB s) := by
  refine Ev.bind (refSum_ev s hs) ?_
  have e : graftageref01_Word.f s (sumB s) = some (sealB s) := by
    unfold graftageref01_Word.f
    rw [Option.bind_some]
    exact if_pos (word_size s _ hs)
  simp only [e, Option.bind_some]
  exact Ev.now _
def openB (s : ByteArray) : ByteArray × Bool :=
  if s.size < 4 then (⟨#[]⟩, false) else if (sealB (s.extract 0 (s.size - 4))).toList = s.toList then (s.extract 0 (s.size - 4), true) else (⟨#[]⟩, false)
theorem Open_ev (s : ByteArray) (hs : s.size ≤ 4294967296) : Ev (fun k => octet_Open.f k s) (openB s) := by
  unfold octet_Open.f openB
  by_cases h : s.size < 4
  · rw [if_pos h]
    exact ev_yes (by omega) (Ev.now _)
  · rw [if_neg h]
    have e : (wrap64 ((s.size : Int) - 4)).toNat = s.size - 4 := by rw [wrap_id (by omega) (by omega)]; omega
    rw [e]
    refine ev_no (by omega) (ev_yes (by rw [wrap_id (by omega) (by omega)]; omega) (ev_yes (by rw [wrap_id (by omega) (by omega)]; omega) ?_))
    refine Ev.bind (Seal_ev _ (by rw [ByteArray.size_extract]; omega)) ?_
    refine ev_ite (fun g => ?_) (fun g => ?_)
    · rw [if_pos g]; exact Ev.now _
    · rw [if_neg g]; exact Ev.now _
theorem refOpen_ev (s : ByteArray) (hs : s.size ≤ 4294967296) : Ev (fun k => graftageref01_Open.f k s) (openB s) := by
  unfold graftageref01_Open.f openB
  by_cases h : s.size < 4
  · rw [if_pos h]
    exact ev_yes (by omega) (Ev.now _)
  · rw [if_neg h]
    have e : (wrap64 ((s.size : Int) - 4)).toNat = s.size - 4 := by rw [wrap_id (by omega) (by omega)]; omega
    rw [e]
    refine ev_no (by omega) (ev_yes (by rw [wrap_id (by omega) (by omega)]; omega) (ev_yes (by rw [wrap_id (by omega) (by omega)]; omega) ?_))
    refine Ev.bind (refSeal_ev _ (by rw [ByteArray.size_extract]; omega)) ?_
    refine ev_ite (fun g => ?_) (fun g => ?_)
    · rw [if_pos g]; exact Ev.now _
    · rw [if_neg g]; exact Ev.now _
theorem openB_size (s : ByteArray) : (openB s).1.size ≤ s.size := by
  unfold openB
  split
  · exact Nat.zero_le _
  · split
    · rw [ByteArray.size_extract]; omega
    · exact Nat.zero_le _
end Go.Proofs.Ytibnkopdkfjgpaa.Q


/- Query of bitmaps, second part: numbers and digits over the bytes that are left. -/
namespace Go.Proofs.Ytibnkopdkfjgpaa.Q
open Go.RowKit Go.Proofs.YtibnkopdkfjgpaaW.PrintWords Go.Proofs.YtibnkopdkfjgpaaW.PrintLast Go.Proofs.YtibnkopdkfjgpaaW.PrintMore
def lf (s : ByteArray) (a : Nat) : List Int := (bytesOf s).drop a
theorem bytesOf_get (s : ByteArray) (a : Nat) (h : a < s.size) : (bytesOf s)[a]? = some (bt s (a : Nat)) := by
  unfold bytesOf
  rw [List.getElem?_map, List.getElem?_eq_getElem (by rw [data_length]; exact h), Option.map_some]
  congr 1
  rw [← bt_at s (a : Nat) (by simpa using h)]
  simp [ByteArray.getElem_eq_getElem_data]
theorem lf_cons {s : ByteArray} {a : Nat} (h : a < s.size) : lf s a = bt s (a : Nat) :: lf s (a + 1) := by
  unfold lf
  have h2 : a < (bytesOf s).length := by rw [bytesOf_length]; exact h
  rw [List.drop_eq_getElem_cons h2]
  congr 1
  have := bytesOf_get s a h
  rw [List.getElem?_eq_getElem h2] at this
  exact Option.some.inj this
theorem lf_nil {s : ByteArray} {a : Nat} (h : s.size ≤ a) : lf s a = [] := by
  unfold lf; exact List.drop_eq_nil_of_le (by rw [bytesOf_length]; exact h)
theorem lf_length (s : ByteArray) (a : Nat) : (lf s a).length = s.size - a := by unfold lf; rw [List.length_drop, bytesOf_length]
theorem lf_drop (s : ByteArray) (a n : Nat) : (lf s a).drop n = lf s (a + n) := by unfold lf; rw [List.drop_drop]
theorem lf_extract (s : ByteArray) (a b : Nat) : bytesOf (s.extract a b) = (lf s a).take (b - a) := by
  unfold lf bytesOf
  rw [ByteArray.data_extract, Array.toList_extract, List.extract_eq_take_drop, List.map_take, List.map_drop]
theorem bt_fin (s : ByteArray) (i : Int) : ∃ n : Fin 256, bt s i = (n.val : Int) := by
  obtain ⟨h0, h1⟩ := bt_range s i
  exact ⟨⟨(bt s i).toNat, by omega⟩, by simp; omega⟩
theorem andNot_table : ∀ n : Fin 256, Go.bits .andNot .u8 (n.val : Int) 128 = (n.val : Int) % 128 := by decide +kernel
theorem andNot_bt (s : ByteArray) (i : Int) : Go.bits .andNot .u8 (bt s i) 128 = bt s i % 128 := by
  obtain ⟨n, hn⟩ := bt_fin s i
  rw [hn]; exact andNot_table n
theorem or_add64 {x v : Int} {m : Nat} (h0 : 0 ≤ x) (h1 : x < 2 ^ m) (h2 : 0 ≤ v) (h3 : x + v * 2 ^ m < 18446744073709551616) : Go.bits .or .u64 x (v * 2 ^ m) = x + v * 2 ^ m := by
  obtain ⟨X, rfl⟩ := Int.eq_ofNat_of_zero_le h0
  obtain ⟨V, rfl⟩ := Int.eq_ofNat_of_zero_le h2
  have e : (V : Int) * 2 ^ m = ((V * 2 ^ m : Nat) : Int) := by push_cast; rfl
  rw [e] at h3 ⊢
  have h1' : X < 2 ^ m := by exact_mod_cast h1
  obtain ⟨Y, hY⟩ : ∃ Y, V * 2 ^ m = Y := ⟨_, rfl⟩
  rw [hY] at h3 ⊢
  have h3' : X + Y < 18446744073709551616 := by omega
  unfold Go.bits
  simp only
  rw [u64_wrap, BitVec.toNat_or, BitVec.toNat_ofInt, BitVec.toNat_ofInt]
  have e1 : ((X : Int) % ((2 ^ IntKind.u64.bits : Nat) : Int)).toNat = X := by
    show ((X : Int) % 18446744073709551616).toNat = X
    omega
  have e2 : ((Y : Int) % ((2 ^ IntKind.u64.bits : Nat) : Int)).toNat = Y := by
    show ((Y : Int) % 18446744073709551616).toNat = Y
    omega
  have e3 : X ||| Y = X + Y := by
    rw [← hY, Nat.or_comm, Nat.mul_comm V, ← Nat.two_pow_add_eq_or_of_lt h1', Nat.add_comm]
  rw [e1, e2, e3]
  omega
theorem p128 : ∀ i : Nat, i ≤ 9 → ∃ m : Nat, m = 7 * i ∧ (2 : Int) ^ m = 128 ^ i ∧ (128 : Int) ^ i ≤ 9223372036854775808 ∧ (i ≤ 8 → (128 : Int) ^ i ≤ 72057594037927936) := by
  intro i hi
  refine ⟨7 * i, rfl, ?_, ?_, ?_⟩
  · rw [Int.pow_mul]; rfl
  · have : (128 : Int) ^ i ≤ 128 ^ 9 := by
      have := Nat.pow_le_pow_right (n := 128) (by omega) hi
      exact_mod_cast this
    have e : (128 : Int) ^ 9 = 9223372036854775808 := by decide
    omega
  · intro h8
    have : (128 : Int) ^ i ≤ 128 ^ 8 := by
      have := Nat.pow_le_pow_right (n := 128) (by omega) h8
      exact_mod_cast this
    have e : (128 : Int) ^ 8 = 72057594037927936 := by decide
    omega
theorem step_num {x c : Int} {i : Nat} (hi : i ≤ 9) (h0 : 0 ≤ x) (h1 : x < 128 ^ i) (h2 : 0 ≤ c) (h3 : c ≤ 255) (h9 : i = 9 → c ≤ 1) :
    wrap64 (7 * (i : Int)) = 7 * i ∧ shl .u64 (IntKind.u64.wrap (c % 128)) (7 * (i : Int)) = c % 128 * 128 ^ i ∧ x + c % 128 * 128 ^ i < 18446744073709551616 ∧ x + c % 128 * 128 ^ i < 128 ^ (i + 1) ∧ 0 ≤ x + c % 128 * 128 ^ i ∧ Go.bits .or .u64 x (c % 128 * 128 ^ i) = x + c % 128 * 128 ^ i := by
  obtain ⟨m, hm, hp, hb, hb8⟩ := p128 i hi
  have hpos : (0 : Int) < 128 ^ i := Int.pow_pos (by omega)
  have hv0 : 0 ≤ c % 128 := by omega
  have hv1 : c % 128 ≤ 127 := by omega
  have hlt : c % 128 * 128 ^ i ≤ 127 * 128 ^ i := Int.mul_le_mul_of_nonneg_right hv1 (Int.le_of_lt hpos)
  have hnn : 0 ≤ c % 128 * 128 ^ i := Int.mul_nonneg hv0 (Int.le_of_lt hpos)
  have hsz : x + c % 128 * 128 ^ i < 18446744073709551616 := by
    by_cases h : i ≤ 8
    · have := hb8 h
      omega
    · have h9' : i = 9 := by omega
      have hc1 := h9 h9'
      have : c % 128 * 128 ^ i ≤ 1 * 128 ^ i := Int.mul_le_mul_of_nonneg_right (by omega) (Int.le_of_lt hpos)
      omega
  have hsucc : (128 : Int) ^ (i + 1) = 128 ^ i * 128 := Int.pow_succ _ _
  refine ⟨wrap_id (by omega) (by omega), ?_, hsz, by omega, by omega, ?_⟩
  · unfold shl
    have e0 : (7 * (i : Int)).toNat = m := by omega
    have e1 : min m IntKind.u64.bits = m := by
      show min m 64 = m
      omega
    rw [u64_wrap, e0, e1, hp, u64_wrap]
    rw [show c % 128 % 18446744073709551616 = c % 128 by omega]
    omega
  · rw [← hp]
    exact or_add64 h0 (by rw [hp]; exact h1) hv0 (by rw [hp]; exact hsz)
/-- what stands at the beginning: the number, how many bytes it has, 0; or 0, 0 and the error. -/
def tkL : Nat → Nat → Int → List Int → Int × Nat × Int
  | 0, _, _, _ => (0, 0, 2)
  | d + 1, i, x, [] => (0, 0, 3)
  | d + 1, i, x, c :: t => if (i = 9 ∧ 1 < c) ∨ (0 < i ∧ c = 0) then (0, 0, 2) else if c < 128 then (x + c % 128 * 128 ^ i, i + 1, 0) else tkL d (i + 1) (x + c % 128 * 128 ^ i) t
theorem tkL_range : ∀ (d i : Nat) (x : Int) (l : List Int), i + d = 10 → 0 ≤ x → x < 128 ^ i → (∀ c ∈ l, 0 ≤ c ∧ c ≤ 255) → 0 ≤ (tkL d i x l).1 ∧ (tkL d i x l).1 < 18446744073709551616 ∧ (tkL d i x l).2.1 ≤ i + l.length ∧ ((tkL d i x l).2.2 = 0 → i + 1 ≤ (tkL d i x l).2.1)
  | 0, i, x, l, _, _, _, _ => ⟨by simp [tkL], by simp [tkL], by simp [tkL], by simp [tkL]⟩
  | d + 1, i, x, [], _, _, _, _ => ⟨by simp [tkL], by simp [tkL], by simp [tkL], by simp [tkL]⟩
  | d + 1, i, x, c :: t, hi, h0, h1, hl => by
    have hc := hl c (by simp)
    rw [tkL]
    split
    · simp
    · rename_i hg
      have st := step_num (i := i) (by omega) h0 h1 hc.1 hc.2 (fun h => by omega)
      split
      · refine ⟨st.2.2.2.2.1, st.2.2.1, ?_, fun _ => Nat.le_refl _⟩
        simp
      · have := tkL_range d (i + 1) _ t (by omega) st.2.2.2.2.1 st.2.2.2.1 (fun c hc => hl c (by simp [hc]))
        refine ⟨this.1, this.2.1, ?_, fun h => by have := this.2.2.2 h; omega⟩
        have := this.2.2.1
        simp only [List.length_cons]
        omega
theorem lf_range (s : ByteArray) (a : Nat) : ∀ c ∈ lf s a, 0 ≤ c ∧ c ≤ 255 := by
  intro c hc
  have := List.mem_of_mem_drop hc
  unfold bytesOf at this
  obtain ⟨b, _, rfl⟩ := List.mem_map.1 this
  have := b.toNat_lt
  omega
/-- the printed answer of it -/
def tkR (a : Nat) (p : Int × Nat × Int) : Int × Int × Int := if p.2.2 = 0 then (p.1, ((a + p.2.1 : Nat) : Int), 0) else (0, 0, p.2.2)
theorem Take_l0 (s : ByteArray) (hs : s.size ≤ 4294967296) (a : Nat) (ha : a ≤ s.size) : ∀ (d i : Nat) (x : Int), i + d = 10 → a + i ≤ s.size → 0 ≤ x → x < 128 ^ i → Ev (fun k => octet_Take.l0 k s a x i) (tkR a (tkL d i x (lf s (a + i)))) := by
  intro d
  induction d with
  | zero =>
    intro i x hi hai h0 h1
    exact Ev.step (f := ?_) (fun k => by rw [octet_Take.l0, if_neg (by omega)]) (Ev.now _)
  | succ d ih =>
    intro i x hi hai h0 h1
    have ew : wrap64 ((a : Int) + i) = ((a + i : Nat) : Int) := by rw [wrap_id (by omega) (by omega)]; omega
    have e1 : wrap64 ((i : Int) + 1) = ((i + 1 : Nat) : Int) := by rw [wrap_id (by omega) (by omega)]; omega
    have h7 : 0 ≤ 7 * (i : Int) := by omega
    by_cases he : a + i = s.size
    · rw [lf_nil (by omega)]
      exact Ev.step (f := ?_) (fun k => by rw [octet_Take.l0, if_pos (by omega), ew, if_pos (by omega)]) (Ev.now _)
    · have hlt : a + i < s.size := by omega
      have hi1 : i + 1 + d = 10 := by omega
      have hai1 : a + (i + 1) ≤ s.size := by omega
      rw [lf_cons hlt]
      have hc := bt_range s ((a + i : Nat) : Int)
      obtain ⟨c, hcc⟩ : ∃ c, bt s ((a + i : Nat) : Int) = c := ⟨_, rfl⟩
      have han := andNot_bt s ((a + i : Nat) : Int)
      rw [hcc] at hc han ⊢
      -- the second half
      have key : ∀ b : Bool, b = decide ((i = 9 ∧ 1 < c) ∨ (0 < i ∧ c = 0)) → Ev (fun k => octet_Take.j2 k s a x i c i b) (tkR a (tkL (d + 1) i x (c :: lf s (a + i + 1)))) := by
        intro b hb
        rw [tkL]
        by_cases hg : (i = 9 ∧ 1 < c) ∨ (0 < i ∧ c = 0)
        · rw [if_pos hg]
          rw [decide_eq_true hg] at hb
          subst hb
          exact Ev.step (f := ?_) (fun k => by rw [octet_Take.j2, if_pos rfl]) (Ev.now _)
        · rw [if_neg hg]
          rw [decide_eq_false hg] at hb
          subst hb
          have st := Aside0.mk (step_num (i := i) (by omega) h0 h1 hc.1 hc.2 (fun h => by omega))
          by_cases h128 : c < 128
          · rw [if_pos h128]
            refine Ev.step (f := ?_) (fun k => by rw [octet_Take.j2, if_neg (by decide), st.out.1, if_pos h7, if_pos h128, han, st.out.2.1, st.out.2.2.2.2.2, ew, wrap_id (x := ((a + i : Nat) : Int) + 1) (by omega) (by omega)]) (ev_eq (Ev.now _) ?_)
            unfold tkR
            rw [if_pos rfl]
            simp only [Prod.mk.injEq, true_and, and_true]
            omega
          · rw [if_neg h128]
            refine Ev.step (f := ?_) (fun k => by rw [octet_Take.j2, if_neg (by decide), st.out.1, if_pos h7, if_neg h128, han, st.out.2.1, st.out.2.2.2.2.2, e1]) ?_
            exact ih (i + 1) _ hi1 hai1 st.out.2.2.2.2.1 st.out.2.2.2.1
      by_cases h9 : (i : Int) = 9
      · by_cases hc1 : c > 1
        · refine Ev.step (f := ?_) (fun k => by rw [octet_Take.l0, if_pos (by omega), ew, if_neg (by omega), if_pos (by omega), if_pos (by omega), if_pos h9, hcc, if_pos hc1]) (key true ?_)
          exact (decide_eq_true (Or.inl ⟨by omega, hc1⟩)).symm
        · refine Ev.step (f := ?_) (fun k => by rw [octet_Take.l0, if_pos (by omega), ew, if_neg (by omega), if_pos (by omega), if_pos (by omega), if_pos h9, hcc, if_neg hc1, if_pos (by omega)]) (key (c == 0) ?_)
          rw [Bool.eq_iff_iff, beq_iff_eq, decide_eq_true_eq]
          omega
      · by_cases h00 : (i : Int) > 0
        · refine Ev.step (f := ?_) (fun k => by rw [octet_Take.l0, if_pos (by omega), ew, if_neg (by omega), if_pos (by omega), if_pos (by omega), if_neg h9, hcc, if_pos h00]) (key (c == 0) ?_)
          rw [Bool.eq_iff_iff, beq_iff_eq, decide_eq_true_eq]
          omega
        · refine Ev.step (f := ?_) (fun k => by rw [octet_Take.l0, if_pos (by omega), ew, if_neg (by omega), if_pos (by omega), if_pos (by omega), if_neg h9, hcc, if_neg h00]) (key false ?_)
          exact (decide_eq_false (by omega)).symm
theorem Take_ev (s : ByteArray) (hs : s.size ≤ 4294967296) (a : Nat) (ha : a ≤ s.size) : Ev (fun k => octet_Take.f k s a) (tkR a (tkL 10 0 0 (lf s a))) := by
  unfold octet_Take.f
  refine ev_no (by omega) ?_
  refine Ev.step (f := ?_) (fun k => by rw [octet_Take.j0, if_neg (by simp; omega)]) ?_
  exact Take_l0 s hs a ha 10 0 0 rfl (by omega) (by omega) (by decide)
theorem refTake_l0 (s : ByteArray) (hs : s.size ≤ 4294967296) (a : Nat) (ha : a ≤ s.size) : ∀ (d i : Nat) (x : Int), i + d = 10 → a + i ≤ s.size → 0 ≤ x → x < 128 ^ i → Ev (fun k => graftageref01_Take.l0 k s a x i) (tkR a (tkL d i x (lf s (a + i)))) := by
  intro d
  induction d with
  | zero =>
    intro i x hi hai h0 h1
    exact Ev.step (f := ?_) (fun k => by rw [graftageref01_Take.l0, if_neg (by omega)]) (Ev.now _)
  | succ d ih =>
    intro i x hi hai h0 h1
    have ew : wrap64 ((a : Int) + i) = ((a + i : Nat) : Int) := by rw [wrap_id (by omega) (by omega)]; omega
    have e1 : wrap64 ((i : Int) + 1) = ((i + 1 : Nat) : Int) := by rw [wrap_id (by omega) (by omega)]; omega
    have h7 : 0 ≤ 7 * (i : Int) := by omega
    by_cases he : a + i = s.size
    · rw [lf_nil (by omega)]
      exact Ev.step (f := ?_) (fun k => by rw [graftageref01_Take.l0, if_pos (by omega), ew, if_pos (by omega)]) (Ev.now _)
    · have hlt : a + i < s.size := by omega
      have hi1 : i + 1 + d = 10 := by omega
      have hai1 : a + (i + 1) ≤ s.size := by omega
      rw [lf_cons hlt]
      have hc := bt_range s ((a + i : Nat) : Int)
      obtain ⟨c, hcc⟩ : ∃ c, bt s ((a + i : Nat) : Int) = c := ⟨_, rfl⟩
      rw [hcc] at hc ⊢
      have key : ∀ b : Bool, b = decide ((i = 9 ∧ 1 < c) ∨ (0 < i ∧ c = 0)) → Ev (fun k => graftageref01_Take.j2 k s a x i c b) (tkR a (tkL (d + 1) i x (c :: lf s (a + i + 1)))) := by
        intro b hb
        rw [tkL]
        by_cases hg : (i = 9 ∧ 1 < c) ∨ (0 < i ∧ c = 0)
        · rw [if_pos hg]
          rw [decide_eq_true hg] at hb
          subst hb
          exact Ev.step (f := ?_) (fun k => by rw [graftageref01_Take.j2, if_pos rfl]) (Ev.now _)
        · rw [if_neg hg]
          rw [decide_eq_false hg] at hb
          subst hb
          have st := Aside0.mk (step_num (i := i) (by omega) h0 h1 hc.1 hc.2 (fun h => by omega))
          have em : Int.tmod c 128 = c % 128 := Int.tmod_eq_emod_of_nonneg hc.1
          have eu : IntKind.u64.wrap (x + c % 128 * 128 ^ i) = x + c % 128 * 128 ^ i := by
            have h5 := st.out.2.2.1
            have h6 := st.out.2.2.2.2.1
            rw [u64_wrap]
            exact Int.emod_eq_of_lt h6 h5
          by_cases h128 : c < 128
          · rw [if_pos h128]
            refine Ev.step (f := ?_) (fun k => by rw [graftageref01_Take.j2, if_neg (by decide), st.out.1, if_pos h7, if_pos h128, em, st.out.2.1, eu, ew, wrap_id (x := ((a + i : Nat) : Int) + 1) (by omega) (by omega)]) (ev_eq (Ev.now _) ?_)
            unfold tkR
            rw [if_pos rfl]
            simp only [Prod.mk.injEq, true_and, and_true]
            omega
          · rw [if_neg h128]
            refine Ev.step (f := ?_) (fun k => by rw [graftageref01_Take.j2, if_neg (by decide), st.out.1, if_pos h7, if_neg h128, em, st.out.2.1, eu, e1]) ?_
            exact ih (i + 1) _ hi1 hai1 st.out.2.2.2.2.1 st.out.2.2.2.1
      by_cases h9 : (i : Int) = 9
      · by_cases hc1 : c > 1
        · refine Ev.step (f := ?_) (fun k => by rw [graftageref01_Take.l0, if_pos (by omega), ew, if_neg (by omega), if_pos (by omega), if_pos (by omega), if_pos h9, hcc, if_pos hc1]) (key true ?_)
          exact (decide_eq_true (Or.inl ⟨by omega, hc1⟩)).symm
        · refine Ev.step (f := ?_) (fun k => by rw [graftageref01_Take.l0, if_pos (by omega), ew, if_neg (by omega), if_pos (by omega), if_pos (by omega), if_pos h9, hcc, if_neg hc1, if_pos (by omega)]) (key (c == 0) ?_)
          rw [Bool.eq_iff_iff, beq_iff_eq, decide_eq_true_eq]
          omega
      · by_cases h00 : (i : Int) > 0
        · refine Ev.step (f := ?_) (fun k => by rw [graftageref01_Take.l0, if_pos (by omega), ew, if_neg (by omega), if_pos (by omega), if_pos (by omega), if_neg h9, hcc, if_pos h00]) (key (c == 0) ?_)
          rw [Bool.eq_iff_iff, beq_iff_eq, decide_eq_true_eq]
          omega
        · refine Ev.step (f := ?_) (fun k => by rw [graftageref01_Take.l0, if_pos (by omega), ew, if_neg (by omega), if_pos (by omega), if_pos (by omega), if_neg h9, hcc, if_neg h00]) (key false ?_)
          exact (decide_eq_false (by omega)).symm
theorem refTake_ev (s : ByteArray) (hs : s.size ≤ 4294967296) (a : Nat) (ha : a ≤ s.size) : Ev (fun k => graftageref01_Take.f k s a) (tkR a (tkL 10 0 0 (lf s a))) := by
  unfold graftageref01_Take.f
  refine ev_no (by omega) ?_
  refine Ev.step (f := ?_) (fun k => by rw [graftageref01_Take.j0, if_neg (by simp; omega)]) ?_
  exact refTake_l0 s hs a ha 10 0 0 rfl (by omega) (by omega) (by decide)
/-- a number up to a most, and how many bytes it has -/
def numL (l : List Int) (m : Int) : Option (Int × Nat) := if (tkL 10 0 0 l).2.2 = 0 ∧ (tkL 10 0 0 l).1 ≤ m then some ((tkL 10 0 0 l).1, (tkL 10 0 0 l).2.1) else none
theorem numL_range {l : List Int} {m : Int} {v : Int} {c : Nat} (hl : ∀ c ∈ l, 0 ≤ c ∧ c ≤ 255) (h : numL l m = some (v, c)) : 0 ≤ v ∧ v ≤ m ∧ 1 ≤ c ∧ c ≤ l.length := by
  unfold numL at h
  split at h
  · rename_i hg
    obtain ⟨h1, h2⟩ := Prod.mk.inj (Option.some.inj h)
    have := tkL_range 10 0 0 l rfl (by omega) (by decide) hl
    have h3 := this.2.2.2 hg.1
    omega
  · cases h
theorem number_ev (s : ByteArray) (hs : s.size ≤ 4294967296) (a : Nat) (ha : a ≤ s.size) (m : Int) (h0 : 0 ≤ m) (h1 : m ≤ 4294967296) : Ev (fun k => graftageref27_number.f k s a m) (match numL (lf s a) m with | some p => (p.1, ((a + p.2 : Nat) : Int)) | none => (0, -1)) := by
  refine Ev.bind (refTake_ev s hs a ha) ?_
  have hr := tkL_range 10 0 0 (lf s a) rfl (by omega) (by decide) (lf_range s a)
  have hm : IntKind.u64.wrap m = m := by rw [u64_wrap]; omega
  unfold numL tkR
  obtain ⟨p, hp⟩ : ∃ p, tkL 10 0 0 (lf s a) = p := ⟨_, rfl⟩
  rw [hp] at hr ⊢
  by_cases h2 : p.2.2 = 0
  · simp only [if_pos h2, hm, true_and, h2]
    by_cases h3 : p.1 ≤ m
    · simp only [if_pos h3, ↓reduceIte]
      refine ev_no (by omega) ?_
      rw [wrap_id (by omega) (by omega)]
      exact Ev.now _
    · simp only [if_neg h3, ↓reduceIte]
      exact ev_yes (by omega) (Ev.now _)
  · simp only [if_neg h2, false_and, h2, ↓reduceIte]
    exact Ev.now _
/-- num of the reader: value, place, bad -/
def numP (s : ByteArray) (a : Nat) (bad : Bool) (m : Int) : Int × Nat × Bool := if bad = true then (0, a, true) else match numL (lf s a) m with | some p => (p.1, a + p.2, false) | none => (0, a, true)
theorem num_ev (s : ByteArray) (hs : s.size ≤ 4294967296) (a : Nat) (ha : a ≤ s.size) (bad : Bool) (m : Int) (h0 : 0 ≤ m) (h1 : m ≤ 4294967296) : Ev (fun k => bitmap_reader_num.f k s a bad m) ((numP s a bad m).1, s, (((numP s a bad m).2.1 : Nat) : Int), (numP s a bad m).2.2) := by
  refine Ev.bind (Take_ev s hs a ha) ?_
  have hr := tkL_range 10 0 0 (lf s a) rfl (by omega) (by decide) (lf_range s a)
  have hm : IntKind.u64.wrap m = m := by rw [u64_wrap]; omega
  unfold numP numL tkR
  obtain ⟨p, hp⟩ : ∃ p, tkL 10 0 0 (lf s a) = p := ⟨_, rfl⟩
  rw [hp] at hr ⊢
  cases bad
  · refine ev_no (by decide) ?_
    by_cases h2 : p.2.2 = 0
    · simp only [if_pos h2, hm, true_and, h2]
      by_cases h3 : p.1 ≤ m
      · simp only [if_pos h3, ↓reduceIte]
        refine ev_no (by omega) ?_
        rw [wrap_id (by omega) (by omega)]
        exact Ev.now _
      · simp only [if_neg h3, ↓reduceIte]
        exact ev_yes (by omega) (Ev.now _)
    · simp only [if_neg h2, false_and, h2, ↓reduceIte]
      exact Ev.now _
  · exact ev_yes rfl (Ev.now _)
end Go.Proofs.Ytibnkopdkfjgpaa.Q


namespace Go.Proofs.Ytibnkopdkfjgpaa.Q
open Go.RowKit Go.Proofs.YtibnkopdkfjgpaaW.PrintWords Go.Proofs.YtibnkopdkfjgpaaW.PrintLast Go.Proofs.YtibnkopdkfjgpaaW.PrintMore
attribute [local go_sem] max2_int min2_int max_two min_two max_three min_three max_four min_four   -- for this text's walks alone






def bitmap_Or_1.f (a0 : Bool) (a1 : Bool) : Option (Bool) := if a0 = true then (some true) else (some a1)
set_option maxHeartbeats 8000000 in
set_option maxRecDepth 100000 in
theorem bitmap_Or_1.calls (a0 : Bool) (a1 : Bool) (r : Bool) (w : World) (h : bitmap_Or_1.f a0 a1 = some r) :
  Calls Try.prog 30 #[.bool a0, .bool a1] w fun e w' => e = .returned (.bool r) ∧ Drawn0 w w' := by
 unfold bitmap_Or_1.f at h; have H := h; clear h; by_cases c3 : a0 = true
 ·subst c3; rw [if_pos rfl] at H; obtain rfl := oi_ H; go_enter Try.func30, Try.ntmps30; go_wp2
  go_ret
  exact ⟨z0_, z3_⟩
 replace c3 := Bool.eq_false_iff.mpr c3; subst c3; rw [if_neg nft_] at H; obtain rfl := oi_ H; go_enter Try.func30, Try.ntmps30; go_wp2
 go_ret
 exact ⟨z0_, z3_⟩



def bitmap_AndNot_1.f (a0 : Bool) (a1 : Bool) : Option (Bool) := if a0 = true then (some (!a1)) else (some false)
set_option maxHeartbeats 8000000 in
set_option maxRecDepth 100000 in
theorem bitmap_AndNot_1.calls (a0 : Bool) (a1 : Bool) (r : Bool) (w : World) (h : bitmap_AndNot_1.f a0 a1 = some r) :
  Calls Try.prog 34 #[.bool a0, .bool a1] w fun e w' => e = .returned (.bool r) ∧ Drawn0 w w' := by
 unfold bitmap_AndNot_1.f at h; have H := h; clear h; by_cases c3 : a0 = true
 ·subst c3; rw [if_pos rfl] at H; obtain rfl := oi_ H; go_enter Try.func34, Try.ntmps34; go_wp2
  go_ret
  exact ⟨z0_, z3_⟩
 replace c3 := Bool.eq_false_iff.mpr c3; subst c3; rw [if_neg nft_] at H; obtain rfl := oi_ H; go_enter Try.func34, Try.ntmps34; go_wp2
 go_ret
 exact ⟨z0_, z3_⟩

end Go.Proofs.Ytibnkopdkfjgpaa.Q


