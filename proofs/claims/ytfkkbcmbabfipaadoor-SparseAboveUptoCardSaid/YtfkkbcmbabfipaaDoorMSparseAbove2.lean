/- The law SparseAbove holds: for every input it returns true, and each argument reads afterwards as it read before. -/
import Derived.Test.YtfkkbcmbabfipaaDoorMX1
import Derived.Test.YtfkkbcmbabfipaaDoorMX2
import Derived.Test.YtfkkbcmbabfipaaDoorMT1
import Derived.Test.YtfkkbcmbabfipaaDoorMT2
import Derived.Test.YtfkkbcmbabfipaaDoorMSparseAbove1
import Derived.Laws.Cover1
import Derived.Deep.Slices
import Derived.Lib.SmallJoins
import Derived.ChangeArms
import Derived.SizedLaws
import Derived.WalkKit
import Derived.ProofKit
import Derived.Test.YtfkkbcmbabfipaaDoorRows
import Derived.Test.YtfkkbcmbabfipaaDoorTie
import Derived.Test.YtfkkbcmbabfipaaDoorCards
import Derived.OpenShut
import Derived.ShutString
import Derived.ChangeOld
import Derived.Below
import Derived.Lay
import Derived.LaidOnce
import Derived.SevenTiedAt
import Derived.LaidLaws
import Derived.Handed
import Derived.ChangeVars
import Derived.JoinedOf
import Derived.Deep.DeepHandedRow
import Derived.Stop.Joined
set_option linter.unusedVariables false
set_option linter.unusedSimpArgs false
/- Contracts of Go functions as calls of plain Lean functions, written by a program of this session over the kit's print. -/
namespace Go.Proofs.YtfkkbcmbabfipaaDoor.Q
open Go.RowKit Go.Proofs.YtfkkbcmbabfipaaDoorW.PrintWords Go.Proofs.YtfkkbcmbabfipaaDoorW.PrintLast Go.Proofs.YtfkkbcmbabfipaaDoorW.PrintMore
attribute [local go_sem] max2_int min2_int max_two min_two max_three min_three max_four min_four   -- for this text's walks alone

/-! ### graftagelaw33_SparseTells: function 8 -/
def graftagelaw33_SparseTells.j0 : Nat → List ByteArray → ByteArray → Bool → Option (Bool)
  | 0, _, _, _ => none
  | k + 1, x0, x1, x20 => if x20 = true then (some false) else ((graftageref33_Right.f k x0).bind fun t108 => (if t108 = true then ((sparse_Includes.f k x0 x1).bind fun t109 => ((graftageref33_In.f k x0 x1).bind fun t110 => (if (t109 == t110) = true then ((graftagelaw33_lives.f k).bind fun t111 => (some t111)) else (some false)))) else ((graftagelaw33_lives.f k).bind fun t112 => (some t112))))
def graftagelaw33_SparseTells.f (k : Nat) (l0 : List ByteArray) (a1 : ByteArray) : Option (Bool) := if (l0.length : Int) > 40 then ((graftagelaw33_lives.f k).bind fun t103 => (some t103)) else ((sparse_Valid.f k l0).bind fun t104 => ((graftageref33_Right.f k l0).bind fun t105 => (if (t104 != t105) = true then (graftagelaw33_SparseTells.j0 k l0 a1 true) else ((sparse_Text.f k l0).bind fun t106 => ((graftageref33_Text.f k l0).bind fun t107 => (graftagelaw33_SparseTells.j0 k l0 a1 (t106.toList != t107.toList)))))))
theorem graftagelaw33_SparseTells.mono_l : ∀ k, (∀ y0 y1 y2, LeO (graftagelaw33_SparseTells.j0 k y0 y1 y2) (graftagelaw33_SparseTells.j0 (k + 1) y0 y1 y2))
  | 0 => fun _ _ _ r h => by simp [graftagelaw33_SparseTells.j0] at h
  | k + 1 => by
    have ih0 := graftagelaw33_SparseTells.mono_l k
    · intro y0 y1 y2
      unfold graftagelaw33_SparseTells.j0
      repeat' first
      | (with_reducible exact ih0 _ _ _)
      | (with_reducible exact graftagelaw33_lives.mono _)
      | (with_reducible exact graftageref33_In.mono _ _ _)
      | (with_reducible exact graftageref33_Right.mono _ _)
      | (with_reducible exact graftageref33_Text.mono _ _)
      | (with_reducible exact sparse_Includes.mono _ _ _)
      | (with_reducible exact sparse_Text.mono _ _)
      | (with_reducible exact sparse_Valid.mono _ _)
      | (with_reducible exact LeO.refl _)
      | (with_reducible exact LeO.none _)
      | (with_reducible refine LeO.ite ?_ ?_)
      | (with_reducible refine LeO.bind ?_ (fun _ => ?_))
      | exact ih0 _ _ _
      | exact graftagelaw33_lives.mono _
      | exact graftageref33_In.mono _ _ _
      | exact graftageref33_Right.mono _ _
      | exact graftageref33_Text.mono _ _
      | exact sparse_Includes.mono _ _ _
      | exact sparse_Text.mono _ _
      | exact sparse_Valid.mono _ _
      | exact LeO.none _
      | refine LeO.ite ?_ ?_
      | refine LeO.bind ?_ (fun _ => ?_)
theorem graftagelaw33_SparseTells.mono : ∀ a0 a1 k, LeO (graftagelaw33_SparseTells.f k a0 a1) (graftagelaw33_SparseTells.f (k + 1) a0 a1) := by
  intro a0 a1 k
  have ih0 := graftagelaw33_SparseTells.mono_l k
  unfold graftagelaw33_SparseTells.f
  repeat' first
      | (with_reducible exact ih0 _ _ _)
      | (with_reducible exact graftagelaw33_lives.mono _)
      | (with_reducible exact graftageref33_In.mono _ _ _)
      | (with_reducible exact graftageref33_Right.mono _ _)
      | (with_reducible exact graftageref33_Text.mono _ _)
      | (with_reducible exact sparse_Includes.mono _ _ _)
      | (with_reducible exact sparse_Text.mono _ _)
      | (with_reducible exact sparse_Valid.mono _ _)
      | (with_reducible exact LeO.refl _)
      | (with_reducible exact LeO.none _)
      | (with_reducible refine LeO.ite ?_ ?_)
      | (with_reducible refine LeO.bind ?_ (fun _ => ?_))
      | exact ih0 _ _ _
      | exact graftagelaw33_lives.mono _
      | exact graftageref33_In.mono _ _ _
      | exact graftageref33_Right.mono _ _
      | exact graftageref33_Text.mono _ _
      | exact sparse_Includes.mono _ _ _
      | exact sparse_Text.mono _ _
      | exact sparse_Valid.mono _ _
      | exact LeO.none _
      | refine LeO.ite ?_ ?_
      | refine LeO.bind ?_ (fun _ => ?_)
set_option maxHeartbeats 8000000 in
set_option maxRecDepth 100000 in
theorem graftagelaw33_SparseTells.calls (k : Nat) (A0 : Option Addr) (c0 : Nat) (l0 : List ByteArray) (a1 : ByteArray) (r : Bool) (w : World) (hr0 : Kd.C Kd.string w A0 l0.length l0) (hc0 : l0.length ≤ c0) (h : graftagelaw33_SparseTells.f k l0 a1 = some r) :
    Calls Tryd.prog 8 #[.slice A0 l0.length c0, .string a1] w fun e w' => e = .returned (.bool r) ∧ Below w.heap.size w w' := by
  have HR0 := Aside0.mk hr0
  have HC0 := Aside0.mk hc0
  clear hr0 hc0
  have HB := Aside0.mk (Below.refl w.heap.size w)
  have H : (if (l0.length : Int) > 40 then ((graftagelaw33_lives.f k).bind fun t103 => (some t103)) else ((sparse_Valid.f k l0).bind fun t104 => ((graftageref33_Right.f k l0).bind fun t105 => (if (t104 != t105) = true then (graftagelaw33_SparseTells.j0 k l0 a1 true) else ((sparse_Text.f k l0).bind fun t106 => ((graftageref33_Text.f k l0).bind fun t107 => (graftagelaw33_SparseTells.j0 k l0 a1 (t106.toList != t107.toList)))))))) = some r := h
  clear h
  by_cases c3 : (l0.length : Int) > 40
  · rw [if_pos c3] at H
    have c3b0 : decide (40 < (l0.length : Int)) = true := decide_eq_true c3
    have c3b1 : decide (40 < l0.length) = true := decide_eq_true (by omega)
    clear c3
    replace H := Option.bind_eq_some_iff.mp H
    obtain ⟨t103, A40, H⟩ := H
    replace H : (some t103) = some r := H
    have A4 := Aside0.mk A40
    clear A40
    obtain rfl := Option.some.inj H
    go_enter Tryd.func8, Tryd.ntmps8
    go_wp2_with (first | ((with_reducible refine gate_callee (f := 32) rfl ?_); refine goesL_ (some 8) rfl rfl Tryd.func32 (by kernel_rfl) rfl #[] rfl (by (try simp only [List.map_toArray, List.map_cons, List.map_nil]); first | done | rfl | (simp only [List.length_drop, List.length_take]; rfl)) ?_; (with_reducible refine (graftagelaw33_lives.calls k  t103 _ A4.out).mono ?_); rintro e w5 ⟨rfl, hb⟩; refine ⟨_, rfl, ?_⟩; have n0_ := Aside0.mk (below_step (by repeat (first | (with_reducible first | exact HB.out | apply below_alloc | apply pw_below_drewN | apply below_drew1) | exact HB.out)) hb); clear HB; have HB := n0_; clear n0_; (try clear hb); (try clear hb2); (try clear hk); (try clear hi)))
    go_ret
    exact ⟨by first | rfl | (simp [errW_none, errW_some] <;> rfl) | (simp [*, errW_none, errW_some] <;> rfl) | (simp [ne_nil_bool]; done) | (simp [*, ne_nil_bool]; done), by repeat (first | (with_reducible first | exact HB.out | apply below_alloc | apply pw_below_drewN | apply below_drew1) | exact HB.out)⟩
  · rw [if_neg c3] at H
    have c3b0 : decide (40 < (l0.length : Int)) = false := decide_eq_false c3
    have c3b1 : decide (40 < l0.length) = false := decide_eq_false (by omega)
    clear c3
    have HC6 := Aside0.mk H
    clear H
    go_enter Tryd.func8, Tryd.ntmps8
    go_upto_region 3 with (fail)
    go_cut [20] (fun v20 wc => ∃ (kq : Nat) (x20_5 : Bool), v20 = .bool x20_5 ∧ Aside0 (graftagelaw33_SparseTells.j0 kq l0 a1 x20_5 = some r) ∧ Aside0 (kq ≤ k) ∧ Aside0 (Below w.heap.size w wc))
    case first =>
      have H := HC6.out
      clear HC6
      replace H := Option.bind_eq_some_iff.mp H
      obtain ⟨t104, A70, H⟩ := H
      replace H : ((graftageref33_Right.f k l0).bind fun t105 => (if (t104 != t105) = true then (graftagelaw33_SparseTells.j0 k l0 a1 true) else ((sparse_Text.f k l0).bind fun t106 => ((graftageref33_Text.f k l0).bind fun t107 => (graftagelaw33_SparseTells.j0 k l0 a1 (t106.toList != t107.toList)))))) = some r := H
      have A7 := Aside0.mk A70
      clear A70
      replace H := Option.bind_eq_some_iff.mp H
      obtain ⟨t105, A80, H⟩ := H
      replace H : (if (t104 != t105) = true then (graftagelaw33_SparseTells.j0 k l0 a1 true) else ((sparse_Text.f k l0).bind fun t106 => ((graftageref33_Text.f k l0).bind fun t107 => (graftagelaw33_SparseTells.j0 k l0 a1 (t106.toList != t107.toList))))) = some r := H
      have A8 := Aside0.mk A80
      clear A80
      by_cases c9 : (t104 != t105) = true
      · rw [if_pos c9] at H
        have c9b0 : (t104 != t105) = true := c9
        (try (have c9b1 : decide (t104 = t105) = false := by simpa using c9))
        (try (have c9b2 : (t104 == t105) = false := by simpa using c9))
        (try (have c9b3 : ¬ (t104 = t105) := by simpa using c9))
        clear c9
        (first | rw [c9b0] | (simp only [i64_w, i32_w]; rw [c9b0]) | skip)
        have H' := Aside0.mk H
        clear H
        go_wp2_with (first | ((with_reducible refine gate_callee (f := 33) rfl ?_); refine goesL_ (some 10) rfl rfl Tryd.func33 (by kernel_rfl) rfl #[.slice A0 l0.length c0] rfl (by (try simp only [List.map_toArray, List.map_cons, List.map_nil]); first | done | rfl | (simp only [List.length_drop, List.length_take]; rfl)) ?_; (with_reducible refine (sparse_Valid.calls k _ _ l0 t104 _ ?side1 ?side2 A7.out).mono ?_); (case side1 => repeat (first | exact (Kd.C_below HR0.out HB.out) | (with_reducible refine Kd.C_alloc ?_ _) | (with_reducible refine Kd.C_drewN ?_ _) | (with_reducible refine Kd.C_drew ?_))); (case side2 => exact HC0.out); rintro e w10 ⟨rfl, hb⟩; refine ⟨_, rfl, ?_⟩; have n0_ := Aside0.mk (below_step (by repeat (first | (with_reducible first | exact HB.out | apply below_alloc | apply pw_below_drewN | apply below_drew1) | exact HB.out)) hb); clear HB; have HB := n0_; clear n0_; (try clear hb); (try clear hb2); (try clear hk); (try clear hi)) | ((with_reducible refine gate_callee (f := 34) rfl ?_); refine goesL_ (some 12) rfl rfl Tryd.func34 (by kernel_rfl) rfl #[.slice A0 l0.length c0] rfl (by (try simp only [List.map_toArray, List.map_cons, List.map_nil]); first | done | rfl | (simp only [List.length_drop, List.length_take]; rfl)) ?_; (with_reducible refine (graftageref33_Right.calls k _ _ l0 t105 _ ?side1 ?side2 A8.out).mono ?_); (case side1 => repeat (first | exact (Kd.C_below HR0.out HB.out) | (with_reducible refine Kd.C_alloc ?_ _) | (with_reducible refine Kd.C_drewN ?_ _) | (with_reducible refine Kd.C_drew ?_))); (case side2 => exact HC0.out); rintro e w11 ⟨rfl, hb⟩; refine ⟨_, rfl, ?_⟩; have n0_ := Aside0.mk (below_step (by repeat (first | (with_reducible first | exact HB.out | apply below_alloc | apply pw_below_drewN | apply below_drew1) | exact HB.out)) hb); clear HB; have HB := n0_; clear n0_; (try clear hb); (try clear hb2); (try clear hk); (try clear hi)))
        go_meet
        case rel => exact ⟨_, (true), (by first | rfl | (simp; done) | (simp [*]; done) | (simp [ne_nil_bool]; done) | (simp [*, ne_nil_bool]; done)), H', ⟨by first | omega | exact Nat.le_refl _⟩, ⟨by repeat (first | (with_reducible first | exact HB.out | apply below_alloc | apply pw_below_drewN | apply below_drew1) | exact HB.out)⟩⟩
      · rw [if_neg c9] at H
        have c9b0 : (t104 != t105) = false := by simpa using c9
        (try (have c9b1 : decide (t104 = t105) = true := by simpa using c9))
        (try (have c9b2 : (t104 == t105) = true := by simpa using c9))
        clear c9
        (first | rw [c9b0] | (simp only [i64_w, i32_w]; rw [c9b0]) | skip)
        replace H := Option.bind_eq_some_iff.mp H
        obtain ⟨t106, A120, H⟩ := H
        replace H : ((graftageref33_Text.f k l0).bind fun t107 => (graftagelaw33_SparseTells.j0 k l0 a1 (t106.toList != t107.toList))) = some r := H
        have A12 := Aside0.mk A120
        clear A120
        replace H := Option.bind_eq_some_iff.mp H
        obtain ⟨t107, A130, H⟩ := H
        replace H : (graftagelaw33_SparseTells.j0 k l0 a1 (t106.toList != t107.toList)) = some r := H
        have A13 := Aside0.mk A130
        clear A130
        have H' := Aside0.mk H
        clear H
        go_wp2_with (first | ((with_reducible refine gate_callee (f := 33) rfl ?_); refine goesL_ (some 10) rfl rfl Tryd.func33 (by kernel_rfl) rfl #[.slice A0 l0.length c0] rfl (by (try simp only [List.map_toArray, List.map_cons, List.map_nil]); first | done | rfl | (simp only [List.length_drop, List.length_take]; rfl)) ?_; (with_reducible refine (sparse_Valid.calls k _ _ l0 t104 _ ?side1 ?side2 A7.out).mono ?_); (case side1 => repeat (first | exact (Kd.C_below HR0.out HB.out) | (with_reducible refine Kd.C_alloc ?_ _) | (with_reducible refine Kd.C_drewN ?_ _) | (with_reducible refine Kd.C_drew ?_))); (case side2 => exact HC0.out); rintro e w14 ⟨rfl, hb⟩; refine ⟨_, rfl, ?_⟩; have n0_ := Aside0.mk (below_step (by repeat (first | (with_reducible first | exact HB.out | apply below_alloc | apply pw_below_drewN | apply below_drew1) | exact HB.out)) hb); clear HB; have HB := n0_; clear n0_; (try clear hb); (try clear hb2); (try clear hk); (try clear hi)) | ((with_reducible refine gate_callee (f := 34) rfl ?_); refine goesL_ (some 12) rfl rfl Tryd.func34 (by kernel_rfl) rfl #[.slice A0 l0.length c0] rfl (by (try simp only [List.map_toArray, List.map_cons, List.map_nil]); first | done | rfl | (simp only [List.length_drop, List.length_take]; rfl)) ?_; (with_reducible refine (graftageref33_Right.calls k _ _ l0 t105 _ ?side1 ?side2 A8.out).mono ?_); (case side1 => repeat (first | exact (Kd.C_below HR0.out HB.out) | (with_reducible refine Kd.C_alloc ?_ _) | (with_reducible refine Kd.C_drewN ?_ _) | (with_reducible refine Kd.C_drew ?_))); (case side2 => exact HC0.out); rintro e w15 ⟨rfl, hb⟩; refine ⟨_, rfl, ?_⟩; have n0_ := Aside0.mk (below_step (by repeat (first | (with_reducible first | exact HB.out | apply below_alloc | apply pw_below_drewN | apply below_drew1) | exact HB.out)) hb); clear HB; have HB := n0_; clear n0_; (try clear hb); (try clear hb2); (try clear hk); (try clear hi)) | (go_at_call 35; (with_reducible refine (sparse_Text.calls k _ _ l0 t106 _ ?side1 ?side2 A12.out).mono ?_); (case side1 => repeat (first | exact (Kd.C_below HR0.out HB.out) | (with_reducible refine Kd.C_alloc ?_ _) | (with_reducible refine Kd.C_drewN ?_ _) | (with_reducible refine Kd.C_drew ?_))); (case side2 => exact HC0.out); rintro e w16 ⟨rfl, hb⟩; have n0_ := Aside0.mk (below_step (by repeat (first | (with_reducible first | exact HB.out | apply below_alloc | apply pw_below_drewN | apply below_drew1) | exact HB.out)) hb); clear HB; have HB := n0_; clear n0_; (try clear hb); (try clear hb2); (try clear hk); (try clear hi)) | (go_at_call 36; (with_reducible refine (graftageref33_Text.calls k _ _ l0 t107 _ ?side1 ?side2 A13.out).mono ?_); (case side1 => repeat (first | exact (Kd.C_below HR0.out HB.out) | (with_reducible refine Kd.C_alloc ?_ _) | (with_reducible refine Kd.C_drewN ?_ _) | (with_reducible refine Kd.C_drew ?_))); (case side2 => exact HC0.out); rintro e w17 ⟨rfl, hb⟩; have n0_ := Aside0.mk (below_step (by repeat (first | (with_reducible first | exact HB.out | apply below_alloc | apply pw_below_drewN | apply below_drew1) | exact HB.out)) hb); clear HB; have HB := n0_; clear n0_; (try clear hb); (try clear hb2); (try clear hk); (try clear hi)))
        go_meet
        case rel => exact ⟨_, ((t106.toList != t107.toList)), (by first | rfl | (simp; done) | (simp [*]; done) | (simp [ne_nil_bool]; done) | (simp [*, ne_nil_bool]; done)), H', ⟨by first | omega | exact Nat.le_refl _⟩, ⟨by repeat (first | (with_reducible first | exact HB.out | apply below_alloc | apply pw_below_drewN | apply below_drew1) | exact HB.out)⟩⟩
    case rest =>
      clear HC6
      try clear p2
      try clear c3
      try clear c3b0
      try clear c3b1
      try clear c8
      try clear c9
      try clear c9b0
      try clear c9b1
      try clear c9b2
      obtain ⟨kq, x20_5, rfl, HA, HJ5, HB⟩ := hcut
      cases kq with
      | zero => exact absurd HA.out (by simp [graftagelaw33_SparseTells.j0])
      | succ kj5 =>
        have H := HA.out
        clear HA
        simp only [graftagelaw33_SparseTells.j0] at H
        by_cases c18 : x20_5 = true
        · subst c18
          have H1 : (some false) = some r := by rw [if_pos rfl] at H; exact H
          clear H
          have H := H1
          clear H1
          obtain rfl := Option.some.inj H
          go_wp2
          go_ret
          exact ⟨by first | rfl | (simp [errW_none, errW_some] <;> rfl) | (simp [*, errW_none, errW_some] <;> rfl) | (simp [ne_nil_bool]; done) | (simp [*, ne_nil_bool]; done), by repeat (first | (with_reducible first | exact HB.out | apply below_alloc | apply pw_below_drewN | apply below_drew1) | exact HB.out)⟩
        · replace c18 := Bool.eq_false_iff.mpr c18
          subst c18
          have H1 : ((graftageref33_Right.f kj5 l0).bind fun t108 => (if t108 = true then ((sparse_Includes.f kj5 l0 a1).bind fun t109 => ((graftageref33_In.f kj5 l0 a1).bind fun t110 => (if (t109 == t110) = true then ((graftagelaw33_lives.f kj5).bind fun t111 => (some t111)) else (some false)))) else ((graftagelaw33_lives.f kj5).bind fun t112 => (some t112)))) = some r := by rw [if_neg (show ¬ (false = true) by decide)] at H; exact H
          clear H
          have H := H1
          clear H1
          replace H := Option.bind_eq_some_iff.mp H
          obtain ⟨t108, A190, H⟩ := H
          replace H : (if t108 = true then ((sparse_Includes.f kj5 l0 a1).bind fun t109 => ((graftageref33_In.f kj5 l0 a1).bind fun t110 => (if (t109 == t110) = true then ((graftagelaw33_lives.f kj5).bind fun t111 => (some t111)) else (some false)))) else ((graftagelaw33_lives.f kj5).bind fun t112 => (some t112))) = some r := H
          have A19 := Aside0.mk A190
          clear A190
          by_cases c20 : t108 = true
          · subst c20
            have H1 : ((sparse_Includes.f kj5 l0 a1).bind fun t109 => ((graftageref33_In.f kj5 l0 a1).bind fun t110 => (if (t109 == t110) = true then ((graftagelaw33_lives.f kj5).bind fun t111 => (some t111)) else (some false)))) = some r := by rw [if_pos rfl] at H; exact H
            clear H
            have H := H1
            clear H1
            replace H := Option.bind_eq_some_iff.mp H
            obtain ⟨t109, A210, H⟩ := H
            replace H : ((graftageref33_In.f kj5 l0 a1).bind fun t110 => (if (t109 == t110) = true then ((graftagelaw33_lives.f kj5).bind fun t111 => (some t111)) else (some false))) = some r := H
            have A21 := Aside0.mk A210
            clear A210
            replace H := Option.bind_eq_some_iff.mp H
            obtain ⟨t110, A220, H⟩ := H
            replace H : (if (t109 == t110) = true then ((graftagelaw33_lives.f kj5).bind fun t111 => (some t111)) else (some false)) = some r := H
            have A22 := Aside0.mk A220
            clear A220
            by_cases c23 : (t109 == t110) = true
            · rw [if_pos c23] at H
              have c23b0 : (t109 == t110) = true := c23
              (try (have c23b1 : decide (t109 = t110) = true := by simpa using c23))
              (try (have c23b2 : (t109 == t110) = true := by simpa using c23))
              clear c23
              replace H := Option.bind_eq_some_iff.mp H
              obtain ⟨t111, A240, H⟩ := H
              replace H : (some t111) = some r := H
              have A24 := Aside0.mk A240
              clear A240
              obtain rfl := Option.some.inj H
              go_wp2_with (first | ((with_reducible refine gate_callee (f := 34) rfl ?_); refine goesL_ (some 22) rfl rfl Tryd.func34 (by kernel_rfl) rfl #[.slice A0 l0.length c0] rfl (by (try simp only [List.map_toArray, List.map_cons, List.map_nil]); first | done | rfl | (simp only [List.length_drop, List.length_take]; rfl)) ?_; (with_reducible refine (graftageref33_Right.calls kj5 _ _ l0 true _ ?side1 ?side2 A19.out).mono ?_); (case side1 => repeat (first | exact (Kd.C_below HR0.out HB.out) | (with_reducible refine Kd.C_alloc ?_ _) | (with_reducible refine Kd.C_drewN ?_ _) | (with_reducible refine Kd.C_drew ?_))); (case side2 => exact HC0.out); rintro e w25 ⟨rfl, hb⟩; refine ⟨_, rfl, ?_⟩; have n0_ := Aside0.mk (below_step (by repeat (first | (with_reducible first | exact HB.out | apply below_alloc | apply pw_below_drewN | apply below_drew1) | exact HB.out)) hb); clear HB; have HB := n0_; clear n0_; (try clear hb); (try clear hb2); (try clear hk); (try clear hi)) | (go_at_call 37; (with_reducible refine (sparse_Includes.calls kj5 _ _ l0 a1 t109 _ ?side1 ?side2 A21.out).mono ?_); (case side1 => repeat (first | exact (Kd.C_below HR0.out HB.out) | (with_reducible refine Kd.C_alloc ?_ _) | (with_reducible refine Kd.C_drewN ?_ _) | (with_reducible refine Kd.C_drew ?_))); (case side2 => exact HC0.out); rintro e w26 ⟨rfl, hb⟩; have n0_ := Aside0.mk (below_step (by repeat (first | (with_reducible first | exact HB.out | apply below_alloc | apply pw_below_drewN | apply below_drew1) | exact HB.out)) hb); clear HB; have HB := n0_; clear n0_; (try clear hb); (try clear hb2); (try clear hk); (try clear hi)) | (go_at_call 38; (with_reducible refine (graftageref33_In.calls kj5 _ _ l0 a1 t110 _ ?side1 ?side2 A22.out).mono ?_); (case side1 => repeat (first | exact (Kd.C_below HR0.out HB.out) | (with_reducible refine Kd.C_alloc ?_ _) | (with_reducible refine Kd.C_drewN ?_ _) | (with_reducible refine Kd.C_drew ?_))); (case side2 => exact HC0.out); rintro e w27 ⟨rfl, hb⟩; have n0_ := Aside0.mk (below_step (by repeat (first | (with_reducible first | exact HB.out | apply below_alloc | apply pw_below_drewN | apply below_drew1) | exact HB.out)) hb); clear HB; have HB := n0_; clear n0_; (try clear hb); (try clear hb2); (try clear hk); (try clear hi)) | (go_at_call 32; (with_reducible refine (graftagelaw33_lives.calls kj5  t111 _ A24.out).mono ?_); rintro e w28 ⟨rfl, hb⟩; have n0_ := Aside0.mk (below_step (by repeat (first | (with_reducible first | exact HB.out | apply below_alloc | apply pw_below_drewN | apply below_drew1) | exact HB.out)) hb); clear HB; have HB := n0_; clear n0_; (try clear hb); (try clear hb2); (try clear hk); (try clear hi)))
              go_ret
              exact ⟨by first | rfl | (simp [errW_none, errW_some] <;> rfl) | (simp [*, errW_none, errW_some] <;> rfl) | (simp [ne_nil_bool]; done) | (simp [*, ne_nil_bool]; done), by repeat (first | (with_reducible first | exact HB.out | apply below_alloc | apply pw_below_drewN | apply below_drew1) | exact HB.out)⟩
            · rw [if_neg c23] at H
              have c23b0 : (t109 == t110) = false := by simpa using c23
              (try (have c23b1 : decide (t109 = t110) = false := by simpa using c23))
              (try (have c23b2 : (t109 == t110) = false := by simpa using c23))
              (try (have c23b3 : ¬ (t109 = t110) := by simpa using c23))
              clear c23
              obtain rfl := Option.some.inj H
              go_wp2_with (first | ((with_reducible refine gate_callee (f := 34) rfl ?_); refine goesL_ (some 22) rfl rfl Tryd.func34 (by kernel_rfl) rfl #[.slice A0 l0.length c0] rfl (by (try simp only [List.map_toArray, List.map_cons, List.map_nil]); first | done | rfl | (simp only [List.length_drop, List.length_take]; rfl)) ?_; (with_reducible refine (graftageref33_Right.calls kj5 _ _ l0 true _ ?side1 ?side2 A19.out).mono ?_); (case side1 => repeat (first | exact (Kd.C_below HR0.out HB.out) | (with_reducible refine Kd.C_alloc ?_ _) | (with_reducible refine Kd.C_drewN ?_ _) | (with_reducible refine Kd.C_drew ?_))); (case side2 => exact HC0.out); rintro e w29 ⟨rfl, hb⟩; refine ⟨_, rfl, ?_⟩; have n0_ := Aside0.mk (below_step (by repeat (first | (with_reducible first | exact HB.out | apply below_alloc | apply pw_below_drewN | apply below_drew1) | exact HB.out)) hb); clear HB; have HB := n0_; clear n0_; (try clear hb); (try clear hb2); (try clear hk); (try clear hi)) | (go_at_call 37; (with_reducible refine (sparse_Includes.calls kj5 _ _ l0 a1 t109 _ ?side1 ?side2 A21.out).mono ?_); (case side1 => repeat (first | exact (Kd.C_below HR0.out HB.out) | (with_reducible refine Kd.C_alloc ?_ _) | (with_reducible refine Kd.C_drewN ?_ _) | (with_reducible refine Kd.C_drew ?_))); (case side2 => exact HC0.out); rintro e w30 ⟨rfl, hb⟩; have n0_ := Aside0.mk (below_step (by repeat (first | (with_reducible first | exact HB.out | apply below_alloc | apply pw_below_drewN | apply below_drew1) | exact HB.out)) hb); clear HB; have HB := n0_; clear n0_; (try clear hb); (try clear hb2); (try clear hk); (try clear hi)) | (go_at_call 38; (with_reducible refine (graftageref33_In.calls kj5 _ _ l0 a1 t110 _ ?side1 ?side2 A22.out).mono ?_); (case side1 => repeat (first | exact (Kd.C_below HR0.out HB.out) | (with_reducible refine Kd.C_alloc ?_ _) | (with_reducible refine Kd.C_drewN ?_ _) | (with_reducible refine Kd.C_drew ?_))); (case side2 => exact HC0.out); rintro e w31 ⟨rfl, hb⟩; have n0_ := Aside0.mk (below_step (by repeat (first | (with_reducible first | exact HB.out | apply below_alloc | apply pw_below_drewN | apply below_drew1) | exact HB.out)) hb); clear HB; have HB := n0_; clear n0_; (try clear hb); (try clear hb2); (try clear hk); (try clear hi)))
              go_ret
              exact ⟨by first | rfl | (simp [errW_none, errW_some] <;> rfl) | (simp [*, errW_none, errW_some] <;> rfl) | (simp [ne_nil_bool]; done) | (simp [*, ne_nil_bool]; done), by repeat (first | (with_reducible first | exact HB.out | apply below_alloc | apply pw_below_drewN | apply below_drew1) | exact HB.out)⟩
          · replace c20 := Bool.eq_false_iff.mpr c20
            subst c20
            have H1 : ((graftagelaw33_lives.f kj5).bind fun t112 => (some t112)) = some r := by rw [if_neg (show ¬ (false = true) by decide)] at H; exact H
            clear H
            have H := H1
            clear H1
            replace H := Option.bind_eq_some_iff.mp H
            obtain ⟨t112, A320, H⟩ := H
            replace H : (some t112) = some r := H
            have A32 := Aside0.mk A320
            clear A320
            obtain rfl := Option.some.inj H
            go_wp2_with (first | ((with_reducible refine gate_callee (f := 34) rfl ?_); refine goesL_ (some 22) rfl rfl Tryd.func34 (by kernel_rfl) rfl #[.slice A0 l0.length c0] rfl (by (try simp only [List.map_toArray, List.map_cons, List.map_nil]); first | done | rfl | (simp only [List.length_drop, List.length_take]; rfl)) ?_; (with_reducible refine (graftageref33_Right.calls kj5 _ _ l0 false _ ?side1 ?side2 A19.out).mono ?_); (case side1 => repeat (first | exact (Kd.C_below HR0.out HB.out) | (with_reducible refine Kd.C_alloc ?_ _) | (with_reducible refine Kd.C_drewN ?_ _) | (with_reducible refine Kd.C_drew ?_))); (case side2 => exact HC0.out); rintro e w33 ⟨rfl, hb⟩; refine ⟨_, rfl, ?_⟩; have n0_ := Aside0.mk (below_step (by repeat (first | (with_reducible first | exact HB.out | apply below_alloc | apply pw_below_drewN | apply below_drew1) | exact HB.out)) hb); clear HB; have HB := n0_; clear n0_; (try clear hb); (try clear hb2); (try clear hk); (try clear hi)) | (go_at_call 32; (with_reducible refine (graftagelaw33_lives.calls kj5  t112 _ A32.out).mono ?_); rintro e w34 ⟨rfl, hb⟩; have n0_ := Aside0.mk (below_step (by repeat (first | (with_reducible first | exact HB.out | apply below_alloc | apply pw_below_drewN | apply below_drew1) | exact HB.out)) hb); clear HB; have HB := n0_; clear n0_; (try clear hb); (try clear hb2); (try clear hk); (try clear hi)))
            go_ret
            exact ⟨by first | rfl | (simp [errW_none, errW_some] <;> rfl) | (simp [*, errW_none, errW_some] <;> rfl) | (simp [ne_nil_bool]; done) | (simp [*, ne_nil_bool]; done), by repeat (first | (with_reducible first | exact HB.out | apply below_alloc | apply pw_below_drewN | apply below_drew1) | exact HB.out)⟩

end Go.Proofs.YtfkkbcmbabfipaaDoor.Q

/- Cones: the program's test and the reference's agree; their texts; SparseTells. -/
namespace Go.Proofs.YtfkkbcmbabfipaaDoor.Q
open Go.RowKit Go.Proofs.YtfkkbcmbabfipaaDoorW.PrintWords Go.Proofs.YtfkkbcmbabfipaaDoorW.PrintLast Go.Proofs.YtfkkbcmbabfipaaDoorW.PrintMore

theorem pre_lt (c : List UInt8) (b : UInt8) (x : List UInt8) : c < c ++ b :: x := by
  induction c with
  | nil => exact List.nil_lt_cons b x
  | cons a r ih => exact List.cons_lt_cons_iff.2 (.inr ⟨rfl, ih⟩)
def okAt (l : List ByteArray) (j : Nat) : Prop := isPath (atB l j) = true ∧ (j = 0 ∨ (atB l (j - 1)).toList < (atB l j).toList)
theorem vF_all (l : List ByteArray) : ∀ (d i : Nat), vF l d i = true ↔ l.length ≤ 4096 ∧ ∀ j, i ≤ j → j < i + d → okAt l j ∧ (l.take j).any (fun c => withinB c (atB l j)) = false := by
  intro d
  induction d with
  | zero => intro i; simp only [vF, decide_eq_true_eq]; exact ⟨fun h => ⟨h, fun j h1 h2 => by omega⟩, fun h => h.1⟩
  | succ d ih =>
    intro i
    rw [vF, Bool.and_eq_true, Bool.and_eq_true, Bool.and_eq_true, ih, Bool.or_eq_true, decide_eq_true_eq, Go.Proofs.bytesLess_eq, decide_eq_true_eq, Bool.not_eq_true']
    constructor
    · rintro ⟨a, b, c, h, r⟩
      refine ⟨h, fun j h1 h2 => ?_⟩
      by_cases hj : j = i
      · rw [hj]; exact ⟨⟨a, b⟩, c⟩
      · exact r j (by omega) (by omega)
    · rintro ⟨h, r⟩
      obtain ⟨⟨a, b⟩, c⟩ := r i (Nat.le_refl _) (by omega)
      exact ⟨a, b, c, h, fun j h1 h2 => r j (by omega) (by omega)⟩
theorem rF_all (l : List ByteArray) : ∀ (d i : Nat), rF l d i = true ↔ l.length ≤ 4096 ∧ ∀ j, i ≤ j → j < i + d → okAt l j ∧ l.any (fun c => withinB c (atB l j)) = false := by
  intro d
  induction d with
  | zero => intro i; simp only [rF, decide_eq_true_eq]; exact ⟨fun h => ⟨h, fun j h1 h2 => by omega⟩, fun h => h.1⟩
  | succ d ih =>
    intro i
    rw [rF, Bool.and_eq_true, Bool.and_eq_true, Bool.and_eq_true, ih, Bool.or_eq_true, decide_eq_true_eq, Go.Proofs.bytesLess_eq, decide_eq_true_eq, Bool.not_eq_true']
    constructor
    · rintro ⟨a, b, c, h, r⟩
      refine ⟨h, fun j h1 h2 => ?_⟩
      by_cases hj : j = i
      · rw [hj]; exact ⟨⟨a, b⟩, c⟩
      · exact r j (by omega) (by omega)
    · rintro ⟨h, r⟩
      obtain ⟨⟨a, b⟩, c⟩ := r i (Nat.le_refl _) (by omega)
      exact ⟨a, b, c, h, fun j h1 h2 => r j (by omega) (by omega)⟩
theorem isPath_ne {s : ByteArray} (h : isPath s = true) : s.data.toList ≠ [] := isPath_iff' s h
theorem within_lt {a b : ByteArray} (ha : a.data.toList ≠ []) (h : withinB a b = true) : a.toList < b.toList := by
  have hsa := Lib.size_eq a
  have hsb := Lib.size_eq b
  unfold withinB at h
  rw [Lib.toList_data a, Lib.toList_data b, if_neg ha] at h
  simp only [Bool.and_eq_true, decide_eq_true_eq, beq_iff_eq] at h
  obtain ⟨h1, h2, h3⟩ := h
  rw [Lib.toList_data, Lib.extract_data, List.drop_zero, Nat.sub_zero, hsa] at h2
  rw [Lib.toList_data, Lib.toList_data]
  have hlt : a.data.toList.length < b.data.toList.length := by omega
  have e : b.data.toList = a.data.toList ++ b.data.toList[a.data.toList.length] :: b.data.toList.drop (a.data.toList.length + 1) := by
    conv => lhs; rw [← List.take_append_drop a.data.toList.length b.data.toList, List.drop_eq_getElem_cons hlt, h2]
  rw [e]
  exact pre_lt _ _ _
theorem atB_get (l : List ByteArray) (i : Nat) (h : i < l.length) : atB l i = l[i] := rd_ext l i h
theorem sorted_lt (l : List ByteArray) (h : ∀ j, j < l.length → okAt l j) : ∀ (n j : Nat), j + n + 1 < l.length → (atB l j).toList < (atB l (j + n + 1)).toList := by
  intro n
  induction n with
  | zero =>
    intro j hj
    rcases (h (j + 1) hj).2 with h0 | h0
    · omega
    · exact h0
  | succ n ih =>
    intro j hj
    have h1 := ih j (by omega)
    rcases (h (j + (n + 1) + 1) hj).2 with h0 | h0
    · omega
    · exact List.lt_trans h1 h0
theorem right_eq (l : List ByteArray) : vF l l.length 0 = rF l l.length 0 := by
  rw [Bool.eq_iff_iff, vF_all, rF_all]
  constructor
  · rintro ⟨h, r⟩
    refine ⟨h, fun j h1 h2 => ⟨(r j h1 h2).1, ?_⟩⟩
    rw [Bool.eq_false_iff]
    intro hany
    obtain ⟨c, hc, hw⟩ := List.any_eq_true.1 hany
    obtain ⟨m, hm, rfl⟩ := List.mem_iff_getElem.1 hc
    have hok : ∀ j, j < l.length → okAt l j := fun j hj => (r j (Nat.zero_le _) (by omega)).1
    have hlt := within_lt (isPath_ne (by rw [← atB_get l m hm]; exact (hok m hm).1)) hw
    rw [← atB_get l m hm] at hlt
    rcases Nat.lt_trichotomy m j with hmj | hmj | hmj
    · have hf := (r j h1 h2).2
      rw [Bool.eq_false_iff] at hf
      apply hf
      refine List.any_eq_true.2 ⟨l[m], ?_, hw⟩
      rw [List.mem_take_iff_getElem]
      exact ⟨m, by omega, rfl⟩
    · rw [hmj] at hlt
      exact List.lt_irrefl _ hlt
    · have hs := sorted_lt l hok (m - j - 1) j (by omega)
      rw [show j + (m - j - 1) + 1 = m by omega] at hs
      exact List.lt_irrefl _ (List.lt_trans hlt hs)
  · rintro ⟨h, r⟩
    refine ⟨h, fun j h1 h2 => ⟨(r j h1 h2).1, ?_⟩⟩
    have hf := (r j h1 h2).2
    rw [Bool.eq_false_iff] at hf ⊢
    intro hany
    obtain ⟨c, hc, hw⟩ := List.any_eq_true.1 hany
    exact hf (List.any_eq_true.2 ⟨c, List.mem_of_mem_take hc, hw⟩)
def rightB (l : List ByteArray) : Bool := rF l l.length 0
section
variable (l : List ByteArray) (hl : ∀ x ∈ l, x.size ≤ 4294967280) (hn : l.length ≤ 4294967280)
include hl hn
theorem Valid_ev : Ev (fun k => sparse_Valid.f k l) (rightB l) := by
  unfold rightB
  rw [← right_eq]
  exact_mod_cast Valid_l0 l hl hn l.length 0 (by omega)
theorem Right_ev : Ev (fun k => graftageref33_Right.f k l) (rightB l) := by
  exact_mod_cast Right_l0 l hl hn l.length 0 (by omega)
end
theorem right_all {l : List ByteArray} (h : rightB l = true) : l.length ≤ 4096 ∧ ∀ j, j < l.length → (atB l j).size ≤ 255 := by
  obtain ⟨h1, r⟩ := (rF_all l l.length 0).1 h
  exact ⟨h1, fun j hj => isPath_size (r j (Nat.zero_le _) (by omega)).1.1⟩
def tB (l : List ByteArray) : Nat → Nat → ByteArray → ByteArray
  | 0, _, acc => acc
  | d + 1, i, acc => tB l d (i + 1) (acc ++ (((⟨#[47]⟩ : ByteArray) ++ atB l i) ++ (⟨#[47, 10]⟩ : ByteArray)))
theorem tB_assoc (a b c d : ByteArray) : ((a ++ b) ++ c) ++ d = a ++ ((b ++ c) ++ d) := by
  apply ba_ext
  simp
section
variable (l : List ByteArray) (hn : l.length ≤ 4096) (h5 : ∀ j, j < l.length → (atB l j).size ≤ 255)
include hn h5
theorem Text_l0 : ∀ (d i : Nat) (acc : ByteArray), i + d = l.length → acc.size ≤ i * 258 → Ev (fun k => sparse_Text.l0 k l l.length i acc) (tB l d i acc) := by
  intro d
  induction d with
  | zero =>
    intro i acc hi ha
    exact Ev.step (f := fun _ => some acc) (fun k => by rw [sparse_Text.l0, if_neg (by omega)]; rfl) (Ev.now _)
  | succ d ih =>
    intro i acc hi ha
    have h := h5 i (by omega)
    have e0 : rdOf ByteArray.empty l (i : Int) = atB l i := rfl
    have s1 : ((⟨#[47]⟩ : ByteArray) ++ atB l i).size = 1 + (atB l i).size := by rw [ByteArray.size_append]; rfl
    have s2 : (((⟨#[47]⟩ : ByteArray) ++ atB l i) ++ (⟨#[47, 10]⟩ : ByteArray)).size = 3 + (atB l i).size := by rw [ByteArray.size_append, s1, show (⟨#[47, 10]⟩ : ByteArray).size = 2 from rfl]; omega
    have hw : Builder_WriteString.f acc (((⟨#[47]⟩ : ByteArray) ++ atB l i) ++ (⟨#[47, 10]⟩ : ByteArray)) = some (((((⟨#[47]⟩ : ByteArray) ++ atB l i) ++ (⟨#[47, 10]⟩ : ByteArray)).size : Int), none, acc ++ (((⟨#[47]⟩ : ByteArray) ++ atB l i) ++ (⟨#[47, 10]⟩ : ByteArray))) := by
      unfold Builder_WriteString.f
      rw [if_pos (by rw [s2]; omega)]
    refine Ev.step (f := fun k => sparse_Text.l0 k l l.length ((i : Int) + 1) (acc ++ (((⟨#[47]⟩ : ByteArray) ++ atB l i) ++ (⟨#[47, 10]⟩ : ByteArray)))) (fun k => ?_) ?_
    · rw [sparse_Text.l0, if_pos (by omega), if_pos (by omega), if_pos (by omega), e0, if_pos (by omega), if_pos (by rw [s1]; omega), hw, wrap_id (by omega) (by omega)]
      rfl
    · rw [tB]
      exact_mod_cast ih (i + 1) _ (by omega) (by rw [ByteArray.size_append, s2]; omega)
theorem ref_Text_l0 : ∀ (d i : Nat) (acc : ByteArray), i + d = l.length → acc.size ≤ i * 258 → Ev (fun k => graftageref33_Text.l0 k l acc i) (tB l d i acc) := by
  intro d
  induction d with
  | zero =>
    intro i acc hi ha
    exact Ev.step (f := fun _ => some acc) (fun k => by rw [graftageref33_Text.l0, if_neg (by omega)]) (Ev.now _)
  | succ d ih =>
    intro i acc hi ha
    have h := h5 i (by omega)
    have e0 : rdOf ByteArray.empty l (i : Int) = atB l i := rfl
    have s1 : (acc ++ (⟨#[47]⟩ : ByteArray)).size = acc.size + 1 := by rw [ByteArray.size_append]; rfl
    have s2 : ((acc ++ (⟨#[47]⟩ : ByteArray)) ++ atB l i).size = acc.size + 1 + (atB l i).size := by rw [ByteArray.size_append, s1]
    refine Ev.step (f := fun k => graftageref33_Text.l0 k l (((acc ++ (⟨#[47]⟩ : ByteArray)) ++ atB l i) ++ (⟨#[47, 10]⟩ : ByteArray)) ((i : Int) + 1)) (fun k => ?_) ?_
    · rw [graftageref33_Text.l0, if_pos (by omega), if_pos (by omega), if_pos (by omega), e0, if_pos (by rw [s1]; omega), if_pos (by rw [s2]; omega), wrap_id (by omega) (by omega)]
    · rw [tB, tB_assoc]
      exact_mod_cast ih (i + 1) _ (by omega) (by rw [← tB_assoc, ByteArray.size_append, s2, show (⟨#[47, 10]⟩ : ByteArray).size = 2 from rfl]; omega)
end
def textB (l : List ByteArray) : ByteArray := if rightB l = true then tB l l.length 0 ⟨#[]⟩ else ⟨#[]⟩
section
variable (l : List ByteArray) (hl : ∀ x ∈ l, x.size ≤ 4294967280) (hn : l.length ≤ 4294967280)
include hl hn
theorem Text_ev : Ev (fun k => sparse_Text.f k l) (textB l) := by
  refine Ev.bind (Valid_ev l hl hn) ?_
  unfold textB
  by_cases h : rightB l = true
  · simp only [if_pos h]
    obtain ⟨h1, h2⟩ := right_all h
    exact_mod_cast Text_l0 l h1 h2 l.length 0 ⟨#[]⟩ (by omega) (Nat.zero_le _)
  · simp only [if_neg h]
    exact Ev.now _
theorem ref_Text_ev : Ev (fun k => graftageref33_Text.f k l) (textB l) := by
  refine Ev.bind (Right_ev l hl hn) ?_
  unfold textB
  by_cases h : rightB l = true
  · simp only [if_pos h]
    obtain ⟨h1, h2⟩ := right_all h
    exact_mod_cast ref_Text_l0 l h1 h2 l.length 0 ⟨#[]⟩ (by omega) (Nat.zero_le _)
  · simp only [if_neg h]
    exact Ev.now _
theorem SparseTells_ev (p : ByteArray) (hp : p.size ≤ 4294967280) : Ev (fun k => graftagelaw33_SparseTells.f k l p) true := by
  unfold graftagelaw33_SparseTells.f
  refine ev_ite (fun _ => liveOr33) (fun _ => Ev.bind (Valid_ev l hl hn) (Ev.bind (Right_ev l hl hn) ?_))
  simp only [bne_self_eq_false, Bool.false_eq_true, if_false]
  refine Ev.bind (Text_ev l hl hn) (Ev.bind (ref_Text_ev l hl hn) ?_)
  simp only [bne_self_eq_false]
  refine Ev.step (fun k => by rw [graftagelaw33_SparseTells.j0, if_neg (by simp)]) (Ev.bind (Right_ev l hl hn) (ev_ite (fun _ => ?_) (fun _ => liveOr33)))
  refine Ev.bind (Includes_ev l p (fun x hx => by have := hl x hx; omega) (by omega) (by omega)) (Ev.bind (In_ev l p (fun x hx => by have := hl x hx; omega) (by omega) hp) ?_)
  simp only [beq_self_eq_true, if_true]
  exact liveOr33
end
theorem sum_mem (l : List ByteArray) {x : ByteArray} (h : x ∈ l) : x.size + 1 ≤ (l.map (fun y => y.size + 1)).sum := by
  induction l with
  | nil => simp at h
  | cons y r ih =>
    simp only [List.map_cons, List.sum_cons]
    rcases List.mem_cons.1 h with rfl | h
    · omega
    · have := ih h; omega
theorem sum_len (l : List ByteArray) : l.length ≤ (l.map (fun y => y.size + 1)).sum := by
  induction l with
  | nil => simp
  | cons y r ih => simp only [List.map_cons, List.sum_cons, List.length_cons]; omega
end Go.Proofs.YtfkkbcmbabfipaaDoor.Q

/- A path and its last slash; what lies within. -/
namespace Go.Proofs.YtfkkbcmbabfipaaDoor.Q
open Go.RowKit Go.Proofs.YtfkkbcmbabfipaaDoorW.PrintWords Go.Proofs.YtfkkbcmbabfipaaDoorW.PrintLast Go.Proofs.YtfkkbcmbabfipaaDoorW.PrintMore

theorem partsL_app (d n : List UInt8) : partsL (d ++ 47 :: n) = partsL d ++ partsL n := by
  induction d with
  | nil => simp [partsL]
  | cons b r ih =>
    rw [List.cons_append, partsL, partsL]
    by_cases h : b = 47
    · rw [if_pos h, if_pos h, ih]; rfl
    · rw [if_neg h, if_neg h, ih]
      cases hq : partsL r with
      | nil => exact absurd hq (partsL_ne r)
      | cons a t => rfl
theorem partsL_one (n : List UInt8) (h : (47 : UInt8) ∉ n) : partsL n = [n] := by
  induction n with
  | nil => rfl
  | cons b r ih =>
    simp only [List.mem_cons, not_or] at h
    rw [partsL, if_neg (Ne.symm h.1), ih h.2]
    rfl
theorem under_data (a b : ByteArray) (h : ¬ a.toList = []) : (underB a b).data.toList = a.data.toList ++ 47 :: b.data.toList := by
  unfold underB
  rw [if_neg h, append_data, append_data]
  simp
theorem size_data (a : ByteArray) : a.size = a.data.toList.length := Lib.size_eq a
theorem lastTo_spec (s : ByteArray) : ∀ n : Nat, (lastTo s 47 n = -1 ∧ ∀ i : Nat, i < n → bt s i ≠ 47) ∨ (∃ m : Nat, lastTo s 47 n = m ∧ m < n ∧ bt s m = 47 ∧ ∀ i : Nat, m < i → i < n → bt s i ≠ 47)
  | 0 => .inl ⟨rfl, fun i h => by omega⟩
  | n + 1 => by
    by_cases h : bt s n = 47
    · exact .inr ⟨n, by simp [lastTo, h], by omega, h, fun i h1 h2 => by omega⟩
    · simp only [lastTo, if_neg h]
      rcases lastTo_spec s n with ⟨e, hn⟩ | ⟨m, e, hm, hb, hn⟩
      · exact .inl ⟨e, fun i hi => by
          by_cases hin : i = n
          · rw [hin]; exact h
          · exact hn i (by omega)⟩
      · exact .inr ⟨m, e, by omega, hb, fun i h1 h2 => by
          by_cases hin : i = n
          · rw [hin]; exact h
          · exact hn i h1 (by omega)⟩
theorem no47_of (s : ByteArray) (n : Nat) (h : ∀ i : Nat, n ≤ i → i < s.size → bt s i ≠ 47) : (47 : UInt8) ∉ s.data.toList.drop n := by
  intro hm
  obtain ⟨j, hj, e⟩ := List.mem_iff_getElem.1 hm
  rw [List.getElem_drop] at e
  rw [List.length_drop] at hj
  have hs := Lib.size_eq s
  refine h (n + j) (by omega) (by omega) ?_
  rw [bt_get s (n + j) (by omega), e]
  rfl
/-- A text and its last slash. -/
theorem dir_name (s : ByteArray) : ((47 : UInt8) ∉ s.data.toList ∧ dirB s = ⟨#[]⟩ ∧ nameB s = s) ∨ (s.data.toList = (dirB s).data.toList ++ 47 :: (nameB s).data.toList ∧ (47 : UInt8) ∉ (nameB s).data.toList) := by
  have hs := Lib.size_eq s
  rcases lastTo_spec s s.size with ⟨e, hn⟩ | ⟨m, e, hm, hb, hn⟩
  · left
    refine ⟨by simpa using no47_of s 0 (fun i _ h => hn i h), ?_, ?_⟩
    · apply ba_ext
      unfold dirB
      rw [e, Lib.extract_data]
      simp
    · apply ba_ext
      unfold nameB
      rw [e, Lib.extract_data, show ((-1 : Int) + 1).toNat = 0 from rfl, List.drop_zero]
      exact List.take_of_length_le (by omega)
  · right
    have h47 : s.data.toList[m]'(by omega) = 47 := by
      rw [bt_get s m hm] at hb
      apply UInt8.toNat_inj.1
      show _ = 47
      omega
    have e1 : (dirB s).data.toList = s.data.toList.take m := by
      unfold dirB
      rw [e, Lib.extract_data, Int.toNat_natCast, List.drop_zero, Nat.sub_zero]
    have e2 : (nameB s).data.toList = s.data.toList.drop (m + 1) := by
      unfold nameB
      rw [e, Lib.extract_data, show ((m : Int) + 1).toNat = m + 1 by omega]
      exact List.take_of_length_le (by rw [List.length_drop]; omega)
    rw [e1, e2]
    refine ⟨?_, no47_of s (m + 1) (fun i h1 h2 => hn i (by omega) h2)⟩
    conv => lhs; rw [← List.take_append_drop m s.data.toList, List.drop_eq_getElem_cons (show m < s.data.toList.length by omega), h47]

theorem withinB_iff (a b : ByteArray) : withinB a b = true ↔ (a.data.toList = [] ∧ b.data.toList ≠ []) ∨ (∃ x, x ≠ [] ∧ a.data.toList ≠ [] ∧ b.data.toList = a.data.toList ++ 47 :: x) := by
  have ha := Lib.size_eq a
  have hb := Lib.size_eq b
  unfold withinB
  rw [Lib.toList_data a, Lib.toList_data b]
  by_cases h : a.data.toList = []
  · rw [if_pos h]; simp [h]
  · rw [if_neg h]
    have e : (b.extract 0 a.size).toList = b.data.toList.take a.data.toList.length := by rw [Lib.extract_toList, List.drop_zero, Nat.sub_zero, ha]
    rw [e]
    constructor
    · intro hw
      simp only [Bool.and_eq_true, decide_eq_true_eq, beq_iff_eq] at hw
      obtain ⟨h1, h2, h3⟩ := hw
      right
      have h4 : b.data.toList[a.size]'(by omega) = 47 := by
        rw [bt_get b a.size (by omega)] at h3
        apply UInt8.toNat_inj.1
        show _ = 47
        omega
      refine ⟨b.data.toList.drop (a.size + 1), ?_, h, ?_⟩
      · intro e0
        have := congrArg List.length e0
        rw [List.length_drop] at this
        simp at this
        omega
      · conv => lhs; rw [← List.take_append_drop a.size b.data.toList, List.drop_eq_getElem_cons (show a.size < b.data.toList.length by omega), h4]
        rw [ha, h2]
    · rintro (⟨h1, _⟩ | ⟨x, hx, _, hbx⟩)
      · exact absurd h1 h
      · have hl : b.data.toList.length = a.data.toList.length + 1 + x.length := by rw [hbx]; simp; omega
        have hxl : x.length ≠ 0 := by simpa using hx
        have h3 : bt b a.size = 47 := by
          rw [bt_get b a.size (by omega)]
          have : b.data.toList[a.size]? = some 47 := by rw [hbx, List.getElem?_append_right (by omega), ha]; simp
          rw [(List.getElem?_eq_some_iff.1 this).2]
          rfl
        rw [h3, hbx, List.take_left, decide_eq_true (by omega)]
        simp

theorem partOK_ne {s : ByteArray} (h : partOK s = true) : s.data.toList ≠ [] ∧ s.size ≤ 64 := by
  unfold partOK at h
  simp only [Bool.and_eq_true, decide_eq_true_eq] at h
  have := Lib.size_eq s
  refine ⟨fun e => ?_, h.1.1.1.1.2⟩
  rw [e] at this
  have h1 := h.1.1.1.1.1
  simp only [List.length_nil] at this
  omega
theorem isPath_iff (s : ByteArray) : isPath s = true ↔ s.data.toList ≠ [] ∧ s.size ≤ 255 ∧ (∀ x ∈ partsB s, partOK x = true) ∧ (partsB s).length ≤ 16 := by
  unfold isPath
  rw [Lib.toList_data s]
  simp [and_assoc]
/-- What a path's last slash leaves. -/
theorem back {s : ByteArray} (h : isPath s = true) : partOK (nameB s) = true ∧ underB (dirB s) (nameB s) = s ∧ (∃ r, partsB s = r ++ [nameB s]) ∧ withinB (dirB s) s = true ∧ ((dirB s).data.toList ≠ [] → isPath (dirB s) = true) ∧ (dirB s).size ≤ s.size ∧ (nameB s).size ≤ s.size := by
  obtain ⟨h1, h2, h3, h4⟩ := (isPath_iff s).1 h
  have hs := Lib.size_eq s
  have hsd := Lib.size_eq (dirB s)
  have hsn := Lib.size_eq (nameB s)
  rcases dir_name s with ⟨h47, hd, hn⟩ | ⟨hl, h47⟩
  · have hp : partsB s = [s] := by unfold partsB; rw [partsL_one _ h47]; simp
    rw [hp] at h3
    rw [hn, hd]
    refine ⟨h3 s (by simp), ?_, ⟨[], hp⟩, ?_, fun e => absurd rfl e, Nat.zero_le _, Nat.le_refl _⟩
    · unfold underB; rw [if_pos (by rw [Lib.toList_data])]
    · exact (withinB_iff _ _).2 (.inl ⟨rfl, h1⟩)
  · have hp : partsB s = partsB (dirB s) ++ [nameB s] := by
      unfold partsB; rw [hl, partsL_app, partsL_one _ h47]; simp
    rw [hp] at h3 h4
    have hlen := congrArg List.length hl
    rw [List.length_append, List.length_cons] at hlen
    have hne : (dirB s).data.toList ≠ [] := by
      intro e
      have : partOK ⟨#[]⟩ = true := h3 _ (by rw [List.mem_append]; left; unfold partsB; rw [e]; simp [partsL])
      exact absurd this (by decide)
    have hnm := h3 (nameB s) (by simp)
    have hnn := partOK_ne hnm
    have hne' : ¬ (dirB s).toList = [] := by rw [Lib.toList_data]; exact hne
    refine ⟨hnm, ?_, ⟨_, hp⟩, ?_, fun _ => ?_, by omega, by omega⟩
    · apply ba_ext
      rw [under_data _ _ hne', ← hl]
    · exact (withinB_iff _ _).2 (.inr ⟨_, hnn.1, hne, hl⟩)
    · rw [List.length_append] at h4
      exact (isPath_iff _).2 ⟨hne, by omega, fun x hx => h3 x (List.mem_append_left _ hx), by omega⟩
end Go.Proofs.YtfkkbcmbabfipaaDoor.Q

/- SparseAbove: what stands straight in a folder above a path at hand is at hand. -/
namespace Go.Proofs.YtfkkbcmbabfipaaDoor.Q
open Go.RowKit Go.Proofs.YtfkkbcmbabfipaaDoorW.PrintWords Go.Proofs.YtfkkbcmbabfipaaDoorW.PrintLast Go.Proofs.YtfkkbcmbabfipaaDoorW.PrintMore

theorem within_trans {a b c : ByteArray} (ha : a.data.toList ≠ []) (h1 : withinB a b = true) (h2 : withinB b c = true) : withinB a c = true := by
  rcases (withinB_iff a b).1 h1 with ⟨h, _⟩ | ⟨x, hx, _, hb⟩
  · exact absurd h ha
  · rcases (withinB_iff b c).1 h2 with ⟨h, _⟩ | ⟨y, hy, _, hc⟩
    · rw [hb] at h; simp at h
    · exact (withinB_iff a c).2 (.inr ⟨x ++ 47 :: y, by simp, ha, by rw [hc, hb]; simp⟩)
theorem within_dir {d : ByteArray} (h : (dirB d).data.toList ≠ []) (hn : (nameB d).data.toList ≠ []) : withinB (dirB d) d = true := by
  rcases dir_name d with ⟨_, hd, _⟩ | ⟨hl, _⟩
  · rw [hd] at h; simp at h
  · exact (withinB_iff _ _).2 (.inr ⟨_, hn, h, hl⟩)
theorem no_end {s a : ByteArray} (h : isPath s = true) (e : s.data.toList = a.data.toList ++ [47]) : False := by
  have hp := ((isPath_iff s).1 h).2.2.1
  have he : partsB s = partsB a ++ [⟨#[]⟩] := by unfold partsB; rw [e, partsL_app]; simp [partsL]
  have := hp ⟨#[]⟩ (by rw [he]; simp)
  exact absurd this (by decide)
/-- Two paths that hold a third are one, or one holds the other. -/
theorem within_both {a b e : ByteArray} (pa : isPath a = true) (pb : isPath b = true) (h1 : withinB a e = true) (h2 : withinB b e = true) : a.data.toList = b.data.toList ∨ withinB a b = true ∨ withinB b a = true := by
  have ha := isPath_iff' a pa
  have hb := isPath_iff' b pb
  rcases (withinB_iff a e).1 h1 with ⟨h, _⟩ | ⟨x, hx, _, he⟩
  · exact absurd h ha
  rcases (withinB_iff b e).1 h2 with ⟨h, _⟩ | ⟨y, hy, _, he2⟩
  · exact absurd h hb
  rw [he] at he2
  rcases List.append_eq_append_iff.1 he2 with ⟨u, h3, h4⟩ | ⟨u, h3, h4⟩
  · cases u with
    | nil => left; simpa using h3.symm
    | cons z r =>
      simp only [List.cons_append, List.cons.injEq] at h4
      obtain ⟨rfl, h4⟩ := h4
      by_cases hr : r = []
      · subst hr; exact (no_end pb h3).elim
      · exact .inr (.inl ((withinB_iff a b).2 (.inr ⟨r, hr, ha, h3⟩)))
  · cases u with
    | nil => left; simpa using h3
    | cons z r =>
      simp only [List.cons_append, List.cons.injEq] at h4
      obtain ⟨rfl, h4⟩ := h4
      by_cases hr : r = []
      · subst hr; exact (no_end pa h3).elim
      · exact .inr (.inr ((withinB_iff b a).2 (.inr ⟨r, hr, hb, h3⟩)))
/-- A folder above what is at hand: what stands straight in it is at hand. -/
def above (D d : ByteArray) : Prop := d.data.toList = [] ∨ isPath d = true ∧ (d = D ∨ withinB d D = true)
theorem above_dir {D d : ByteArray} (h : above D d) : above D (dirB d) := by
  rcases h with h | ⟨hp, h⟩
  · left
    have hs : d = ⟨#[]⟩ := ba_ext (by rw [h])
    rcases dir_name d with ⟨_, hd, _⟩ | ⟨hl, _⟩
    · rw [hd]
    · rw [h] at hl; simp at hl
  · obtain ⟨b1, b2, b3, b4, b5, b6, b7⟩ := back hp
    by_cases h0 : (dirB d).data.toList = []
    · exact .inl h0
    · refine .inr ⟨b5 h0, .inr ?_⟩
      rcases h with rfl | h
      · exact b4
      · exact within_trans h0 b4 h
theorem dir_less {d : ByteArray} (h : isPath d = true) : (dirB d).size < d.size := by
  obtain ⟨b1, b2, b3, b4, b5, b6, b7⟩ := back h
  have hd := Lib.size_eq d
  have hdd := Lib.size_eq (dirB d)
  rcases (withinB_iff _ _).1 b4 with ⟨h0, h1⟩ | ⟨x, hx, _, he⟩
  · rw [h0] at hdd
    have : d.data.toList.length ≠ 0 := fun e => h1 (List.eq_nil_of_length_eq_zero e)
    simp only [List.length_nil] at hdd
    omega
  · have := congrArg List.length he
    rw [List.length_append, List.length_cons] at this
    omega
theorem inc_above (l : List ByteArray) (p d q : ByteArray) (hc : ∀ c ∈ l, isPath c = true) (hp : incB l p = true) (hd : above (dirB p) d) (hq : isPath q = true) (hqd : dirB q = d) : incB l q = true := by
  unfold incB at hp ⊢
  rw [hq, hqd, Bool.true_and]
  rw [Bool.and_eq_true, Bool.or_eq_true, Bool.or_eq_true] at hp
  obtain ⟨hpp, hp⟩ := hp
  rw [Bool.or_eq_true, Bool.or_eq_true]
  rcases hd with hd | ⟨hdp, hd⟩
  · exact .inr (.inl (by rw [Lib.toList_data, hd]; rfl))
  · rcases hp with hp | hp | hp
    · exact .inl hp
    · -- the path stands at the top: no folder above it but none
      exfalso
      rw [beq_iff_eq, Lib.toList_data] at hp
      rcases hd with rfl | hd
      · exact isPath_iff' _ hdp hp
      · rcases (withinB_iff _ _).1 hd with ⟨h, _⟩ | ⟨x, _, _, he⟩
        · exact isPath_iff' _ hdp h
        · rw [hp] at he; simp at he
    · refine .inr (.inr ?_)
      obtain ⟨c, hcm, hw⟩ := List.any_eq_true.1 hp
      refine List.any_eq_true.2 ⟨c, hcm, ?_⟩
      have hcp := hc c hcm
      rw [Bool.or_eq_true, Bool.or_eq_true, beq_iff_eq] at hw ⊢
      have hdn := isPath_iff' _ hdp
      rcases hd with rfl | hd
      · exact hw
      · rcases hw with hw | hw | hw
        · rw [Lib.toList_data, Lib.toList_data] at hw
          have : c = dirB p := ba_ext hw
          rw [this]; exact .inr (.inr hd)
        · rcases within_both hcp hdp hw hd with h | h | h
          · exact .inl (by rw [Lib.toList_data, Lib.toList_data]; exact h)
          · exact .inr (.inl h)
          · exact .inr (.inr h)
        · exact .inr (.inr (within_trans hdn hd hw))
theorem right_paths {l : List ByteArray} (h : rightB l = true) : ∀ c ∈ l, isPath c = true := by
  intro c hc
  obtain ⟨i, hi, rfl⟩ := List.mem_iff_getElem.1 hc
  have := (((rF_all l l.length 0).1 h).2 i (Nat.zero_le _) (by omega)).1.1
  rw [atB_get l i hi] at this
  exact this
section
variable (l : List ByteArray) (hl : ∀ x ∈ l, x.size ≤ 4294967280) (hn : l.length ≤ 4294967280) (p name : ByteArray) (hp : incB l p = true) (hr : rightB l = true) (hz : name.size ≤ 2000000)
include hl hn hp hr hz
theorem SparseAbove_l0 : ∀ (n : Nat) (d : ByteArray), d.size ≤ n → d.size ≤ 300 → above (dirB p) d → Ev (fun k => graftagelaw33_SparseAbove.l0 k l name d) true := by
  intro n
  induction n with
  | zero =>
    intro d hd h3 hab
    have h0 : d.data.toList = [] := List.eq_nil_of_length_eq_zero (by rw [← Lib.size_eq]; omega)
    refine Ev.step (fun k => by rw [graftagelaw33_SparseAbove.l0, if_pos (by rw [Lib.toList_data]; exact h0)]) ?_
    refine Ev.bind (ref_Is_ev name (by omega)) ?_
    refine ev_ite (fun hq => ?_) (fun _ => liveOr33)
    refine Ev.bind (ref_Dir_ev name (by omega)) ?_
    refine ev_ite (fun h1 => ?_) (fun _ => liveOr33)
    refine Ev.bind (Includes_ev l name (fun x hx => by have := hl x hx; omega) (by omega) (by omega)) ?_
    have hi : incB l name = true := by unfold incB; rw [hq, h1]; simp
    rw [hi]
    simp only [if_true]
    exact liveOr33
  | succ n ih =>
    intro d hd h3 hab
    by_cases h0 : d.toList = []
    · have : d.size = 0 := by rw [Lib.size_eq, ← Lib.toList_data, h0]; rfl
      exact ih d (by omega) h3 hab
    · have hdn : d.data.toList ≠ [] := by rw [← Lib.toList_data]; exact h0
      have hdp : isPath d = true := by
        rcases hab with h | h
        · exact absurd h hdn
        · exact h.1
      have hless := dir_less hdp
      have nxt : Ev (fun k => (graftageref06_Dir.f k d).bind fun t => graftagelaw33_SparseAbove.l0 k l name t) true :=
        Ev.bind (ref_Dir_ev d (by omega)) (ih (dirB d) (by omega) (by omega) (above_dir hab))
      have hus : (underB d name).size = d.size + 1 + name.size := by
        rw [size_data, under_data d name h0, size_data d, size_data name, List.length_append, List.length_cons]; omega
      refine Ev.step (f := fun k => (graftageref06_Is.f k (underB d name)).bind fun t127 => (if t127 = true then ((graftageref06_Dir.f k (underB d name)).bind fun t128 => (if t128.toList = d.toList then ((sparse_Includes.f k l (underB d name)).bind fun t129 => (if t129 = true then ((graftageref06_Dir.f k d).bind fun t130 => (graftagelaw33_SparseAbove.l0 k l name t130)) else (some false))) else ((graftageref06_Dir.f k d).bind fun t131 => (graftagelaw33_SparseAbove.l0 k l name t131)))) else ((graftageref06_Dir.f k d).bind fun t132 => (graftagelaw33_SparseAbove.l0 k l name t132)))) (fun k => by rw [graftagelaw33_SparseAbove.l0, if_neg h0, ref_Under_eq, path_Under_eq d name (by omega)]; rfl) ?_
      refine Ev.bind (ref_Is_ev _ (by omega)) ?_
      refine ev_ite (fun hq => ?_) (fun _ => nxt)
      refine Ev.bind (ref_Dir_ev _ (by omega)) ?_
      refine ev_ite (fun h1 => ?_) (fun _ => nxt)
      refine Ev.bind (Includes_ev l _ (fun x hx => by have := hl x hx; omega) (by omega) (by omega)) ?_
      have hi := inc_above l p d (underB d name) (right_paths hr) hp hab hq (ba_ext (by rw [← Lib.toList_data, ← Lib.toList_data]; exact h1))
      rw [hi]
      simp only [if_true]
      exact nxt
end
theorem SparseAbove_ev (l : List ByteArray) (hl : ∀ x ∈ l, x.size ≤ 4294967280) (hn : l.length ≤ 4294967280) (p name : ByteArray) (hps : p.size ≤ 2000000) (hz : name.size ≤ 2000000) : Ev (fun k => graftagelaw33_SparseAbove.f k l p name) true := by
  have live : Ev (fun k => graftagelaw33_SparseAbove.j0 k l p name true) true := Ev.step (f := fun k => (graftagelaw33_lives.f k).bind fun t => some t) (fun k => by rw [graftagelaw33_SparseAbove.j0, if_pos rfl]) liveOr33
  unfold graftagelaw33_SparseAbove.f
  refine ev_ite (fun _ => live) (fun _ => ev_ite (fun _ => live) (fun h3 => Ev.bind (Valid_ev l hl hn) (ev_ite (fun hr => ?_) (fun _ => live))))
  refine Ev.bind (Includes_ev l p (fun x hx => by have := hl x hx; omega) (by omega) (by omega)) ?_
  cases hp : incB l p with
  | false => exact live
  | true =>
    have hpp : isPath p = true := by unfold incB at hp; rw [Bool.and_eq_true] at hp; exact hp.1
    have hds := dirB_size p
    refine Ev.step (fun k => by rw [graftagelaw33_SparseAbove.j0, if_neg (by simp)]) (Ev.bind (ref_Dir_ev p (by omega)) (SparseAbove_l0 l hl hn p name hp hr hz (dirB p).size (dirB p) (Nat.le_refl _) (by omega) ?_))
    obtain ⟨b1, b2, b3, b4, b5, b6, b7⟩ := back hpp
    by_cases h0 : (dirB p).data.toList = []
    · exact .inl h0
    · exact .inr ⟨b5 h0, .inl rfl⟩
end Go.Proofs.YtfkkbcmbabfipaaDoor.Q

/- SparseAbove, over plain lists and numbers. -/
namespace Go.Proofs.YtfkkbcmbabfipaaDoor.Pure
open Go.Proofs.YtfkkbcmbabfipaaDoor.Q Go.Proofs.YtfkkbcmbabfipaaDoorW.PrintWords

theorem SparseAbove : ∀ (y0 : List (ByteArray)), ∀ (y1 : ByteArray), ∀ (y2 : ByteArray), (∀ y_y0 ∈ y0, True) → True → True → ((y0.map (fun y_y0 => (y_y0.size + 1))).sum + 1) + (y1.size + 1) + (y2.size + 1) ≤ 1048576 → ∃ k, graftagelaw33_SparseAbove.f k y0 y1 y2 = some true :=
  fun y0 y1 y2 _ _ _ h => (SparseAbove_ev y0 (fun x hx => by have := sum_mem y0 hx; omega) (by have := sum_len y0; omega) y1 y2 (by omega) (by omega)).rounds

end Go.Proofs.YtfkkbcmbabfipaaDoor.Pure

/- What a law's argument reads as (numbers, bools, strings, structs, slices, nested) opens into the printed kinds, with the reach's bounds; for the rows of this seat. -/
namespace Go.Proofs.YtfkkbcmbabfipaaDoor.Ro
open Go.RowKit Go.Deep Go.Proofs.YtfkkbcmbabfipaaDoorW.PrintWords

/-- What a reading of type t by the form tells in the words of kind d; S: the bounds. -/
def Opens (P : Program) (t : TypeId) {α : Type} (d : Kd α) (S : α → Prop) : Prop :=
  ∀ {H : Type} (enc : TypeId × Value → H) (w : World) (fuel : Nat) (cs : List Value) (x : DataW H × List MemPlace),
    DataW.trod enc P w 0 (fun _ => true) true fuel t cs = some x → (∀ n ∈ DataW.weights P t x.1, n ≤ reachBytes) → ∃ y : α, d.K w y cs ∧ S y

section
variable {P : Program} {t e : TypeId}

theorem Opens.int {k : IntKind} (ht : P.underlying t = some (.int k)) : Opens P t (Kd.int k) (fun y => (Lit.int k y).wf = true) := by
  intro H enc w fuel cs x h _
  obtain ⟨n, rfl, rfl, hw⟩ := DataW.trod_int ht h
  exact ⟨n, rfl, hw⟩

theorem Opens.bool (ht : P.underlying t = some .bool) : Opens P t Kd.bool (fun _ => True) := by
  intro H enc w fuel cs x h _
  obtain ⟨b, rfl, rfl⟩ := DataW.trod_bool ht h
  exact ⟨b, rfl, trivial⟩

theorem Opens.string (ht : P.underlying t = some .string) : Opens P t Kd.string (fun y => y.size ≤ 140737488351232) := by
  intro H enc w fuel cs x h hn
  obtain ⟨s, rfl, rfl, _⟩ := DataW.trod_string ht h
  refine ⟨s, rfl, ?_⟩
  have := hn s.data.toList.length (by simp [DataW.weights])
  simpa [reachBytes] using this

theorem choose_list {α : Type} {n : Nat} {p : Nat → α → Prop} (h : ∀ i, i < n → ∃ y, p i y) : ∃ l : List α, l.length = n ∧ ∀ i y, l[i]? = some y → p i y := by
  induction n with
  | zero => exact ⟨[], rfl, fun i y hy => by simp at hy⟩
  | succ n ih =>
    obtain ⟨l, hl, hp⟩ := ih (fun i hi => h i (by omega))
    obtain ⟨y, hy⟩ := h n (by omega)
    refine ⟨l ++ [y], by simp [hl], fun i z hz => ?_⟩
    rcases Nat.lt_or_ge i l.length with hi | hi
    · rw [List.getElem?_append_left hi] at hz
      exact hp i z hz
    · rw [List.getElem?_append_right hi] at hz
      have : i - l.length = 0 := by
        have := (List.getElem?_eq_some_iff.1 hz).1
        simpa using this
      rw [this] at hz
      have h1 : i = n := by omega
      subst h1
      have : y = z := by simpa using hz
      subst this
      exact hy

theorem weightsAll_mem {H : Type} {e : TypeId} : ∀ {l : List (DataW H)} {d : DataW H}, d ∈ l → ∀ n ∈ d.weights P e, n ∈ DataW.weightsAll P e l
  | a :: l, d, hd, n, hn => by
    simp only [DataW.weightsAll, List.mem_append]
    rcases List.mem_cons.1 hd with rfl | hd
    · exact .inl hn
    · exact .inr (weightsAll_mem hd n hn)

theorem Opens.slice {α : Type} {d : Kd α} {S : α → Prop} {b : Nat} (ht : P.underlying t = some (.slice e)) (hc : P.cellsOf e = d.sz) (hb : P.bytesOf e = b) (h : Opens P e d S) :
    Opens P t (Kd.slice e d) (fun l => l.length * b ≤ 140737488351232 ∧ ∀ y ∈ l, S y) := by
  intro H enc w fuel cs x hx hn
  rcases open_slice ht hx with ⟨rfl, rfl⟩ | ⟨a, len, cap, m, n, D, Pl, rfl, _, hl, hm, hmm, rfl, hall⟩
  · exact ⟨[], ⟨none, 0, rfl, Nat.le_refl _, rfl, by simp, fun h => absurd h (by simp)⟩, by simp, by simp⟩
  · simp only [if_true] at hmm
    obtain rfl : m = cap := hmm
    have hel : ∀ i, i < len → ∃ y : α, (∃ cs', w.cells? 0 (a.add (i * P.cellsOf e)) (P.cellsOf e) = some cs' ∧ d.K w y cs') ∧ S y := by
      intro i hi
      obtain ⟨cs', h1, h2⟩ := hall i (by omega)
      obtain ⟨y, hy, hs⟩ := h enc w n cs' _ h2 (fun k hk => hn k (by
        simp only [DataW.weights, ht, List.mem_cons, List.mem_append]
        exact .inr (.inl (weightsAll_mem (List.mem_map.2 ⟨i, List.mem_range.2 hi, rfl⟩) k hk))))
      exact ⟨y, ⟨cs', h1, hy⟩, hs⟩
    obtain ⟨l, hll, hp⟩ := choose_list hel
    subst hll
    have hw : (l.length + (m - l.length)) * b ≤ reachBytes := by
      have := hn _ (by simp only [DataW.weights, ht, List.mem_cons]; exact .inl rfl)
      simpa [hb] using this
    refine ⟨l, ⟨some a, m, rfl, hl, rfl, by unfold maxLen at hm; omega, fun _ => ⟨a, rfl, fun j p hj => ?_⟩⟩, ?_, fun y hy => ?_⟩
    · obtain ⟨⟨cs', h1, hk⟩, _⟩ := hp j p hj
      obtain ⟨_, hlen, hcell⟩ := World.cells?_some h1
      refine ⟨cs', by rw [hlen, hc], hk, fun i u hu => ?_⟩
      have hi : i < P.cellsOf e := by
        have := (List.getElem?_eq_some_iff.1 hu).1
        omega
      have := hcell i hi
      rw [Go.Deep.add_add, hu, hc] at this
      exact this
    · have : l.length * b ≤ (l.length + (m - l.length)) * b := Nat.mul_le_mul_right _ (by omega)
      simp only [reachBytes] at hw
      omega
    · obtain ⟨j, hj⟩ := List.mem_iff_getElem?.1 hy
      exact (hp j y hj).2

/-- The fields from one on, in line. -/
def OpensF (P : Program) (fs : List Field) (o : Nat) {α : Type} (d : Kd α) (S : α → Prop) : Prop :=
  ∀ {H : Type} (enc : TypeId × Value → H) (w : World) (n : Nat) (cs : List Value) (ys : List (DataW H × List MemPlace)),
    (∀ (i : Nat) (f : Field), fs[i]? = some f → DataW.trod enc P w 0 (fun _ => true) true n f.type ((cs.drop f.offset).take (P.cellsOf f.type)) = ys[i]?) → ys.length = fs.length →
    (∀ k ∈ DataW.weightsEach P (fs.map (·.type)) (ys.map (·.1)), k ≤ reachBytes) → cs.length = o + d.sz → ∃ y : α, d.K w y (cs.drop o) ∧ S y

theorem OpensF.one {α : Type} {f : Field} {o : Nat} {d : Kd α} {S : α → Prop} (ho : f.offset = o) (hc : P.cellsOf f.type = d.sz) (h : Opens P f.type d S) : OpensF P [f] o d S := by
  intro H enc w n cs ys hf hl hw hlen
  match ys, hl with
  | [y], _ =>
    have h1 := hf 0 f rfl
    rw [ho, hc, List.take_of_length_le (by rw [List.length_drop]; omega)] at h1
    exact h enc w n _ y h1 (fun k hk => hw k (by simp [DataW.weightsEach, hk]))

theorem OpensF.cons {α β : Type} {f : Field} {fs : List Field} {o o' : Nat} {d : Kd α} {d' : Kd β} {S : α → Prop} {S' : β → Prop} (ho : f.offset = o) (hc : P.cellsOf f.type = d.sz) (ho' : o + d.sz = o')
    (h : Opens P f.type d S) (h' : OpensF P fs o' d' S') : OpensF P (f :: fs) o (Kd.pair d d') (fun z => S z.1 ∧ S' z.2) := by
  intro H enc w n cs ys hf hl hw hlen
  match ys, hl with
  | y :: ys, hl =>
    have h1 := hf 0 f rfl
    rw [ho, hc] at h1
    have hlen' : cs.length = o + (d.sz + d'.sz) := hlen
    obtain ⟨a, ha, hs⟩ := h enc w n _ y h1 (fun k hk => hw k (by simp only [List.map_cons, DataW.weightsEach, List.mem_append]; exact .inl hk))
    obtain ⟨b, hb, hs'⟩ := h' enc w n cs ys (fun i g hg => hf (i + 1) g (by simpa using hg)) (by simpa using hl) (fun k hk => hw k (by simp only [List.map_cons, DataW.weightsEach, List.mem_append]; exact .inr hk)) (by omega)
    refine ⟨(a, b), ⟨_, _, ?_, ha, hb⟩, hs, hs'⟩
    rw [← ho', ← List.drop_drop, List.take_append_drop]

theorem Opens.struct {α β : Type} {fs : Array Field} {d : Kd α} {S : α → Prop} {f : β → α} {g : α → β} (ht : P.underlying t = some (.struct fs)) (hc : P.cellsOf t = d.sz) (hfg : ∀ a, f (g a) = a) (h : OpensF P fs.toList 0 d S) :
    Opens P t (Kd.iso d f) (fun y => S (f y)) := by
  intro H enc w fuel cs x hx hn
  obtain ⟨xs, n, _, rfl, hl, hlen, hf⟩ := DataW.trod_struct ht hx
  obtain ⟨a, ha, hs⟩ := h enc w n cs xs (fun i q hq => hf i q (by simpa using hq)) (by simpa using hlen) (fun k hk => hn k (by simpa [DataW.weights, ht] using hk)) (by rw [hl, hc]; omega)
  refine ⟨g a, ?_, by show S (f (g a)); rw [hfg]; exact hs⟩
  show d.K w (f (g a)) cs
  rw [hfg]
  simpa using ha

theorem Opens.imp {α : Type} {d : Kd α} {S S' : α → Prop} (h : Opens P t d S) (hS : ∀ y, S y → S' y) : Opens P t d S' := by
  intro H enc w fuel cs x hx hn
  obtain ⟨y, hy, hs⟩ := h enc w fuel cs x hx hn
  exact ⟨y, hy, hS y hs⟩

/-- An argument: its cells, told. -/
theorem Opens.arg {H : Type} {enc : TypeId × Value → H} {α : Type} {d : Kd α} {S : α → Prop} {w : World} {ts : List TypeId} {ds : List (DataW H)} {j : Nat} {v : Value} {dd : DataW H} {ps : List MemPlace} (h : Opens P t d S)
    (hz : (DataW.weightsEach P ts ds).all (· ≤ reachBytes) = true) (ht : ts[j]? = some t) (hd : ds[j]? = some dd) (hv : DataW.Trod enc P w 0 (fun _ => true) true t v dd ps) : ∃ y : α, d.K w y v.cells.toList ∧ S y := by
  obtain ⟨fuel, hf⟩ := hv
  exact h enc w fuel _ (dd, ps) hf (fun n hn => by simpa using List.all_eq_true.1 hz n (DataW.weights_mem_each ht hd n hn))

theorem arg_lt {H : Type} {enc : TypeId × Value → H} {w : World} {v : Value} {dd : DataW H} {ps : List MemPlace} (hv : DataW.Trod enc P w 0 (fun _ => true) true t v dd ps) : ∀ x ∈ ps, x.block < w.heap.size := by
  obtain ⟨m, hm⟩ := hv
  exact DataW.trod_lt m _ _ _ hm
end
end Go.Proofs.YtfkkbcmbabfipaaDoor.Ro

/- What a law's argument reads as opens into the printed kinds, its bulk bounding what it holds: for the rows of the second form. -/
namespace Go.Proofs.YtfkkbcmbabfipaaDoor.Ro
open Go.RowKit Go.Deep Go.Proofs.YtfkkbcmbabfipaaDoorW.PrintWords

/-- What a reading of type t tells in the words of kind d; S: what holds of it; m: its bulk at the least. -/
def OpensU (P : Program) (t : TypeId) {α : Type} (d : Kd α) (S : α → Prop) (m : α → Nat) : Prop :=
  ∀ {H : Type} (enc : TypeId × Value → H) (w : World) (fuel : Nat) (cs : List Value) (x : DataW H × List MemPlace),
    DataW.trod enc P w 0 (fun _ => true) true fuel t cs = some x → ∃ y : α, d.K w y cs ∧ S y ∧ m y ≤ Rows.uptoBulk x.1
theorem bulk_one {H : Type} (d : DataW H) : 1 ≤ Rows.uptoBulk d := by
  cases d with
  | lit l => cases l <;> simp [Rows.uptoBulk]
  | nil => simp [Rows.uptoBulk]
  | ptr d => simp [Rows.uptoBulk]
  | slice elems spare => simp [Rows.uptoBulk]
  | agg parts => simp [Rows.uptoBulk]
  | iface t d => simp [Rows.uptoBulk]
  | map entries => simp [Rows.uptoBulk]
  | held h => simp [Rows.uptoBulk]
theorem bulk_append {H : Type} (l r : List (DataW H)) : Rows.uptoBulkAll (l ++ r) = Rows.uptoBulkAll l + Rows.uptoBulkAll r := by
  induction l with
  | nil => simp [Rows.uptoBulkAll]
  | cons x l ih => simp only [List.cons_append, Rows.uptoBulkAll, ih]; omega
theorem bulk_range {H : Type} {α : Type} (m : α → Nat) (D : Nat → DataW H) : ∀ (n : Nat) (l : List α), l.length = n → (∀ i y, l[i]? = some y → m y ≤ Rows.uptoBulk (D i)) → (l.map m).sum ≤ Rows.uptoBulkAll ((List.range n).map D) := by
  intro n
  induction n with
  | zero =>
    intro l hl _
    have : l = [] := List.eq_nil_of_length_eq_zero hl
    subst this
    simp
  | succ n ih =>
    intro l hl h
    have hne : l ≠ [] := by intro e; rw [e] at hl; simp at hl
    obtain ⟨r, y, rfl⟩ : ∃ r y, l = r ++ [y] := ⟨l.dropLast, l.getLast hne, (List.dropLast_concat_getLast hne).symm⟩
    have hr : r.length = n := by simpa using hl
    have h1 := ih r hr (fun i z hz => h i z (by rw [List.getElem?_append_left (List.getElem?_eq_some_iff.1 hz).1]; exact hz))
    have h2 := h n y (by rw [List.getElem?_append_right (by omega), hr]; simp)
    rw [List.range_succ]
    simp only [List.map_append, bulk_append, List.sum_append, List.map_cons, List.map_nil, Rows.uptoBulkAll, List.sum_cons, List.sum_nil]
    omega
section
variable {P : Program} {t e : TypeId}
theorem OpensU.int {k : IntKind} (ht : P.underlying t = some (.int k)) : OpensU P t (Kd.int k) (fun y => (Lit.int k y).wf = true) (fun _ => 1) := by
  intro H enc w fuel cs x h
  obtain ⟨n, rfl, rfl, hw⟩ := DataW.trod_int ht h
  exact ⟨n, rfl, hw, bulk_one _⟩
theorem OpensU.bool (ht : P.underlying t = some .bool) : OpensU P t Kd.bool (fun _ => True) (fun _ => 1) := by
  intro H enc w fuel cs x h
  obtain ⟨b, rfl, rfl⟩ := DataW.trod_bool ht h
  exact ⟨b, rfl, trivial, bulk_one _⟩
theorem OpensU.string (ht : P.underlying t = some .string) : OpensU P t Kd.string (fun _ => True) (fun y => y.size + 1) := by
  intro H enc w fuel cs x h
  obtain ⟨s, rfl, rfl, _⟩ := DataW.trod_string ht h
  exact ⟨s, rfl, trivial, by simp [Rows.uptoBulk]⟩
theorem OpensU.slice {α : Type} {d : Kd α} {S : α → Prop} {m : α → Nat} (ht : P.underlying t = some (.slice e)) (hc : P.cellsOf e = d.sz) (h : OpensU P e d S m) :
    OpensU P t (Kd.slice e d) (fun l => ∀ y ∈ l, S y) (fun l => (l.map m).sum + 1) := by
  intro H enc w fuel cs x hx
  rcases open_slice ht hx with ⟨rfl, rfl⟩ | ⟨a, len, cap, mm, n, D, Pl, rfl, _, hl, hm, hmm, rfl, hall⟩
  · exact ⟨[], ⟨none, 0, rfl, Nat.le_refl _, rfl, by simp, fun h => absurd h (by simp)⟩, by simp, bulk_one _⟩
  · simp only [if_true] at hmm
    obtain rfl : mm = cap := hmm
    have hel : ∀ i, i < len → ∃ y : α, (∃ cs', w.cells? 0 (a.add (i * P.cellsOf e)) (P.cellsOf e) = some cs' ∧ d.K w y cs') ∧ S y ∧ m y ≤ Rows.uptoBulk (D i) := by
      intro i hi
      obtain ⟨cs', h1, h2⟩ := hall i (by omega)
      obtain ⟨y, hy, hs, hb⟩ := h enc w n cs' _ h2
      exact ⟨y, ⟨cs', h1, hy⟩, hs, hb⟩
    obtain ⟨l, hll, hp⟩ := choose_list hel
    subst hll
    refine ⟨l, ⟨some a, mm, rfl, hl, rfl, by unfold maxLen at hm; omega, fun _ => ⟨a, rfl, fun j p hj => ?_⟩⟩, fun y hy => ?_, ?_⟩
    · obtain ⟨⟨cs', h1, hk⟩, _⟩ := hp j p hj
      obtain ⟨_, hlen, hcell⟩ := World.cells?_some h1
      refine ⟨cs', by rw [hlen, hc], hk, fun i u hu => ?_⟩
      have hi : i < P.cellsOf e := by
        have := (List.getElem?_eq_some_iff.1 hu).1
        omega
      have := hcell i hi
      rw [Go.Deep.add_add, hu, hc] at this
      exact this
    · obtain ⟨j, hj⟩ := List.mem_iff_getElem?.1 hy
      exact (hp j y hj).2.1
    · have := bulk_range m D l.length l rfl (fun i y hy => (hp i y hy).2.2)
      simp only [Rows.uptoBulk]
      omega
/-- The fields from one on, in line. -/
def OpensUF (P : Program) (fs : List Field) (o : Nat) {α : Type} (d : Kd α) (S : α → Prop) (m : α → Nat) : Prop :=
  ∀ {H : Type} (enc : TypeId × Value → H) (w : World) (n : Nat) (cs : List Value) (ys : List (DataW H × List MemPlace)),
    (∀ (i : Nat) (f : Field), fs[i]? = some f → DataW.trod enc P w 0 (fun _ => true) true n f.type ((cs.drop f.offset).take (P.cellsOf f.type)) = ys[i]?) → ys.length = fs.length →
    cs.length = o + d.sz → ∃ y : α, d.K w y (cs.drop o) ∧ S y ∧ m y ≤ Rows.uptoBulkAll (ys.map (·.1))
theorem OpensUF.one {α : Type} {f : Field} {o : Nat} {d : Kd α} {S : α → Prop} {m : α → Nat} (ho : f.offset = o) (hc : P.cellsOf f.type = d.sz) (h : OpensU P f.type d S m) : OpensUF P [f] o d S m := by
  intro H enc w n cs ys hf hl hlen
  match ys, hl with
  | [y], _ =>
    have h1 := hf 0 f rfl
    rw [ho, hc, List.take_of_length_le (by rw [List.length_drop]; omega)] at h1
    obtain ⟨z, hz, hs, hb⟩ := h enc w n _ y h1
    exact ⟨z, hz, hs, by simp only [List.map_cons, List.map_nil, Rows.uptoBulkAll]; omega⟩
theorem OpensUF.cons {α β : Type} {f : Field} {fs : List Field} {o o' : Nat} {d : Kd α} {d' : Kd β} {S : α → Prop} {S' : β → Prop} {m : α → Nat} {m' : β → Nat} (ho : f.offset = o) (hc : P.cellsOf f.type = d.sz) (ho' : o + d.sz = o')
    (h : OpensU P f.type d S m) (h' : OpensUF P fs o' d' S' m') : OpensUF P (f :: fs) o (Kd.pair d d') (fun z => S z.1 ∧ S' z.2) (fun z => m z.1 + m' z.2) := by
  intro H enc w n cs ys hf hl hlen
  match ys, hl with
  | y :: ys, hl =>
    have h1 := hf 0 f rfl
    rw [ho, hc] at h1
    have hlen' : cs.length = o + (d.sz + d'.sz) := hlen
    obtain ⟨a, ha, hs, hb⟩ := h enc w n _ y h1
    obtain ⟨b, hb', hs', hbb⟩ := h' enc w n cs ys (fun i g hg => hf (i + 1) g (by simpa using hg)) (by simpa using hl) (by omega)
    refine ⟨(a, b), ⟨_, _, ?_, ha, hb'⟩, ⟨hs, hs'⟩, by simp only [List.map_cons, Rows.uptoBulkAll]; omega⟩
    rw [← ho', ← List.drop_drop, List.take_append_drop]
theorem OpensU.struct {α β : Type} {fs : Array Field} {d : Kd α} {S : α → Prop} {m : α → Nat} {f : β → α} {g : α → β} (ht : P.underlying t = some (.struct fs)) (hc : P.cellsOf t = d.sz) (hfg : ∀ a, f (g a) = a) (h : OpensUF P fs.toList 0 d S m) :
    OpensU P t (Kd.iso d f) (fun y => S (f y)) (fun y => m (f y) + 1) := by
  intro H enc w fuel cs x hx
  obtain ⟨xs, n, _, rfl, hl, hlen, hf⟩ := DataW.trod_struct ht hx
  obtain ⟨a, ha, hs, hb⟩ := h enc w n cs xs (fun i q hq => hf i q (by simpa using hq)) (by simpa using hlen) (by rw [hl, hc]; omega)
  refine ⟨g a, ?_, by show S (f (g a)); rw [hfg]; exact hs, ?_⟩
  · show d.K w (f (g a)) cs
    rw [hfg]
    simpa using ha
  · show m (f (g a)) + 1 ≤ _
    rw [hfg]
    simp only [Rows.uptoBulk]
    omega
/-- An argument: its cells, told. -/
theorem OpensU.arg {H : Type} {enc : TypeId × Value → H} {α : Type} {d : Kd α} {S : α → Prop} {m : α → Nat} {w : World} {v : Value} {dd : DataW H} {ps : List MemPlace} (h : OpensU P t d S m)
    (hv : DataW.Trod enc P w 0 (fun _ => true) true t v dd ps) : ∃ y : α, d.K w y v.cells.toList ∧ S y ∧ m y ≤ Rows.uptoBulk dd := by
  obtain ⟨fuel, hf⟩ := hv
  exact h enc w fuel _ (dd, ps) hf
end
end Go.Proofs.YtfkkbcmbabfipaaDoor.Ro

/- The law SparseAbove holds: for every input it returns true, and each argument reads afterwards as it read before. -/
namespace Go.Proofs.YtfkkbcmbabfipaaDoor.sparseAbove
open Go.ChangeShapes Go.WideShapes Go.ChangeAt Go.RowKit Go.Proofs.YtfkkbcmbabfipaaDoor.Ro Go.Proofs.YtfkkbcmbabfipaaDoor.Q Go.Proofs.YtfkkbcmbabfipaaDoorW.PrintWords
open Go.ChangeMaps (open_string shut_string)
theorem own : ownKnob Tryd.prog.godebug = none := by kernel_rfl
theorem laidOut : laidOutB Tryd.prog = true := by kernel_rfl
theorem opens9 : OpensU Tryd.prog 9 Kd.string (fun y => True) (fun y => (y.size + 1)) := (OpensU.string Tryd.underlying9)
theorem opens22 : OpensU Tryd.prog 22 (Kd.slice 9 Kd.string) (fun y => (∀ y_y ∈ y, True)) (fun y => ((y.map (fun y_y => (y_y.size + 1))).sum + 1)) := (OpensU.slice Tryd.underlying22 (by kernel_rfl) (OpensU.string Tryd.underlying9))
theorem reads (os : Os) {H : Type} (enc : TypeId × Value → H) : ∃ places, DataW.whole enc Tryd.prog ((World.laidAll Tryd.prog os Rows.sparseAboveUptoRow.laid).forCall (fun _ _ => 0) ⟨#[], #[.slice none 0 0, .string ByteArray.empty, .string ByteArray.empty], []⟩).memory Tryd.f9.params.toList Rows.sparseAboveSpec.vars false (#[.slice none 0 0, .string ByteArray.empty, .string ByteArray.empty] : Array Value).toList 8 = some ([.nil, .lit (.string []), .lit (.string [])], [], places) := ⟨[], by kernel_rfl⟩
set_option maxRecDepth 100000 in
theorem lifted (os : Os) (started : os.Started) (H : Type) (enc : TypeId × Value → H) (F : Stop.Interp) :
    ReturnsInHanded {} Tryd.checked os 9 .any ((Rows.OpenSpec.upto Rows.sparseAboveSpec).preRow enc Tryd.prog Tryd.f9 Rows.sparseAboveUptoRow.domain false Rows.sparseAboveUptoRow.laid) (((Rows.OpenSpec.upto Rows.sparseAboveSpec).at F).post enc Tryd.prog Tryd.f9 false true false false) := by
  obtain ⟨places, hx⟩ := reads os enc
  refine returnsInHanded_of_row (C := Tryd.checked) (s := (Rows.OpenSpec.upto Rows.sparseAboveSpec)) own started (by kernel_rfl) Tryd.func9
    (witness_row_at (enc := enc) (C := Tryd.checked) false (World.laidAll Tryd.prog os Rows.sparseAboveUptoRow.laid) #[.slice none 0 0, .string ByteArray.empty, .string ByteArray.empty] (World.laidAll_os _ _ _) (by kernel_rfl) (by kernel_rfl) (by kernel_rfl)
      (OpenSpec.preRow_of_cond 8 hx (by kernel_rfl) (fun k hk => by cases hk; kernel_rfl) (by kernel_rfl) (by rw [MakeChecks.laidMetH_plain _ _ _ (by kernel_rfl)]; exact laidMet_laidAll _ (by kernel_rfl) (by kernel_rfl)))) ?_
  intro W base args ds gs before hval0 hW _ hcond _ hL _ _
  have hbulk : Rows.uptoBulkAll (ds ++ gs) ≤ 1048576 := of_decide_eq_true (hcond _ rfl)
  have hval : ∀ (j : Nat) t v, Tryd.f9.params[j]? = some t → args[j]? = some v → Value.okWide Tryd.prog W .any base t v := hval0
  have hW' := hW
  obtain ⟨p, q, hA0, hV, rfl, hfz, hnd⟩ := hW
  have hA : DataW.TrodAll enc Tryd.prog W 0 (fun _ => true) true Tryd.f9.params.toList args.toList ds p := hA0
  rw [Tryd.params9] at hA hval
  obtain ⟨v0, vs0, d0, ds0, p0, q0, hargs, rfl, rfl, h0, r0⟩ := trodAll_cons hA
  obtain ⟨v1, vs1, d1, ds1, p1, q1, rfl, rfl, rfl, h1, r1⟩ := trodAll_cons r0
  obtain ⟨v2, vs2, d2, ds2, p2, q2, rfl, rfl, rfl, h2, r2⟩ := trodAll_cons r1
  obtain ⟨rfl, rfl, rfl⟩ := trodAll_nil r2
  obtain rfl : args = #[v0, v1, v2] := by cases args; simp_all
  obtain ⟨rfl, rfl⟩ := trodVars_none hV
  have lt0 := arg_lt h0
  obtain ⟨y0, hk0, w0, b0⟩ := opens22.arg h0
  obtain ⟨a0, len0, cap0, rfl⟩ := okWide_slice Tryd.underlying22 (hval 0 22 v0 rfl rfl)
  obtain ⟨A0, c0, e0, hl0, hr0⟩ := hk0
  obtain ⟨rfl, rfl, rfl⟩ : a0 = A0 ∧ len0 = y0.length ∧ cap0 = c0 := by simpa [Value.cells] using e0
  have lt1 := arg_lt h1
  obtain ⟨y1, hk1, w1, b1⟩ := opens9.arg h1
  obtain ⟨x1, rfl⟩ := okWide_string Tryd.underlying9 (hval 1 9 v1 rfl rfl)
  obtain rfl : x1 = y1 := by simpa [Kd.string, Kd.scalar, Value.cells] using hk1
  have lt2 := arg_lt h2
  obtain ⟨y2, hk2, w2, b2⟩ := opens9.arg h2
  obtain ⟨x2, rfl⟩ := okWide_string Tryd.underlying9 (hval 2 9 v2 rfl rfl)
  obtain rfl : x2 = y2 := by simpa [Kd.string, Kd.scalar, Value.cells] using hk2
  simp only [Rows.uptoBulkAll, List.append_nil, List.nil_append, List.cons_append] at hbulk
  have hsum : ((y0.map (fun y_y0 => (y_y0.size + 1))).sum + 1) + (x1.size + 1) + (x2.size + 1) ≤ 1048576 := by first | omega | (dsimp only at *; omega)
  obtain ⟨k, hp⟩ := Pure.SparseAbove _ _ _ w0 w1 w2 hsum
  clear hA0 hval0
  refine (Q.graftagelaw33_SparseAbove.calls k _ _ y0 _ _ true W hr0 hl0 hp).mono ?_
  rintro e W' ⟨rfl, bel0⟩
  have bel : Below W.heap.size W W' := bel0
  exact ⟨_, rfl, _, _, _, [], _, [], hW', trodAll_mk1 (shut_bool Tryd.underlying4 _), (trodAll_cons_mk (Below.trod laidOut (by kernel_rfl) (of_decide_eq_true (by kernel_rfl)) h0 bel lt0) (trodAll_cons_mk (Below.trod laidOut (by kernel_rfl) (of_decide_eq_true (by kernel_rfl)) h1 bel lt1) (trodAll_cons_mk (Below.trod laidOut (by kernel_rfl) (of_decide_eq_true (by kernel_rfl)) h2 bel lt2) trodAll_mk0))), rfl, bel.frame _, fun h => by cases h⟩
theorem over : Rows.sparseAboveUptoRow.holds Tryd.pinned (Rows.OpenSpec.upto Rows.sparseAboveSpec) :=
  OpenClaim.holds_of_cond 9 Tryd.f9 rfl rfl rfl rfl rfl rfl rfl ⟨rfl, rfl, rfl, rfl, rfl⟩ rfl rfl rfl rfl rfl (by kernel_rfl) Tryd.func9 (by kernel_rfl)
    (of_decide_eq_true (by kernel_rfl)) (by unfold Func.isWrapper; first | (rw [if_pos (by decide +kernel)]; kernel_rfl) | (rw [if_neg (by decide +kernel)]; exact ⟨rfl, rfl⟩))
    (fun os started H enc _ F => by rw [OpenClaim.pre_eq_preRow]; exact lifted os started H enc F)
theorem proved : Rows.SparseAboveUptoSaid := over
theorem card_holds : Rows.SparseAboveUptoCardSaid :=
  Claim7.holds_tied_plain_at .later [] [.data, .pinned] true (true, "ee9f5152e3bf1d4477e5b03ff39066a230a9e22607e6aac393ddaf4034755f7a") false over (fun _ h => by cases h) (by kernel_rfl) (fun _ h => by cases h) sparseAboveUpto_row_tie rfl ⟨rfl, rfl⟩ (by kernel_rfl) rfl
    (fun f fn hf hfn => by
      obtain rfl : f = 9 := Option.some.inj ((show Tryd.prog.funcNamed "graftage/graftagelaw33.SparseAbove" = some 9 by kernel_rfl).symm.trans hf) |>.symm
      obtain rfl : fn = Tryd.f9 := (Option.some.inj (Tryd.func9.symm.trans hfn)).symm
      exact ⟨by kernel_rfl, fun j t ht => by
        rw [Tryd.params9] at ht
        have hm : t ∈ [22, 9, 9] := by simpa using Array.mem_of_getElem? ht
        have hall : ([22, 9, 9].all fun u => !Tryd.prog.wantsStandIn u) = true := by kernel_rfl
        exact (show Tryd.prog.wantsStandIn t = false by simpa using List.all_eq_true.1 hall t hm)⟩)
    (by kernel_rfl)
#print axioms card_holds
end Go.Proofs.YtfkkbcmbabfipaaDoor.sparseAbove
namespace Go.Proofs.YtfkkbcmbabfipaaDoor
/-- The statement, under a short name, for the claim. -/
theorem sparseAbove_holds : Rows.SparseAboveUptoCardSaid := sparseAbove.card_holds
end Go.Proofs.YtfkkbcmbabfipaaDoor

