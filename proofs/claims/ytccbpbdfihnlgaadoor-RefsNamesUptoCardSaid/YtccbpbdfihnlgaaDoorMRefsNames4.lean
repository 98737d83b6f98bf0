/- The law RefsNames holds: for every input it returns true, and each argument reads afterwards as it read before. -/
import Derived.Test.YtccbpbdfihnlgaaDoorMYRefsNames1
import Derived.Test.YtccbpbdfihnlgaaDoorMRefsNames1
import Derived.Test.YtccbpbdfihnlgaaDoorMRefsNames2
import Derived.Test.YtccbpbdfihnlgaaDoorMRefsNames3
import Derived.Laws.Cover1
import Derived.Shelf.Strings.BuilderK
import Derived.Lib.AppendZerosOnto
import Derived.Lib.Overlaps
import Derived.Lib.SliceRun
import Derived.Maps.AppendAt
import Derived.Deep.AppendSrc
import Derived.Laws.CopyRow
import Derived.Laws.MakeOwn
import Derived.Lib.AppendStr
set_option linter.unusedVariables false
set_option linter.unusedSimpArgs false
/- Contracts of Go functions as calls of plain Lean functions, written by a program of this session over the kit's print. -/
namespace Go.Proofs.YtccbpbdfihnlgaaDoor.Q
open Go.RowKit Go.Proofs.YtccbpbdfihnlgaaDoorW.PrintWords Go.Proofs.YtccbpbdfihnlgaaDoorW.PrintLast Go.Proofs.YtccbpbdfihnlgaaDoorW.PrintMore
attribute [local go_sem] max2_int min2_int max_two min_two max_three min_three max_four min_four   -- for this text's walks alone

/-! ### refs_line: function 90 -/
mutual
def refs_line.j0 : Nat → ByteArray → Int → Bool → Option (ByteArray × ByteArray × ByteArray × Bool)
  | 0, _, _, _ => none
  | k + 1, x0, x4, x25 => if x25 = true then (some ((⟨#[]⟩ : ByteArray), (⟨#[]⟩ : ByteArray), (⟨#[]⟩ : ByteArray), false)) else (if 0 ≤ (wrap64 (x4 + 1)) then (if (wrap64 (x4 + 1)) ≤ (x0.size : Int) then (if 0 ≤ x4 then (if x4 ≤ (x0.size : Int) then ((strings_CutPrefix.f (x0.extract 0 (x4 : Int).toNat) (⟨#[64]⟩ : ByteArray)).bind fun bt105 => (if bt105.2 = true then (refs_line.j1 k (x0.extract 0 (x4 : Int).toNat) bt105.1 (bt105.1.toList != ([] : List UInt8)) (x0.extract ((wrap64 (x4 + 1)) : Int).toNat x0.size) (⟨#[]⟩ : ByteArray) (⟨#[]⟩ : ByteArray)) else (refs_line.j1 k (x0.extract 0 (x4 : Int).toNat) bt105.1 false (x0.extract ((wrap64 (x4 + 1)) : Int).toNat x0.size) (⟨#[]⟩ : ByteArray) (⟨#[]⟩ : ByteArray)))) else (none)) else (none)) else (none)) else (none))
def refs_line.j1 : Nat → ByteArray → ByteArray → Bool → ByteArray → ByteArray → ByteArray → Option (ByteArray × ByteArray × ByteArray × Bool)
  | 0, _, _, _, _, _, _ => none
  | k + 1, x6, x7, x41, x105000, x105001, x105002 => if x41 = true then (some (x105000, x105001, x7, true)) else ((ident_Is.f k x6).bind fun t107 => (if t107 = true then (some (x105000, x6, x105002, true)) else (some ((⟨#[]⟩ : ByteArray), (⟨#[]⟩ : ByteArray), (⟨#[]⟩ : ByteArray), false))))
end
def refs_line.f (k : Nat) (a0 : ByteArray) : Option (ByteArray × ByteArray × ByteArray × Bool) := (strings_IndexByte.f a0 32).bind fun t102 => (if t102 < 0 then (refs_line.j0 k a0 t102 true) else (if t102 = (wrap64 ((a0.size : Int) - 1)) then (refs_line.j0 k a0 t102 true) else ((strings_LastIndexByte.f k a0 32).bind fun t103 => (refs_line.j0 k a0 t102 (t103 != t102)))))
theorem refs_line.mono_l : ∀ k, (∀ y0 y1 y2, LeO (refs_line.j0 k y0 y1 y2) (refs_line.j0 (k + 1) y0 y1 y2)) ∧ (∀ y0 y1 y2 y3 y4 y5, LeO (refs_line.j1 k y0 y1 y2 y3 y4 y5) (refs_line.j1 (k + 1) y0 y1 y2 y3 y4 y5))
  | 0 => ⟨fun _ _ _ r h => by simp [refs_line.j0] at h, fun _ _ _ _ _ _ r h => by simp [refs_line.j1] at h⟩
  | k + 1 => by
    obtain ⟨ih0, ih1⟩ := refs_line.mono_l k
    refine ⟨?_, ?_⟩
    · intro y0 y1 y2
      unfold refs_line.j0
      repeat' first
      | (with_reducible exact ih0 _ _ _)
      | (with_reducible exact ih1 _ _ _ _ _ _)
      | (with_reducible exact ident_Is.mono _ _)
      | (with_reducible exact strings_LastIndexByte.mono _ _ _)
      | (with_reducible exact LeO.refl _)
      | (with_reducible exact LeO.none _)
      | (with_reducible refine LeO.ite ?_ ?_)
      | (with_reducible refine LeO.bind ?_ (fun _ => ?_))
      | exact ih0 _ _ _
      | exact ih1 _ _ _ _ _ _
      | exact ident_Is.mono _ _
      | exact strings_LastIndexByte.mono _ _ _
      | exact LeO.none _
      | refine LeO.ite ?_ ?_
      | refine LeO.bind ?_ (fun _ => ?_)
    · intro y0 y1 y2 y3 y4 y5
      unfold refs_line.j1
      repeat' first
      | (with_reducible exact ih0 _ _ _)
      | (with_reducible exact ih1 _ _ _ _ _ _)
      | (with_reducible exact ident_Is.mono _ _)
      | (with_reducible exact strings_LastIndexByte.mono _ _ _)
      | (with_reducible exact LeO.refl _)
      | (with_reducible exact LeO.none _)
      | (with_reducible refine LeO.ite ?_ ?_)
      | (with_reducible refine LeO.bind ?_ (fun _ => ?_))
      | exact ih0 _ _ _
      | exact ih1 _ _ _ _ _ _
      | exact ident_Is.mono _ _
      | exact strings_LastIndexByte.mono _ _ _
      | exact LeO.none _
      | refine LeO.ite ?_ ?_
      | refine LeO.bind ?_ (fun _ => ?_)
theorem refs_line.mono : ∀ a0 k, LeO (refs_line.f k a0) (refs_line.f (k + 1) a0) := by
  intro a0 k
  obtain ⟨ih0, ih1⟩ := refs_line.mono_l k
  unfold refs_line.f
  repeat' first
      | (with_reducible exact ih0 _ _ _)
      | (with_reducible exact ih1 _ _ _ _ _ _)
      | (with_reducible exact ident_Is.mono _ _)
      | (with_reducible exact strings_LastIndexByte.mono _ _ _)
      | (with_reducible exact LeO.refl _)
      | (with_reducible exact LeO.none _)
      | (with_reducible refine LeO.ite ?_ ?_)
      | (with_reducible refine LeO.bind ?_ (fun _ => ?_))
      | exact ih0 _ _ _
      | exact ih1 _ _ _ _ _ _
      | exact ident_Is.mono _ _
      | exact strings_LastIndexByte.mono _ _ _
      | exact LeO.none _
      | refine LeO.ite ?_ ?_
      | refine LeO.bind ?_ (fun _ => ?_)
set_option maxHeartbeats 8000000 in
set_option maxRecDepth 100000 in
theorem refs_line.calls (k : Nat) (a0 : ByteArray) (r1 : ByteArray) (r2 : ByteArray) (r3 : ByteArray) (r4 : Bool) (w : World) (h : refs_line.f k a0 = some (r1, r2, r3, r4)) :
    Calls Tryd.prog 90 #[.string a0] w fun e w' => e = .returned (.tuple #[.agg #[.string r1, .string r2, .string r3], .bool r4]) ∧ Below w.heap.size w w' := by
  have hu55 := Tryd.underlying55
  have HB := Aside0.mk (Below.refl w.heap.size w)
  have H : ((strings_IndexByte.f a0 32).bind fun t102 => (if t102 < 0 then (refs_line.j0 k a0 t102 true) else (if t102 = (wrap64 ((a0.size : Int) - 1)) then (refs_line.j0 k a0 t102 true) else ((strings_LastIndexByte.f k a0 32).bind fun t103 => (refs_line.j0 k a0 t102 (t103 != t102)))))) = some (r1, r2, r3, r4) := h
  clear h
  replace H := Option.bind_eq_some_iff.mp H
  obtain ⟨t102, A20, H⟩ := H
  replace H : (if t102 < 0 then (refs_line.j0 k a0 t102 true) else (if t102 = (wrap64 ((a0.size : Int) - 1)) then (refs_line.j0 k a0 t102 true) else ((strings_LastIndexByte.f k a0 32).bind fun t103 => (refs_line.j0 k a0 t102 (t103 != t102))))) = some (r1, r2, r3, r4) := H
  have A2 := Aside0.mk A20
  clear A20
  have HC3 := Aside0.mk H
  clear H
  go_enter Tryd.func90, Tryd.ntmps90
  go_upto_region 2 with (first | ((with_reducible refine gate_dst (N := 2) rfl ?_); (try (refine gate_guard (by rfl) ?_; dsimp only)); refine box_event ?hg (N := 2) ?hd (cs := #[.string (⟨#[]⟩ : ByteArray), .string (⟨#[]⟩ : ByteArray), .string (⟨#[]⟩ : ByteArray)]) (t := 55) ?hr ?_; (case hd => rfl); (case hg => rfl); (case hr => first | (go_simp; done) | (go_simp; rfl)); intro gb101 hg w4 hbox hb; have n0_ := Aside0.mk (below_step (by repeat (first | (with_reducible first | exact HB.out | apply below_alloc | apply pw_below_drewN | apply below_drew1) | exact HB.out)) hb); have n1_ := Aside0.mk (hbox); have n2_ := Aside0.mk ((by rw [hg]; exact (below_size (by repeat (first | (with_reducible first | exact HB.out | apply below_alloc | apply pw_below_drewN | apply below_drew1) | exact HB.out))) : w.heap.size ≤ gb101)); have n3_ := Aside0.mk ((by rw [hg]; exact (below_size (by repeat (first | (with_reducible first | exact HB.out | apply below_alloc | apply pw_below_drewN | apply below_drew1) | exact HB.out))) : w.heap.size ≤ gb101)); clear HB; have HB := n0_; have BK101 := n1_; have GW101 := n2_; have GE101 := n3_; clear n0_ n1_ n2_ n3_; clear hb hbox hg) | ((with_reducible refine gate_callee (f := 125) rfl ?_); refine goesL_ (some 10) rfl rfl Tryd.func125 (by kernel_rfl) rfl #[.string a0, .int .u8 32] rfl (by (try simp only [List.map_toArray, List.map_cons, List.map_nil]); first | done | rfl | (simp only [List.length_drop, List.length_take]; rfl)) ?_; (with_reducible refine (strings_IndexByte.calls a0 32 t102 _ A2.out).mono ?_); rintro e w' ⟨rfl, ⟨nd, rfl⟩⟩; refine ⟨_, rfl, ?_⟩))
  (try simp only [Act.put, List.setIfInBounds_toArray, List.set_cons_zero, List.set_cons_succ])
  go_cut [25] (fun v25 wc => ∃ (kq : Nat) (x25_2 : Bool), v25 = .bool x25_2 ∧ Aside0 (refs_line.j0 kq a0 t102 x25_2 = some (r1, r2, r3, r4)) ∧ Aside0 (kq ≤ k) ∧ Aside0 (wc.heap[gb101]? = some (.cells #[.string (⟨#[]⟩ : ByteArray), .string (⟨#[]⟩ : ByteArray), .string (⟨#[]⟩ : ByteArray)] 55 (0, 0))) ∧ Aside0 (Below w.heap.size w wc))
  case first =>
    have H := HC3.out
    clear HC3
    by_cases c5 : t102 < 0
    · rw [if_pos c5] at H
      have c5b0 : decide (t102 < 0) = true := decide_eq_true c5
      clear c5
      (first | rw [c5b0] | (simp only [i64_w, i32_w]; rw [c5b0]) | skip)
      have H' := Aside0.mk H
      clear H
      go_wp2
      go_meet
      case rel => exact ⟨_, (true), (by first | rfl | (simp; done) | (simp [*]; done) | (simp [ne_nil_bool]; done) | (simp [*, ne_nil_bool]; done)), H', ⟨by first | omega | exact Nat.le_refl _⟩, ⟨by (with_reducible repeat (first | refine blk_drewN ?_ _ | refine blk_drew ?_ | refine blk_alloc ?_ _)); exact BK101.out⟩, ⟨by repeat (first | (with_reducible first | exact HB.out | apply below_alloc | apply pw_below_drewN | apply below_drew1 | refine below_set ?_ GE101.out) | exact HB.out)⟩⟩
    · rw [if_neg c5] at H
      have c5b0 : decide (t102 < 0) = false := decide_eq_false c5
      clear c5
      (first | rw [c5b0] | (simp only [i64_w, i32_w]; rw [c5b0]) | skip)
      by_cases c6 : t102 = (wrap64 ((a0.size : Int) - 1))
      · rw [if_pos c6] at H
        have c6b0 : (t102 == (wrap64 ((a0.size : Int) - 1))) = true := beq_iff_eq.mpr c6
        have c6b1 : (t102 != (wrap64 ((a0.size : Int) - 1))) = false := bne_eq_false_iff_eq.mpr c6
        clear c6
        have H' := Aside0.mk H
        clear H
        go_wp2
        go_meet
        case rel => exact ⟨_, (true), (by first | rfl | (simp; done) | (simp [*]; done) | (simp [ne_nil_bool]; done) | (simp [*, ne_nil_bool]; done)), H', ⟨by first | omega | exact Nat.le_refl _⟩, ⟨by (with_reducible repeat (first | refine blk_drewN ?_ _ | refine blk_drew ?_ | refine blk_alloc ?_ _)); exact BK101.out⟩, ⟨by repeat (first | (with_reducible first | exact HB.out | apply below_alloc | apply pw_below_drewN | apply below_drew1 | refine below_set ?_ GE101.out) | exact HB.out)⟩⟩
      · rw [if_neg c6] at H
        have c6b0 : (t102 == (wrap64 ((a0.size : Int) - 1))) = false := beq_eq_false_iff_ne.mpr c6
        have c6b1 : (t102 != (wrap64 ((a0.size : Int) - 1))) = true := bne_iff_ne.mpr c6
        replace H := Option.bind_eq_some_iff.mp H
        obtain ⟨t103, A70, H⟩ := H
        replace H : (refs_line.j0 k a0 t102 (t103 != t102)) = some (r1, r2, r3, r4) := H
        have A7 := Aside0.mk A70
        clear A70
        have H' := Aside0.mk H
        clear H
        go_wp2_with (first | (go_at_call 126; (with_reducible refine (strings_LastIndexByte.calls k a0 32 t103 _ A7.out).mono ?_); rintro e w' ⟨rfl, ⟨nd, rfl⟩⟩))
        go_meet
        case rel => exact ⟨_, ((t103 != t102)), (by first | rfl | (simp; done) | (simp [*]; done) | (simp [ne_nil_bool]; done) | (simp [*, ne_nil_bool]; done)), H', ⟨by first | omega | exact Nat.le_refl _⟩, ⟨by (with_reducible repeat (first | refine blk_drewN ?_ _ | refine blk_drew ?_ | refine blk_alloc ?_ _)); exact BK101.out⟩, ⟨by repeat (first | (with_reducible first | exact HB.out | apply below_alloc | apply pw_below_drewN | apply below_drew1 | refine below_set ?_ GE101.out) | exact HB.out)⟩⟩
  case rest =>
    clear HC3
    try clear c1
    try clear p2
    try clear c5
    try clear c5b0
    try clear c6
    try clear c6b0
    try clear c6b1
    try clear p6
    obtain ⟨kq, x25_2, rfl, HA, HJ2, BK101, HB⟩ := hcut
    cases kq with
    | zero => exact absurd HA.out (by simp [refs_line.j0])
    | succ kj2 =>
      have H := HA.out
      clear HA
      simp only [refs_line.j0] at H
      by_cases c8 : x25_2 = true
      · subst c8
        have H1 : (some ((⟨#[]⟩ : ByteArray), (⟨#[]⟩ : ByteArray), (⟨#[]⟩ : ByteArray), false)) = some (r1, r2, r3, r4) := by rw [if_pos rfl] at H; exact H
        clear H
        have H := H1
        clear H1
        simp only [Option.some.injEq, Prod.mk.injEq] at H
        obtain ⟨rfl, rfl, rfl, rfl⟩ := H
        have hcz9_0 : wc.cell? ⟨gb101, 0, none⟩ = some (.string (⟨#[]⟩ : ByteArray)) := (blk_cell BK101.out 0).trans rfl
        have hcz9_1 : wc.cell? ⟨gb101, 1, none⟩ = some (.string (⟨#[]⟩ : ByteArray)) := (blk_cell BK101.out 1).trans rfl
        have hcz9_2 : wc.cell? ⟨gb101, 2, none⟩ = some (.string (⟨#[]⟩ : ByteArray)) := (blk_cell BK101.out 2).trans rfl
        have hfz9_0 := blk_frozen BK101.out 0
        have hfz9_1 := blk_frozen BK101.out 1
        have hfz9_2 := blk_frozen BK101.out 2
        go_wp2
        refine bodyPost_ret (results_ct rfl _ _ gb101 55 #[.string (⟨#[]⟩ : ByteArray), .string (⟨#[]⟩ : ByteArray), .string (⟨#[]⟩ : ByteArray)] (0, 0) _ rfl (by (with_reducible repeat (first | refine blk_drewN ?_ _ | refine blk_drew ?_ | refine blk_alloc ?_ _)); refine blk_put (cs := #[.string (⟨#[]⟩ : ByteArray), .string (⟨#[]⟩ : ByteArray), .string (⟨#[]⟩ : ByteArray)]) ?_ 2 _ rfl; (with_reducible repeat (first | refine blk_drewN ?_ _ | refine blk_drew ?_ | refine blk_alloc ?_ _)); refine blk_put (cs := #[.string (⟨#[]⟩ : ByteArray), .string (⟨#[]⟩ : ByteArray), .string (⟨#[]⟩ : ByteArray)]) ?_ 1 _ rfl; (with_reducible repeat (first | refine blk_drewN ?_ _ | refine blk_drew ?_ | refine blk_alloc ?_ _)); refine blk_put (cs := #[.string (⟨#[]⟩ : ByteArray), .string (⟨#[]⟩ : ByteArray), .string (⟨#[]⟩ : ByteArray)]) ?_ 0 _ rfl; (with_reducible repeat (first | refine blk_drewN ?_ _ | refine blk_drew ?_ | refine blk_alloc ?_ _)); exact BK101.out) Tryd.underlying55 rfl (by kernel_rfl)) rfl ?_
        exact ⟨by first | rfl | (simp [errW_none, errW_some] <;> rfl) | (simp [*, errW_none, errW_some] <;> rfl) | (simp [ne_nil_bool]; done) | (simp [*, ne_nil_bool]; done), by repeat (first | (with_reducible first | exact HB.out | apply below_alloc | apply pw_below_drewN | apply below_drew1 | refine below_set ?_ GE101.out) | exact HB.out)⟩
      · replace c8 := Bool.eq_false_iff.mpr c8
        subst c8
        have H1 : (if 0 ≤ (wrap64 (t102 + 1)) then (if (wrap64 (t102 + 1)) ≤ (a0.size : Int) then (if 0 ≤ t102 then (if t102 ≤ (a0.size : Int) then ((strings_CutPrefix.f (a0.extract 0 (t102 : Int).toNat) (⟨#[64]⟩ : ByteArray)).bind fun bt105 => (if bt105.2 = true then (refs_line.j1 kj2 (a0.extract 0 (t102 : Int).toNat) bt105.1 (bt105.1.toList != ([] : List UInt8)) (a0.extract ((wrap64 (t102 + 1)) : Int).toNat a0.size) (⟨#[]⟩ : ByteArray) (⟨#[]⟩ : ByteArray)) else (refs_line.j1 kj2 (a0.extract 0 (t102 : Int).toNat) bt105.1 false (a0.extract ((wrap64 (t102 + 1)) : Int).toNat a0.size) (⟨#[]⟩ : ByteArray) (⟨#[]⟩ : ByteArray)))) else (none)) else (none)) else (none)) else (none)) = some (r1, r2, r3, r4) := by rw [if_neg (show ¬ (false = true) by decide)] at H; exact H
        clear H
        have H := H1
        clear H1
        obtain ⟨ji10, hji10⟩ : ∃ j_ : Int, (wrap64 (t102 + 1)) = j_ := ⟨_, rfl⟩
        replace H : (if 0 ≤ (ji10) then (if (ji10) ≤ (a0.size : Int) then (if 0 ≤ t102 then (if t102 ≤ (a0.size : Int) then ((strings_CutPrefix.f (a0.extract 0 (t102 : Int).toNat) (⟨#[64]⟩ : ByteArray)).bind fun bt105 => (if bt105.2 = true then (refs_line.j1 kj2 (a0.extract 0 (t102 : Int).toNat) bt105.1 (bt105.1.toList != ([] : List UInt8)) (a0.extract ((ji10) : Int).toNat a0.size) (⟨#[]⟩ : ByteArray) (⟨#[]⟩ : ByteArray)) else (refs_line.j1 kj2 (a0.extract 0 (t102 : Int).toNat) bt105.1 false (a0.extract ((ji10) : Int).toNat a0.size) (⟨#[]⟩ : ByteArray) (⟨#[]⟩ : ByteArray)))) else (none)) else (none)) else (none)) else (none)) = some (r1, r2, r3, r4) := by first | (rw [hji10] at H; exact H) | (simp only [hji10] at H ⊢; exact H)
        have hji10w : (IntKind.i64.wrap (t102 + 1)) = ji10 := (i64_w _).trans hji10
        by_cases c11 : 0 ≤ (ji10)
        · rw [if_pos c11] at H
          have c11b0 := eq_true c11
          have c11b1 : decide (0 ≤ (ji10)) = true := decide_eq_true c11
          clear c11
          by_cases c12 : (ji10) ≤ (a0.size : Int)
          · rw [if_pos c12] at H
            have c12b0 := eq_true c12
            have c12b1 : decide ((ji10) ≤ (a0.size : Int)) = true := decide_eq_true c12
            clear c12
            by_cases c13 : 0 ≤ t102
            · rw [if_pos c13] at H
              have c13b0 := eq_true c13
              have c13b1 : decide (0 ≤ t102) = true := decide_eq_true c13
              clear c13
              by_cases c14 : t102 ≤ (a0.size : Int)
              · rw [if_pos c14] at H
                have c14b0 := eq_true c14
                have c14b1 : decide (t102 ≤ (a0.size : Int)) = true := decide_eq_true c14
                clear c14
                replace H := Option.bind_eq_some_iff.mp H
                obtain ⟨⟨t105, t106⟩, A150, H⟩ := H
                replace H : (if t106 = true then (refs_line.j1 kj2 (a0.extract 0 (t102 : Int).toNat) t105 (t105.toList != ([] : List UInt8)) (a0.extract ((ji10) : Int).toNat a0.size) (⟨#[]⟩ : ByteArray) (⟨#[]⟩ : ByteArray)) else (refs_line.j1 kj2 (a0.extract 0 (t102 : Int).toNat) t105 false (a0.extract ((ji10) : Int).toNat a0.size) (⟨#[]⟩ : ByteArray) (⟨#[]⟩ : ByteArray))) = some (r1, r2, r3, r4) := H
                have A15 := Aside0.mk A150
                clear A150
                have HC16 := Aside0.mk H
                clear H
                go_upto_region 8 with (first | ((with_reducible refine gate_dst (N := 5) rfl ?_); (try (refine gate_guard (by rfl) ?_; dsimp only)); refine box_event ?hg (N := 5) ?hd (cs := #[.string (⟨#[]⟩ : ByteArray), .string (⟨#[]⟩ : ByteArray), .string (⟨#[]⟩ : ByteArray)]) (t := 55) ?hr ?_; (case hd => rfl); (case hg => rfl); (case hr => first | (go_simp; done) | (go_simp; rfl)); intro gb104 hg w17 hbox hb; have n0_ := Aside0.mk (blk_below (g := gb101) (o := .cells #[.string (⟨#[]⟩ : ByteArray), .string (⟨#[]⟩ : ByteArray), .string (⟨#[]⟩ : ByteArray)] 55 (0, 0)) (by (with_reducible repeat (first | refine blk_drewN ?_ _ | refine blk_drew ?_ | refine blk_alloc ?_ _)); exact BK101.out) hb); have n1_ := Aside0.mk (below_step (by repeat (first | (with_reducible first | exact HB.out | apply below_alloc | apply pw_below_drewN | apply below_drew1 | refine below_set ?_ GE101.out) | exact HB.out)) hb); have n2_ := Aside0.mk (hbox); have n3_ := Aside0.mk ((by rw [hg]; exact (below_size (by repeat (first | (with_reducible first | exact HB.out | apply below_alloc | apply pw_below_drewN | apply below_drew1 | refine below_set ?_ GE101.out) | exact HB.out))) : w.heap.size ≤ gb104)); have n4_ := Aside0.mk ((by rw [hg]; exact (below_size (by repeat (first | (with_reducible first | exact HB.out | apply below_alloc | apply pw_below_drewN | apply below_drew1 | refine below_set ?_ GE101.out) | exact HB.out))) : w.heap.size ≤ gb104)); have n5_ := Aside0.mk ((by rw [hg]; exact Nat.ne_of_lt (blk_lt (g := gb101) (o := .cells #[.string (⟨#[]⟩ : ByteArray), .string (⟨#[]⟩ : ByteArray), .string (⟨#[]⟩ : ByteArray)] 55 (0, 0)) (by (with_reducible repeat (first | refine blk_drewN ?_ _ | refine blk_drew ?_ | refine blk_alloc ?_ _)); exact BK101.out)) : gb101 ≠ gb104)); have n6_ := Aside0.mk ((by rw [hg]; exact Nat.ne_of_gt (blk_lt (g := gb101) (o := .cells #[.string (⟨#[]⟩ : ByteArray), .string (⟨#[]⟩ : ByteArray), .string (⟨#[]⟩ : ByteArray)] 55 (0, 0)) (by (with_reducible repeat (first | refine blk_drewN ?_ _ | refine blk_drew ?_ | refine blk_alloc ?_ _)); exact BK101.out)) : gb104 ≠ gb101)); clear BK101; clear HB; have BK101 := n0_; have HB := n1_; have BK104 := n2_; have GW104 := n3_; have GE104 := n4_; have NB101_104 := n5_; have NB104_101 := n6_; clear n0_ n1_ n2_ n3_ n4_ n5_ n6_; clear hb hbox hg; have hnb18 := NB104_101.out; have hnc18 := NB101_104.out; have hcz19_0 : w17.cell? ⟨gb104, 0, none⟩ = some (.string (⟨#[]⟩ : ByteArray)) := (blk_cell BK104.out 0).trans rfl; have hcz19_1 : w17.cell? ⟨gb104, 1, none⟩ = some (.string (⟨#[]⟩ : ByteArray)) := (blk_cell BK104.out 1).trans rfl; have hcz19_2 : w17.cell? ⟨gb104, 2, none⟩ = some (.string (⟨#[]⟩ : ByteArray)) := (blk_cell BK104.out 2).trans rfl; have hfz19_0 := blk_frozen BK104.out 0; have hfz19_1 := blk_frozen BK104.out 1; have hfz19_2 := blk_frozen BK104.out 2) | ((with_reducible refine gate_callee (f := 107) rfl ?_); refine goesL_ (some 37) rfl rfl Tryd.func107 (by kernel_rfl) rfl #[.string (a0.extract 0 (t102 : Int).toNat), .string (⟨#[64]⟩ : ByteArray)] rfl (by (try simp only [List.map_toArray, List.map_cons, List.map_nil]); first | done | rfl | (simp only [List.length_drop, List.length_take]; rfl)) ?_; (with_reducible refine (strings_CutPrefix.calls (a0.extract 0 (t102 : Int).toNat) (⟨#[64]⟩ : ByteArray) t105 t106 _ A15.out).mono ?_); rintro e w' ⟨rfl, ⟨nd, rfl⟩⟩; refine ⟨_, rfl, ?_⟩))
                (try simp only [Act.put, List.setIfInBounds_toArray, List.set_cons_zero, List.set_cons_succ])
                go_cut [41] (fun v41 wc => ∃ (kq : Nat) (x41_15 : Bool), v41 = .bool x41_15 ∧ Aside0 (refs_line.j1 kq (a0.extract 0 (t102 : Int).toNat) t105 x41_15 (a0.extract ((ji10) : Int).toNat a0.size) (⟨#[]⟩ : ByteArray) (⟨#[]⟩ : ByteArray) = some (r1, r2, r3, r4)) ∧ Aside0 (kq ≤ kj2) ∧ Aside0 (wc.heap[gb101]? = some (.cells #[.string (⟨#[]⟩ : ByteArray), .string (⟨#[]⟩ : ByteArray), .string (⟨#[]⟩ : ByteArray)] 55 (0, 0))) ∧ Aside0 (wc.heap[gb104]? = some (.cells #[.string (a0.extract ((ji10) : Int).toNat a0.size), .string (⟨#[]⟩ : ByteArray), .string (⟨#[]⟩ : ByteArray)] 55 (0, 0))) ∧ Aside0 (Below w.heap.size w wc))
                case first =>
                  have H := HC16.out
                  clear HC16
                  by_cases c20 : t106 = true
                  · subst c20
                    have H1 : (refs_line.j1 kj2 (a0.extract 0 (t102 : Int).toNat) t105 (t105.toList != ([] : List UInt8)) (a0.extract ((ji10) : Int).toNat a0.size) (⟨#[]⟩ : ByteArray) (⟨#[]⟩ : ByteArray)) = some (r1, r2, r3, r4) := by rw [if_pos rfl] at H; exact H
                    clear H
                    have H := H1
                    clear H1
                    have H' := Aside0.mk H
                    clear H
                    go_wp2
                    go_meet
                    case rel => exact ⟨_, ((t105.toList != ([] : List UInt8))), (by first | rfl | (simp; done) | (simp [*]; done) | (simp [ne_nil_bool]; done) | (simp [*, ne_nil_bool]; done)), H', ⟨by have := HJ2.out; first | omega | exact Nat.le_refl _⟩, ⟨by (with_reducible repeat (first | refine blk_drewN ?_ _ | refine blk_drew ?_ | refine blk_alloc ?_ _)); refine blk_far ?_ NB101_104.out _; (with_reducible repeat (first | refine blk_drewN ?_ _ | refine blk_drew ?_ | refine blk_alloc ?_ _)); refine blk_far ?_ NB101_104.out _; (with_reducible repeat (first | refine blk_drewN ?_ _ | refine blk_drew ?_ | refine blk_alloc ?_ _)); refine blk_far ?_ NB101_104.out _; (with_reducible repeat (first | refine blk_drewN ?_ _ | refine blk_drew ?_ | refine blk_alloc ?_ _)); exact BK101.out⟩, ⟨by (with_reducible repeat (first | refine blk_drewN ?_ _ | refine blk_drew ?_ | refine blk_alloc ?_ _)); refine blk_put (cs := #[.string (a0.extract ((ji10) : Int).toNat a0.size), .string (⟨#[]⟩ : ByteArray), .string (⟨#[]⟩ : ByteArray)]) ?_ 2 _ rfl; (with_reducible repeat (first | refine blk_drewN ?_ _ | refine blk_drew ?_ | refine blk_alloc ?_ _)); refine blk_put (cs := #[.string (a0.extract ((ji10) : Int).toNat a0.size), .string (⟨#[]⟩ : ByteArray), .string (⟨#[]⟩ : ByteArray)]) ?_ 1 _ rfl; (with_reducible repeat (first | refine blk_drewN ?_ _ | refine blk_drew ?_ | refine blk_alloc ?_ _)); refine blk_put (cs := #[.string (⟨#[]⟩ : ByteArray), .string (⟨#[]⟩ : ByteArray), .string (⟨#[]⟩ : ByteArray)]) ?_ 0 _ rfl; (with_reducible repeat (first | refine blk_drewN ?_ _ | refine blk_drew ?_ | refine blk_alloc ?_ _)); exact BK104.out⟩, ⟨by repeat (first | (with_reducible first | exact HB.out | apply below_alloc | apply pw_below_drewN | apply below_drew1 | refine below_set ?_ GE101.out | refine below_set ?_ GE104.out) | exact HB.out)⟩⟩
                  · replace c20 := Bool.eq_false_iff.mpr c20
                    subst c20
                    have H1 : (refs_line.j1 kj2 (a0.extract 0 (t102 : Int).toNat) t105 false (a0.extract ((ji10) : Int).toNat a0.size) (⟨#[]⟩ : ByteArray) (⟨#[]⟩ : ByteArray)) = some (r1, r2, r3, r4) := by rw [if_neg (show ¬ (false = true) by decide)] at H; exact H
                    clear H
                    have H := H1
                    clear H1
                    have H' := Aside0.mk H
                    clear H
                    go_wp2
                    go_meet
                    case rel => exact ⟨_, (false), (by first | rfl | (simp; done) | (simp [*]; done) | (simp [ne_nil_bool]; done) | (simp [*, ne_nil_bool]; done)), H', ⟨by have := HJ2.out; first | omega | exact Nat.le_refl _⟩, ⟨by (with_reducible repeat (first | refine blk_drewN ?_ _ | refine blk_drew ?_ | refine blk_alloc ?_ _)); refine blk_far ?_ NB101_104.out _; (with_reducible repeat (first | refine blk_drewN ?_ _ | refine blk_drew ?_ | refine blk_alloc ?_ _)); refine blk_far ?_ NB101_104.out _; (with_reducible repeat (first | refine blk_drewN ?_ _ | refine blk_drew ?_ | refine blk_alloc ?_ _)); refine blk_far ?_ NB101_104.out _; (with_reducible repeat (first | refine blk_drewN ?_ _ | refine blk_drew ?_ | refine blk_alloc ?_ _)); exact BK101.out⟩, ⟨by (with_reducible repeat (first | refine blk_drewN ?_ _ | refine blk_drew ?_ | refine blk_alloc ?_ _)); refine blk_put (cs := #[.string (a0.extract ((ji10) : Int).toNat a0.size), .string (⟨#[]⟩ : ByteArray), .string (⟨#[]⟩ : ByteArray)]) ?_ 2 _ rfl; (with_reducible repeat (first | refine blk_drewN ?_ _ | refine blk_drew ?_ | refine blk_alloc ?_ _)); refine blk_put (cs := #[.string (a0.extract ((ji10) : Int).toNat a0.size), .string (⟨#[]⟩ : ByteArray), .string (⟨#[]⟩ : ByteArray)]) ?_ 1 _ rfl; (with_reducible repeat (first | refine blk_drewN ?_ _ | refine blk_drew ?_ | refine blk_alloc ?_ _)); refine blk_put (cs := #[.string (⟨#[]⟩ : ByteArray), .string (⟨#[]⟩ : ByteArray), .string (⟨#[]⟩ : ByteArray)]) ?_ 0 _ rfl; (with_reducible repeat (first | refine blk_drewN ?_ _ | refine blk_drew ?_ | refine blk_alloc ?_ _)); exact BK104.out⟩, ⟨by repeat (first | (with_reducible first | exact HB.out | apply below_alloc | apply pw_below_drewN | apply below_drew1 | refine below_set ?_ GE101.out | refine below_set ?_ GE104.out) | exact HB.out)⟩⟩
                case rest =>
                  clear HC16
                  try clear c1
                  try clear c2
                  try clear p2
                  try clear c5
                  try clear c5b0
                  try clear c6
                  try clear c6b0
                  try clear c6b1
                  try clear p6
                  try clear c8
                  try clear c9
                  try clear c10
                  try clear c11
                  try clear c11b0
                  try clear c11b1
                  try clear c12
                  try clear c12b0
                  try clear c12b1
                  try clear c13
                  try clear c13b0
                  try clear c13b1
                  try clear c14
                  try clear c14b0
                  try clear c14b1
                  try clear c18
                  try clear c20
                  try clear hcz19_0
                  try clear hcz19_1
                  try clear hcz19_2
                  try clear hcz9_0
                  try clear hcz9_1
                  try clear hcz9_2
                  try clear hfz19_0
                  try clear hfz19_1
                  try clear hfz19_2
                  try clear hfz9_0
                  try clear hfz9_1
                  try clear hfz9_2
                  try clear p2
                  try clear p6
                  obtain ⟨kq, x41_15, rfl, HA, HJ15, BK101, BK104, HB⟩ := hcut
                  cases kq with
                  | zero => exact absurd HA.out (by simp [refs_line.j1])
                  | succ kj15 =>
                    have H := HA.out
                    clear HA
                    simp only [refs_line.j1] at H
                    by_cases c21 : x41_15 = true
                    · subst c21
                      have H1 : (some ((a0.extract ((ji10) : Int).toNat a0.size), (⟨#[]⟩ : ByteArray), t105, true)) = some (r1, r2, r3, r4) := by rw [if_pos rfl] at H; exact H
                      clear H
                      have H := H1
                      clear H1
                      simp only [Option.some.injEq, Prod.mk.injEq] at H
                      obtain ⟨rfl, rfl, rfl, rfl⟩ := H
                      have hnb22 := NB104_101.out
                      have hnc22 := NB101_104.out
                      have hcz23_0 : wc.cell? ⟨gb104, 0, none⟩ = some (.string (a0.extract ((ji10) : Int).toNat a0.size)) := (blk_cell BK104.out 0).trans rfl
                      have hcz23_1 : wc.cell? ⟨gb104, 1, none⟩ = some (.string (⟨#[]⟩ : ByteArray)) := (blk_cell BK104.out 1).trans rfl
                      have hcz23_2 : wc.cell? ⟨gb104, 2, none⟩ = some (.string (⟨#[]⟩ : ByteArray)) := (blk_cell BK104.out 2).trans rfl
                      have hfz23_0 := blk_frozen BK104.out 0
                      have hfz23_1 := blk_frozen BK104.out 1
                      have hfz23_2 := blk_frozen BK104.out 2
                      have hcz24_0 : wc.cell? ⟨gb101, 0, none⟩ = some (.string (⟨#[]⟩ : ByteArray)) := (blk_cell BK101.out 0).trans rfl
                      have hcz24_1 : wc.cell? ⟨gb101, 1, none⟩ = some (.string (⟨#[]⟩ : ByteArray)) := (blk_cell BK101.out 1).trans rfl
                      have hcz24_2 : wc.cell? ⟨gb101, 2, none⟩ = some (.string (⟨#[]⟩ : ByteArray)) := (blk_cell BK101.out 2).trans rfl
                      have hfz24_0 := blk_frozen BK101.out 0
                      have hfz24_1 := blk_frozen BK101.out 1
                      have hfz24_2 := blk_frozen BK101.out 2
                      go_wp2
                      refine bodyPost_ret (results_ct rfl _ _ gb101 55 #[.string (a0.extract ((ji10) : Int).toNat a0.size), .string (⟨#[]⟩ : ByteArray), .string t105] (0, 0) _ rfl (by (with_reducible repeat (first | refine blk_drewN ?_ _ | refine blk_drew ?_ | refine blk_alloc ?_ _)); refine blk_put (cs := #[.string (a0.extract ((ji10) : Int).toNat a0.size), .string (⟨#[]⟩ : ByteArray), .string (⟨#[]⟩ : ByteArray)]) ?_ 2 _ rfl; (with_reducible repeat (first | refine blk_drewN ?_ _ | refine blk_drew ?_ | refine blk_alloc ?_ _)); refine blk_put (cs := #[.string (a0.extract ((ji10) : Int).toNat a0.size), .string (⟨#[]⟩ : ByteArray), .string (⟨#[]⟩ : ByteArray)]) ?_ 1 _ rfl; (with_reducible repeat (first | refine blk_drewN ?_ _ | refine blk_drew ?_ | refine blk_alloc ?_ _)); refine blk_put (cs := #[.string (⟨#[]⟩ : ByteArray), .string (⟨#[]⟩ : ByteArray), .string (⟨#[]⟩ : ByteArray)]) ?_ 0 _ rfl; (with_reducible repeat (first | refine blk_drewN ?_ _ | refine blk_drew ?_ | refine blk_alloc ?_ _)); refine blk_far ?_ NB101_104.out _; (with_reducible repeat (first | refine blk_drewN ?_ _ | refine blk_drew ?_ | refine blk_alloc ?_ _)); exact BK101.out) Tryd.underlying55 rfl (by kernel_rfl)) rfl ?_
                      exact ⟨by first | rfl | (simp [errW_none, errW_some] <;> rfl) | (simp only [← hji10]; first | rfl | (simp [errW_none, errW_some] <;> rfl)) | (simp [*, errW_none, errW_some] <;> rfl) | (simp [ne_nil_bool]; done) | (simp [*, ne_nil_bool]; done), by repeat (first | (with_reducible first | exact HB.out | apply below_alloc | apply pw_below_drewN | apply below_drew1 | refine below_set ?_ GE101.out | refine below_set ?_ GE104.out) | exact HB.out)⟩
                    · replace c21 := Bool.eq_false_iff.mpr c21
                      subst c21
                      have H1 : ((ident_Is.f kj15 (a0.extract 0 (t102 : Int).toNat)).bind fun t107 => (if t107 = true then (some ((a0.extract ((ji10) : Int).toNat a0.size), (a0.extract 0 (t102 : Int).toNat), (⟨#[]⟩ : ByteArray), true)) else (some ((⟨#[]⟩ : ByteArray), (⟨#[]⟩ : ByteArray), (⟨#[]⟩ : ByteArray), false)))) = some (r1, r2, r3, r4) := by rw [if_neg (show ¬ (false = true) by decide)] at H; exact H
                      clear H
                      have H := H1
                      clear H1
                      replace H := Option.bind_eq_some_iff.mp H
                      obtain ⟨t107, A250, H⟩ := H
                      replace H : (if t107 = true then (some ((a0.extract ((ji10) : Int).toNat a0.size), (a0.extract 0 (t102 : Int).toNat), (⟨#[]⟩ : ByteArray), true)) else (some ((⟨#[]⟩ : ByteArray), (⟨#[]⟩ : ByteArray), (⟨#[]⟩ : ByteArray), false))) = some (r1, r2, r3, r4) := H
                      have A25 := Aside0.mk A250
                      clear A250
                      by_cases c26 : t107 = true
                      · subst c26
                        have H1 : (some ((a0.extract ((ji10) : Int).toNat a0.size), (a0.extract 0 (t102 : Int).toNat), (⟨#[]⟩ : ByteArray), true)) = some (r1, r2, r3, r4) := by rw [if_pos rfl] at H; exact H
                        clear H
                        have H := H1
                        clear H1
                        simp only [Option.some.injEq, Prod.mk.injEq] at H
                        obtain ⟨rfl, rfl, rfl, rfl⟩ := H
                        go_wp2_with (first | ((with_reducible refine gate_callee (f := 103) rfl ?_); refine goesL_ (some 51) rfl rfl Tryd.func103 (by kernel_rfl) rfl #[.string (a0.extract 0 (t102 : Int).toNat)] rfl (by (try simp only [List.map_toArray, List.map_cons, List.map_nil]); first | done | rfl | (simp only [List.length_drop, List.length_take]; rfl)) ?_; (with_reducible refine (ident_Is.calls kj15 (a0.extract 0 (t102 : Int).toNat) true _ A25.out).mono ?_); rintro e w' ⟨rfl, ⟨nd, rfl⟩⟩; refine ⟨_, rfl, ?_⟩; (try (rw [drewN_self wc]; generalize hq_ : World.drewN wc _ = wc; have n0_ : Aside0 (wc.heap[gb101]? = some (.cells #[.string (⟨#[]⟩ : ByteArray), .string (⟨#[]⟩ : ByteArray), .string (⟨#[]⟩ : ByteArray)] 55 (0, 0))) := ⟨by rw [← hq_]; exact (by (with_reducible repeat (first | refine blk_drewN ?_ _ | refine blk_drew ?_ | refine blk_alloc ?_ _)); exact BK101.out)⟩; have n1_ : Aside0 (wc.heap[gb104]? = some (.cells #[.string (a0.extract ((ji10) : Int).toNat a0.size), .string (⟨#[]⟩ : ByteArray), .string (⟨#[]⟩ : ByteArray)] 55 (0, 0))) := ⟨by rw [← hq_]; exact (by (with_reducible repeat (first | refine blk_drewN ?_ _ | refine blk_drew ?_ | refine blk_alloc ?_ _)); exact BK104.out)⟩; have n2_ : Aside0 (Below w.heap.size w wc) := ⟨by rw [← hq_]; exact (by repeat (first | (with_reducible first | exact HB.out | apply below_alloc | apply pw_below_drewN | apply below_drew1 | refine below_set ?_ GE101.out | refine below_set ?_ GE104.out) | exact HB.out))⟩; clear BK101 BK104 HB hq_; have BK101 := n0_; have BK104 := n1_; have HB := n2_; clear n0_ n1_ n2_)); have hnb27 := NB104_101.out; have hnc27 := NB101_104.out; have hcz28_0 : wc.cell? ⟨gb104, 0, none⟩ = some (.string (a0.extract ((ji10) : Int).toNat a0.size)) := (blk_cell BK104.out 0).trans rfl; have hcz28_1 : wc.cell? ⟨gb104, 1, none⟩ = some (.string (⟨#[]⟩ : ByteArray)) := (blk_cell BK104.out 1).trans rfl; have hcz28_2 : wc.cell? ⟨gb104, 2, none⟩ = some (.string (⟨#[]⟩ : ByteArray)) := (blk_cell BK104.out 2).trans rfl; have hfz28_0 := blk_frozen BK104.out 0; have hfz28_1 := blk_frozen BK104.out 1; have hfz28_2 := blk_frozen BK104.out 2; have hcz29_0 : wc.cell? ⟨gb101, 0, none⟩ = some (.string (⟨#[]⟩ : ByteArray)) := (blk_cell BK101.out 0).trans rfl; have hcz29_1 : wc.cell? ⟨gb101, 1, none⟩ = some (.string (⟨#[]⟩ : ByteArray)) := (blk_cell BK101.out 1).trans rfl; have hcz29_2 : wc.cell? ⟨gb101, 2, none⟩ = some (.string (⟨#[]⟩ : ByteArray)) := (blk_cell BK101.out 2).trans rfl; have hfz29_0 := blk_frozen BK101.out 0; have hfz29_1 := blk_frozen BK101.out 1; have hfz29_2 := blk_frozen BK101.out 2))
                        refine bodyPost_ret (results_ct rfl _ _ gb101 55 #[.string (a0.extract ((ji10) : Int).toNat a0.size), .string (a0.extract 0 (t102 : Int).toNat), .string (⟨#[]⟩ : ByteArray)] (0, 0) _ rfl (by (with_reducible repeat (first | refine blk_drewN ?_ _ | refine blk_drew ?_ | refine blk_alloc ?_ _)); refine blk_put (cs := #[.string (a0.extract ((ji10) : Int).toNat a0.size), .string (a0.extract 0 (t102 : Int).toNat), .string (⟨#[]⟩ : ByteArray)]) ?_ 2 _ rfl; (with_reducible repeat (first | refine blk_drewN ?_ _ | refine blk_drew ?_ | refine blk_alloc ?_ _)); refine blk_put (cs := #[.string (a0.extract ((ji10) : Int).toNat a0.size), .string (⟨#[]⟩ : ByteArray), .string (⟨#[]⟩ : ByteArray)]) ?_ 1 _ rfl; (with_reducible repeat (first | refine blk_drewN ?_ _ | refine blk_drew ?_ | refine blk_alloc ?_ _)); refine blk_put (cs := #[.string (⟨#[]⟩ : ByteArray), .string (⟨#[]⟩ : ByteArray), .string (⟨#[]⟩ : ByteArray)]) ?_ 0 _ rfl; (with_reducible repeat (first | refine blk_drewN ?_ _ | refine blk_drew ?_ | refine blk_alloc ?_ _)); refine blk_far ?_ NB101_104.out _; (with_reducible repeat (first | refine blk_drewN ?_ _ | refine blk_drew ?_ | refine blk_alloc ?_ _)); exact BK101.out) Tryd.underlying55 rfl (by kernel_rfl)) rfl ?_
                        exact ⟨by first | rfl | (simp [errW_none, errW_some] <;> rfl) | (simp only [← hji10]; first | rfl | (simp [errW_none, errW_some] <;> rfl)) | (simp [*, errW_none, errW_some] <;> rfl) | (simp [ne_nil_bool]; done) | (simp [*, ne_nil_bool]; done), by repeat (first | (with_reducible first | exact HB.out | apply below_alloc | apply pw_below_drewN | apply below_drew1 | refine below_set ?_ GE101.out | refine below_set ?_ GE104.out) | exact HB.out)⟩
                      · replace c26 := Bool.eq_false_iff.mpr c26
                        subst c26
                        have H1 : (some ((⟨#[]⟩ : ByteArray), (⟨#[]⟩ : ByteArray), (⟨#[]⟩ : ByteArray), false)) = some (r1, r2, r3, r4) := by rw [if_neg (show ¬ (false = true) by decide)] at H; exact H
                        clear H
                        have H := H1
                        clear H1
                        simp only [Option.some.injEq, Prod.mk.injEq] at H
                        obtain ⟨rfl, rfl, rfl, rfl⟩ := H
                        go_wp2_with (first | ((with_reducible refine gate_callee (f := 103) rfl ?_); refine goesL_ (some 51) rfl rfl Tryd.func103 (by kernel_rfl) rfl #[.string (a0.extract 0 (t102 : Int).toNat)] rfl (by (try simp only [List.map_toArray, List.map_cons, List.map_nil]); first | done | rfl | (simp only [List.length_drop, List.length_take]; rfl)) ?_; (with_reducible refine (ident_Is.calls kj15 (a0.extract 0 (t102 : Int).toNat) false _ A25.out).mono ?_); rintro e w' ⟨rfl, ⟨nd, rfl⟩⟩; refine ⟨_, rfl, ?_⟩; (try (rw [drewN_self wc]; generalize hq_ : World.drewN wc _ = wc; have n0_ : Aside0 (wc.heap[gb101]? = some (.cells #[.string (⟨#[]⟩ : ByteArray), .string (⟨#[]⟩ : ByteArray), .string (⟨#[]⟩ : ByteArray)] 55 (0, 0))) := ⟨by rw [← hq_]; exact (by (with_reducible repeat (first | refine blk_drewN ?_ _ | refine blk_drew ?_ | refine blk_alloc ?_ _)); exact BK101.out)⟩; have n1_ : Aside0 (wc.heap[gb104]? = some (.cells #[.string (a0.extract ((ji10) : Int).toNat a0.size), .string (⟨#[]⟩ : ByteArray), .string (⟨#[]⟩ : ByteArray)] 55 (0, 0))) := ⟨by rw [← hq_]; exact (by (with_reducible repeat (first | refine blk_drewN ?_ _ | refine blk_drew ?_ | refine blk_alloc ?_ _)); exact BK104.out)⟩; have n2_ : Aside0 (Below w.heap.size w wc) := ⟨by rw [← hq_]; exact (by repeat (first | (with_reducible first | exact HB.out | apply below_alloc | apply pw_below_drewN | apply below_drew1 | refine below_set ?_ GE101.out | refine below_set ?_ GE104.out) | exact HB.out))⟩; clear BK101 BK104 HB hq_; have BK101 := n0_; have BK104 := n1_; have HB := n2_; clear n0_ n1_ n2_)); have hnb30 := NB101_104.out; have hnc30 := NB104_101.out; have hcz31_0 : wc.cell? ⟨gb101, 0, none⟩ = some (.string (⟨#[]⟩ : ByteArray)) := (blk_cell BK101.out 0).trans rfl; have hcz31_1 : wc.cell? ⟨gb101, 1, none⟩ = some (.string (⟨#[]⟩ : ByteArray)) := (blk_cell BK101.out 1).trans rfl; have hcz31_2 : wc.cell? ⟨gb101, 2, none⟩ = some (.string (⟨#[]⟩ : ByteArray)) := (blk_cell BK101.out 2).trans rfl; have hfz31_0 := blk_frozen BK101.out 0; have hfz31_1 := blk_frozen BK101.out 1; have hfz31_2 := blk_frozen BK101.out 2))
                        refine bodyPost_ret (results_ct rfl _ _ gb101 55 #[.string (⟨#[]⟩ : ByteArray), .string (⟨#[]⟩ : ByteArray), .string (⟨#[]⟩ : ByteArray)] (0, 0) _ rfl (by (with_reducible repeat (first | refine blk_drewN ?_ _ | refine blk_drew ?_ | refine blk_alloc ?_ _)); refine blk_put (cs := #[.string (⟨#[]⟩ : ByteArray), .string (⟨#[]⟩ : ByteArray), .string (⟨#[]⟩ : ByteArray)]) ?_ 2 _ rfl; (with_reducible repeat (first | refine blk_drewN ?_ _ | refine blk_drew ?_ | refine blk_alloc ?_ _)); refine blk_put (cs := #[.string (⟨#[]⟩ : ByteArray), .string (⟨#[]⟩ : ByteArray), .string (⟨#[]⟩ : ByteArray)]) ?_ 1 _ rfl; (with_reducible repeat (first | refine blk_drewN ?_ _ | refine blk_drew ?_ | refine blk_alloc ?_ _)); refine blk_put (cs := #[.string (⟨#[]⟩ : ByteArray), .string (⟨#[]⟩ : ByteArray), .string (⟨#[]⟩ : ByteArray)]) ?_ 0 _ rfl; (with_reducible repeat (first | refine blk_drewN ?_ _ | refine blk_drew ?_ | refine blk_alloc ?_ _)); exact BK101.out) Tryd.underlying55 rfl (by kernel_rfl)) rfl ?_
                        exact ⟨by first | rfl | (simp [errW_none, errW_some] <;> rfl) | (simp only [← hji10]; first | rfl | (simp [errW_none, errW_some] <;> rfl)) | (simp [*, errW_none, errW_some] <;> rfl) | (simp [ne_nil_bool]; done) | (simp [*, ne_nil_bool]; done), by repeat (first | (with_reducible first | exact HB.out | apply below_alloc | apply pw_below_drewN | apply below_drew1 | refine below_set ?_ GE101.out | refine below_set ?_ GE104.out) | exact HB.out)⟩
              · rw [if_neg c14] at H
                exact absurd H (by simp)
            · rw [if_neg c13] at H
              exact absurd H (by simp)
          · rw [if_neg c12] at H
            exact absurd H (by simp)
        · rw [if_neg c11] at H
          exact absurd H (by simp)

end Go.Proofs.YtccbpbdfihnlgaaDoor.Q


/- Contracts of Go functions as calls of plain Lean functions, written by a program of this session over the kit's print. -/
namespace Go.Proofs.YtccbpbdfihnlgaaDoor.Q
open Go.RowKit Go.Proofs.YtccbpbdfihnlgaaDoorW.PrintWords Go.Proofs.YtccbpbdfihnlgaaDoorW.PrintLast Go.Proofs.YtccbpbdfihnlgaaDoorW.PrintMore
attribute [local go_sem] max2_int min2_int max_two min_two max_three min_three max_four min_four   -- for this text's walks alone

/-! ### refs_Parse: function 40 -/
def refs_Parse.l0 : Nat → ByteArray → List (S55) → Option ((List (S55)) × Int)
  | 0, _, _ => none
  | k + 1, x0, x4 => if x0.toList = ([] : List UInt8) then ((refs_Check.f k x4).bind fun t133 => (if t133 = 0 then (some (x4, 0)) else (some (([] : List (S55)), t133)))) else ((strings_Cut.f x0 (⟨#[10]⟩ : ByteArray)).bind fun bt134 => ((refs_line.f k bt134.1).bind fun bt137 => (if bt134.2.2 = true then (if bt137.2.2.2 = true then (if x4.length < 2932031007402 then (refs_Parse.l0 k bt134.2.1 (x4 ++ [(⟨bt137.1, bt137.2.1, bt137.2.2.1⟩ : S55)])) else (none)) else (some (([] : List (S55)), 2))) else (some (([] : List (S55)), 2)))))
def refs_Parse.f (k : Nat) (a0 : ByteArray) : Option ((List (S55)) × Int) := refs_Parse.l0 k a0 ([] : List (S55))
theorem refs_Parse.mono_l : ∀ k, (∀ y0 y1, LeO (refs_Parse.l0 k y0 y1) (refs_Parse.l0 (k + 1) y0 y1))
  | 0 => fun _ _ r h => by simp [refs_Parse.l0] at h
  | k + 1 => by
    have ih0 := refs_Parse.mono_l k
    · intro y0 y1
      unfold refs_Parse.l0
      repeat' first
      | (with_reducible exact ih0 _ _)
      | (with_reducible exact refs_Check.mono _ _)
      | (with_reducible exact refs_line.mono _ _)
      | (with_reducible exact LeO.refl _)
      | (with_reducible exact LeO.none _)
      | (with_reducible refine LeO.ite ?_ ?_)
      | (with_reducible refine LeO.bind ?_ (fun _ => ?_))
      | exact ih0 _ _
      | exact refs_Check.mono _ _
      | exact refs_line.mono _ _
      | exact LeO.none _
      | refine LeO.ite ?_ ?_
      | refine LeO.bind ?_ (fun _ => ?_)
theorem refs_Parse.mono : ∀ a0 k, LeO (refs_Parse.f k a0) (refs_Parse.f (k + 1) a0) := by
  intro a0 k
  have ih0 := refs_Parse.mono_l k
  unfold refs_Parse.f
  repeat' first
      | (with_reducible exact ih0 _ _)
      | (with_reducible exact refs_Check.mono _ _)
      | (with_reducible exact refs_line.mono _ _)
      | (with_reducible exact LeO.refl _)
      | (with_reducible exact LeO.none _)
      | (with_reducible refine LeO.ite ?_ ?_)
      | (with_reducible refine LeO.bind ?_ (fun _ => ?_))
      | exact ih0 _ _
      | exact refs_Check.mono _ _
      | exact refs_line.mono _ _
      | exact LeO.none _
      | refine LeO.ite ?_ ?_
      | refine LeO.bind ?_ (fun _ => ?_)
set_option maxHeartbeats 8000000 in
set_option maxRecDepth 100000 in
theorem refs_Parse.calls (k : Nat) (a0 : ByteArray) (r1 : List (S55)) (r2 : Int) (w : World) (hgv : GV w) (h : refs_Parse.f k a0 = some (r1, r2)) :
    Calls Tryd.prog 40 #[.string a0] w fun e w' => ∃ v0_ : Value, e = .returned (.tuple #[v0_, .int .i64 r2]) ∧ Kd.R k55 55 w' w.heap.size (fun _ => True) v0_ r1 ∧ Below w.heap.size w w' := by
  have hu55 := Tryd.underlying55
  have HB := Aside0.mk (Below.refl w.heap.size w)
  have H : (refs_Parse.l0 k a0 ([] : List (S55))) = some (r1, r2) := h
  clear h
  have H' := Aside0.mk H
  clear H
  go_enter Tryd.func40, Tryd.ntmps40
  go_wp2
  go_loopg [0, 4] k (fun kq v0 v4 w' => ∃ (x0_1 : ByteArray) (x4_1 : List (S55)), v0 = .string x0_1 ∧ Aside0 (refs_Parse.l0 kq x0_1 x4_1 = some (r1, r2)) ∧ Aside0 (kq ≤ k) ∧ Aside0 (Kd.R k55 55 w' w.heap.size (fun _ => True) v4 x4_1) ∧ Aside0 (Below w.heap.size w w'))
  case atStart => exact ⟨(a0), (([] : List (S55))), (by first | rfl | (simp; done) | (simp [*]; done) | (simp [ne_nil_bool]; done) | (simp [*, ne_nil_bool]; done)), H', ⟨Nat.le_refl _⟩, ⟨by first | exact Kd.R_nil _ _ _ _ _ | exact Kd.N_nil _ _ _ _ _ | exact Kd.V_nil _ _ _ _ _ | exact Kd.Q_nil _ _ _ _ _ | exact Kd.S_nil _ _ _ _ _⟩, ⟨by repeat (first | (with_reducible first | exact HB.out | apply below_alloc | apply pw_below_drewN | apply below_drew1) | exact HB.out)⟩⟩
  case round =>
    clear H'
    obtain ⟨x0_1, x4_1, rfl, HA, HK1, HO_4, HB⟩ := hrel
    cases gk with
    | zero => exact absurd HA.out (by simp [refs_Parse.l0])
    | succ k1 =>
      have H := HA.out
      clear HA
      simp only [refs_Parse.l0] at H
      by_cases c2 : x0_1.toList = ([] : List UInt8)
      · rw [if_pos c2] at H
        have c2b0 : (x0_1.toList == ([] : List UInt8)) = true := beq_iff_eq.mpr c2
        have c2b1 : (x0_1.toList != ([] : List UInt8)) = false := bne_eq_false_iff_eq.mpr c2
        clear c2
        replace H := Option.bind_eq_some_iff.mp H
        obtain ⟨t133, A30, H⟩ := H
        replace H : (if t133 = 0 then (some (x4_1, 0)) else (some (([] : List (S55)), t133))) = some (r1, r2) := H
        have A3 := Aside0.mk A30
        clear A30
        by_cases c4 : t133 = 0
        · rw [if_pos c4] at H
          have c4b0 : (t133 == 0) = true := beq_iff_eq.mpr c4
          have c4b1 : (t133 != 0) = false := bne_eq_false_iff_eq.mpr c4
          clear c4
          simp only [Option.some.injEq, Prod.mk.injEq] at H
          obtain ⟨rfl, rfl⟩ := H
          obtain ⟨Ao5, co5, eo5⟩ := Kd.R_slice HO_4.out
          subst eo5
          go_wp2_with (first | ((with_reducible refine gate_callee (f := 36) rfl ?_); refine goesL_ (some 36) rfl rfl Tryd.func36 (by kernel_rfl) rfl #[.slice Ao5 x4_1.length co5] rfl (by (try simp only [List.map_toArray, List.map_cons, List.map_nil]); first | done | rfl | (simp only [List.length_drop, List.length_take]; rfl)) ?_; (with_reducible refine (refs_Check.calls k1 _ _ x4_1 t133 _ ?side1 ?side2 ?side3 A3.out).mono ?_); (case side1 => repeat (first | exact (Kd.R_reads' HO_4.out).2.2 | (with_reducible refine Kd.C_alloc ?_ _) | (with_reducible refine Kd.C_drewN ?_ _) | (with_reducible refine Kd.C_drew ?_))); (case side2 => exact (Kd.R_reads' HO_4.out).2.1); (case side3 => exact GV.below hgv (by repeat (first | (with_reducible first | exact HB.out | apply below_alloc | apply pw_below_drewN | apply below_drew1) | exact HB.out))); rintro e w6 ⟨rfl, hb⟩; refine ⟨_, rfl, ?_⟩; have n0_ := Aside0.mk (Kd.R_below (by (with_reducible repeat (first | apply Kd.R_alloc | apply Kd.R_drewN | apply Kd.R_drew)); exact HO_4.out) hb); have n1_ := Aside0.mk (below_step (by repeat (first | (with_reducible first | exact HB.out | apply below_alloc | apply pw_below_drewN | apply below_drew1) | exact HB.out)) hb); clear HO_4; clear HB; have HO_4 := n0_; have HB := n1_; clear n0_ n1_; (try clear hb); (try clear hb2); (try clear hk); (try clear hi)))
          go_ret2
          exact ⟨_, by first | rfl | (simp [errW_none, errW_some] <;> rfl) | (simp [*, errW_none, errW_some] <;> rfl) | (simp [ne_nil_bool]; done) | (simp [*, ne_nil_bool]; done), by (with_reducible repeat (first | apply Kd.R_alloc | apply Kd.R_drewN | apply Kd.R_drew)); exact HO_4.out, by repeat (first | (with_reducible first | exact HB.out | apply below_alloc | apply pw_below_drewN | apply below_drew1) | exact HB.out)⟩
        · rw [if_neg c4] at H
          have c4b0 : (t133 == 0) = false := beq_eq_false_iff_ne.mpr c4
          have c4b1 : (t133 != 0) = true := bne_iff_ne.mpr c4
          simp only [Option.some.injEq, Prod.mk.injEq] at H
          obtain ⟨rfl, rfl⟩ := H
          obtain ⟨Ao7, co7, eo7⟩ := Kd.R_slice HO_4.out
          subst eo7
          go_wp2_with (first | ((with_reducible refine gate_callee (f := 36) rfl ?_); refine goesL_ (some 36) rfl rfl Tryd.func36 (by kernel_rfl) rfl #[.slice Ao7 x4_1.length co7] rfl (by (try simp only [List.map_toArray, List.map_cons, List.map_nil]); first | done | rfl | (simp only [List.length_drop, List.length_take]; rfl)) ?_; (with_reducible refine (refs_Check.calls k1 _ _ x4_1 t133 _ ?side1 ?side2 ?side3 A3.out).mono ?_); (case side1 => repeat (first | exact (Kd.R_reads' HO_4.out).2.2 | (with_reducible refine Kd.C_alloc ?_ _) | (with_reducible refine Kd.C_drewN ?_ _) | (with_reducible refine Kd.C_drew ?_))); (case side2 => exact (Kd.R_reads' HO_4.out).2.1); (case side3 => exact GV.below hgv (by repeat (first | (with_reducible first | exact HB.out | apply below_alloc | apply pw_below_drewN | apply below_drew1) | exact HB.out))); rintro e w8 ⟨rfl, hb⟩; refine ⟨_, rfl, ?_⟩; have n0_ := Aside0.mk (Kd.R_below (by (with_reducible repeat (first | apply Kd.R_alloc | apply Kd.R_drewN | apply Kd.R_drew)); exact HO_4.out) hb); have n1_ := Aside0.mk (below_step (by repeat (first | (with_reducible first | exact HB.out | apply below_alloc | apply pw_below_drewN | apply below_drew1) | exact HB.out)) hb); clear HO_4; clear HB; have HO_4 := n0_; have HB := n1_; clear n0_ n1_; (try clear hb); (try clear hb2); (try clear hk); (try clear hi)))
          go_ret2
          exact ⟨_, by first | rfl | (simp [errW_none, errW_some] <;> rfl) | (simp [*, errW_none, errW_some] <;> rfl) | (simp [ne_nil_bool]; done) | (simp [*, ne_nil_bool]; done), by first | exact Kd.R_nil _ _ _ _ _ | exact Kd.N_nil _ _ _ _ _ | exact Kd.V_nil _ _ _ _ _ | exact Kd.Q_nil _ _ _ _ _ | exact Kd.S_nil _ _ _ _ _, by repeat (first | (with_reducible first | exact HB.out | apply below_alloc | apply pw_below_drewN | apply below_drew1) | exact HB.out)⟩
      · rw [if_neg c2] at H
        have c2b0 : (x0_1.toList == ([] : List UInt8)) = false := beq_eq_false_iff_ne.mpr c2
        have c2b1 : (x0_1.toList != ([] : List UInt8)) = true := bne_iff_ne.mpr c2
        replace H := Option.bind_eq_some_iff.mp H
        obtain ⟨⟨t134, t135, t136⟩, A90, H⟩ := H
        replace H : ((refs_line.f k1 t134).bind fun bt137 => (if t136 = true then (if bt137.2.2.2 = true then (if x4_1.length < 2932031007402 then (refs_Parse.l0 k1 t135 (x4_1 ++ [(⟨bt137.1, bt137.2.1, bt137.2.2.1⟩ : S55)])) else (none)) else (some (([] : List (S55)), 2))) else (some (([] : List (S55)), 2)))) = some (r1, r2) := H
        have A9 := Aside0.mk A90
        clear A90
        replace H := Option.bind_eq_some_iff.mp H
        obtain ⟨⟨t137, t138, t139, t140⟩, A100, H⟩ := H
        replace H : (if t136 = true then (if t140 = true then (if x4_1.length < 2932031007402 then (refs_Parse.l0 k1 t135 (x4_1 ++ [(⟨t137, t138, t139⟩ : S55)])) else (none)) else (some (([] : List (S55)), 2))) else (some (([] : List (S55)), 2))) = some (r1, r2) := H
        have A10 := Aside0.mk A100
        clear A100
        by_cases c11 : t136 = true
        · subst c11
          have H1 : (if t140 = true then (if x4_1.length < 2932031007402 then (refs_Parse.l0 k1 t135 (x4_1 ++ [(⟨t137, t138, t139⟩ : S55)])) else (none)) else (some (([] : List (S55)), 2))) = some (r1, r2) := by rw [if_pos rfl] at H; exact H
          clear H
          have H := H1
          clear H1
          by_cases c12 : t140 = true
          · subst c12
            have H1 : (if x4_1.length < 2932031007402 then (refs_Parse.l0 k1 t135 (x4_1 ++ [(⟨t137, t138, t139⟩ : S55)])) else (none)) = some (r1, r2) := by rw [if_pos rfl] at H; exact H
            clear H
            have H := H1
            clear H1
            by_cases c13 : x4_1.length < 2932031007402
            · rw [if_pos c13] at H
              have LMc13 := Aside0.mk c13
              clear c13
              obtain ⟨y142, hy142⟩ : ∃ y_ : List (S55), y_ = (x4_1 ++ [(⟨t137, t138, t139⟩ : S55)]) := ⟨_, rfl⟩
              replace H : (refs_Parse.l0 k1 t135 y142) = some (r1, r2) := by first | (rw [hy142]; with_reducible exact H) | (have H2_ := (Option.bind_some _ _).symm.trans H; rw [hy142]; with_reducible exact H2_) | (have H2_ := (Option.bind_some _ _).symm.trans H; with_reducible exact H2_) | with_reducible exact H | (rw [hy142]; exact H) | exact H
              have Ny142 := Aside0.mk hy142
              clear hy142
              have H' := Aside0.mk H
              clear H
              go_wp2_with (first | ((with_reducible refine gate_callee (f := 57) rfl ?_); refine goesL_ (some 15) rfl rfl Tryd.func57 (by kernel_rfl) rfl #[.string x0_1, .string (⟨#[10]⟩ : ByteArray)] rfl (by (try simp only [List.map_toArray, List.map_cons, List.map_nil]); first | done | rfl | (simp only [List.length_drop, List.length_take]; rfl)) ?_; (with_reducible refine (strings_Cut.calls x0_1 (⟨#[10]⟩ : ByteArray) t134 t135 true _ A9.out).mono ?_); rintro e w' ⟨rfl, ⟨nd, rfl⟩⟩; refine ⟨_, rfl, ?_⟩; (try (rw [drewN_self wr]; generalize hq_ : World.drewN wr _ = wr; have n0_ : Aside0 (Kd.R k55 55 wr w.heap.size (fun _ => True) u4 x4_1) := ⟨by rw [← hq_]; exact (by (with_reducible repeat (first | apply Kd.R_alloc | apply Kd.R_drewN | apply Kd.R_drew)); exact HO_4.out)⟩; have n1_ : Aside0 (Below w.heap.size w wr) := ⟨by rw [← hq_]; exact (by repeat (first | (with_reducible first | exact HB.out | apply below_alloc | apply pw_below_drewN | apply below_drew1) | exact HB.out))⟩; clear HO_4 HB hq_; have HO_4 := n0_; have HB := n1_; clear n0_ n1_))) | ((with_reducible refine gate_callee (f := 90) rfl ?_); refine goesL_ (some 21) rfl rfl Tryd.func90 (by kernel_rfl) rfl #[.string t134] rfl (by (try simp only [List.map_toArray, List.map_cons, List.map_nil]); first | done | rfl | (simp only [List.length_drop, List.length_take]; rfl)) ?_; (with_reducible refine (refs_line.calls k1 t134 t137 t138 t139 true _ A10.out).mono ?_); rintro e w14 ⟨rfl, hb⟩; refine ⟨_, rfl, ?_⟩; have n0_ := Aside0.mk (Kd.R_below (by (with_reducible repeat (first | apply Kd.R_alloc | apply Kd.R_drewN | apply Kd.R_drew)); exact HO_4.out) hb); have n1_ := Aside0.mk (below_step (by repeat (first | (with_reducible first | exact HB.out | apply below_alloc | apply pw_below_drewN | apply below_drew1) | exact HB.out)) hb); clear HO_4; clear HB; have HO_4 := n0_; have HB := n1_; clear n0_ n1_; (try clear hb); (try clear hb2); (try clear hk); (try clear hi)) | ((with_reducible refine gate_dst (N := 8) rfl ?_); refine box_event ?hg (N := 8) ?hd (cs := #[.string (⟨#[]⟩ : ByteArray), .string (⟨#[]⟩ : ByteArray), .string (⟨#[]⟩ : ByteArray)]) (t := 55) ?hr ?_; (case hd => rfl); (case hg => rfl); (case hr => first | (go_simp; done) | (go_simp; rfl)); intro gb141 hg w15 hbox hb; have n0_ := Aside0.mk (Kd.R_below (Kd.R_elderB (by (with_reducible repeat (first | apply Kd.R_alloc | apply Kd.R_drewN | apply Kd.R_drew)); exact HO_4.out) gb141 (Nat.le_of_eq hg.symm)) hb); have n1_ := Aside0.mk (below_step (by repeat (first | (with_reducible first | exact HB.out | apply below_alloc | apply pw_below_drewN | apply below_drew1) | exact HB.out)) hb); have n2_ := Aside0.mk (hbox); have n3_ := Aside0.mk ((by rw [hg]; exact (below_size (by repeat (first | (with_reducible first | exact HB.out | apply below_alloc | apply pw_below_drewN | apply below_drew1) | exact HB.out))) : w.heap.size ≤ gb141)); have n4_ := Aside0.mk ((by rw [hg]; exact (below_size (by repeat (first | (with_reducible first | exact HB.out | apply below_alloc | apply pw_below_drewN | apply below_drew1) | exact HB.out))) : w.heap.size ≤ gb141)); clear HO_4; clear HB; have HO_4 := n0_; have HB := n1_; have BK141 := n2_; have GW141 := n3_; have GE141 := n4_; clear n0_ n1_ n2_ n3_ n4_; clear hb hbox hg; have hcz16_0 : w15.cell? ⟨gb141, 0, none⟩ = some (.string (⟨#[]⟩ : ByteArray)) := (blk_cell BK141.out 0).trans rfl; have hcz16_1 : w15.cell? ⟨gb141, 1, none⟩ = some (.string (⟨#[]⟩ : ByteArray)) := (blk_cell BK141.out 1).trans rfl; have hcz16_2 : w15.cell? ⟨gb141, 2, none⟩ = some (.string (⟨#[]⟩ : ByteArray)) := (blk_cell BK141.out 2).trans rfl; have hfz16_0 := blk_frozen BK141.out 0; have hfz16_1 := blk_frozen BK141.out 1; have hfz16_2 := blk_frozen BK141.out 2) | ((with_reducible refine gate_builtin (b := .append) (xs := #[.tmp 30, .tmp 32]) rfl ?_); at_builtin; refine Kd.R_append k55 (w0 := w) w.heap.size rfl (.tmp 30) (.tmp 32) 43 55 (.agg #[(.string ⟨#[]⟩), (.string ⟨#[]⟩), (.string ⟨#[]⟩)]) 48 rfl Tryd.underlying43 info55 rfl (by decide) (by omega) u4 x4_1 (⟨t137, t138, t139⟩ : S55) [.string t137, .string t138, .string t139] (fun k_ => k_ ≠ gb141) (fun _ => False) rfl (by first | (go_simp; done) | (go_simp; rfl)) ?aP (fun _ hk => hk.elim) ?aF ?aO ?aB ?aS ?aL ?_; (case aP => exact k55_mkM _ _ _ (⟨t137, t138, t139⟩ : S55)); (case aB => exact (by repeat (first | (with_reducible first | exact HB.out | apply below_alloc | apply pw_below_drewN | apply below_drew1 | refine below_set ?_ GE141.out) | exact HB.out))); (case aF => exact (fun k_ hk => Kd.freshB (g := gb141) (o := .cells #[.string t137, .string t138, .string t139] 55 (0, 0)) (by (with_reducible repeat (first | refine blk_drewN ?_ _ | refine blk_drew ?_ | refine blk_alloc ?_ _)); refine blk_put (cs := #[.string t137, .string t138, .string (⟨#[]⟩ : ByteArray)]) ?_ 2 _ rfl; (with_reducible repeat (first | refine blk_drewN ?_ _ | refine blk_drew ?_ | refine blk_alloc ?_ _)); refine blk_put (cs := #[.string t137, .string (⟨#[]⟩ : ByteArray), .string (⟨#[]⟩ : ByteArray)]) ?_ 1 _ rfl; (with_reducible repeat (first | refine blk_drewN ?_ _ | refine blk_drew ?_ | refine blk_alloc ?_ _)); refine blk_put (cs := #[.string (⟨#[]⟩ : ByteArray), .string (⟨#[]⟩ : ByteArray), .string (⟨#[]⟩ : ByteArray)]) ?_ 0 _ rfl; (with_reducible repeat (first | refine blk_drewN ?_ _ | refine blk_drew ?_ | refine blk_alloc ?_ _)); exact BK141.out) k_ hk)); (case aO => exact (by (with_reducible repeat (first | apply Kd.R_alloc | apply Kd.R_drewN | apply Kd.R_drew)); exact Kd.R_mono (Kd.R_far (p := ⟨gb141, 2, none⟩) (Kd.R_far (p := ⟨gb141, 1, none⟩) (Kd.R_far (p := ⟨gb141, 0, none⟩) (Kd.R_mono HO_4.out (fun k_ hk => (⟨hk, hk.2⟩ : _ ∧ k_ ≠ gb141))) (fun _ hk => hk.2) (.string t137)) (fun _ hk => hk.2) (.string t138)) (fun _ hk => hk.2) (.string t139)) (fun _ hk => hk.1.2))); (case aS => exact (below_size (by repeat (first | (with_reducible first | exact HB.out | apply below_alloc | apply pw_below_drewN | apply below_drew1 | refine below_set ?_ GE141.out) | exact HB.out)))); (case aL => have := LMc13.out; omega); intro v143 w17 ho hb hg hat; rw [← Ny142.out] at ho; have n0_ := Aside0.mk (blk_grown (g := gb141) (o := .cells #[.string t137, .string t138, .string t139] 55 (0, 0)) (by (with_reducible repeat (first | refine blk_drewN ?_ _ | refine blk_drew ?_ | refine blk_alloc ?_ _)); refine blk_put (cs := #[.string t137, .string t138, .string (⟨#[]⟩ : ByteArray)]) ?_ 2 _ rfl; (with_reducible repeat (first | refine blk_drewN ?_ _ | refine blk_drew ?_ | refine blk_alloc ?_ _)); refine blk_put (cs := #[.string t137, .string (⟨#[]⟩ : ByteArray), .string (⟨#[]⟩ : ByteArray)]) ?_ 1 _ rfl; (with_reducible repeat (first | refine blk_drewN ?_ _ | refine blk_drew ?_ | refine blk_alloc ?_ _)); refine blk_put (cs := #[.string (⟨#[]⟩ : ByteArray), .string (⟨#[]⟩ : ByteArray), .string (⟨#[]⟩ : ByteArray)]) ?_ 0 _ rfl; (with_reducible repeat (first | refine blk_drewN ?_ _ | refine blk_drew ?_ | refine blk_alloc ?_ _)); exact BK141.out) hg (Kd.R_away HO_4.out (fun _ hk => hk.2))); have n1_ := Aside0.mk (hb); have n2_ := Aside0.mk (ho); clear BK141; clear HB; clear HO_4; have BK141 := n0_; have HB := n1_; have HO144 := n2_; clear n0_ n1_ n2_; clear ho hb hg hat))
              go_roundg k1
              case measure => have := HK1.out; omega
              case rel => exact ⟨(t135), (y142), (by first | rfl | (simp; done) | (simp [*]; done) | (simp [ne_nil_bool]; done) | (simp [*, ne_nil_bool]; done)), H', ⟨by have := HK1.out; omega⟩, ⟨by (with_reducible repeat (first | apply Kd.R_alloc | apply Kd.R_drewN | apply Kd.R_drew)); exact Kd.R_mono HO144.out (fun _ hk => trivial)⟩, ⟨by repeat (first | (with_reducible first | exact HB.out | apply below_alloc | apply pw_below_drewN | apply below_drew1 | refine below_set ?_ GE141.out) | exact HB.out)⟩⟩
            · rw [if_neg c13] at H
              exact absurd H (by simp)
          · replace c12 := Bool.eq_false_iff.mpr c12
            subst c12
            have H1 : (some (([] : List (S55)), 2)) = some (r1, r2) := by rw [if_neg (show ¬ (false = true) by decide)] at H; exact H
            clear H
            have H := H1
            clear H1
            simp only [Option.some.injEq, Prod.mk.injEq] at H
            obtain ⟨rfl, rfl⟩ := H
            go_wp2_with (first | ((with_reducible refine gate_callee (f := 57) rfl ?_); refine goesL_ (some 15) rfl rfl Tryd.func57 (by kernel_rfl) rfl #[.string x0_1, .string (⟨#[10]⟩ : ByteArray)] rfl (by (try simp only [List.map_toArray, List.map_cons, List.map_nil]); first | done | rfl | (simp only [List.length_drop, List.length_take]; rfl)) ?_; (with_reducible refine (strings_Cut.calls x0_1 (⟨#[10]⟩ : ByteArray) t134 t135 true _ A9.out).mono ?_); rintro e w' ⟨rfl, ⟨nd, rfl⟩⟩; refine ⟨_, rfl, ?_⟩; (try (rw [drewN_self wr]; generalize hq_ : World.drewN wr _ = wr; have n0_ : Aside0 (Kd.R k55 55 wr w.heap.size (fun _ => True) u4 x4_1) := ⟨by rw [← hq_]; exact (by (with_reducible repeat (first | apply Kd.R_alloc | apply Kd.R_drewN | apply Kd.R_drew)); exact HO_4.out)⟩; have n1_ : Aside0 (Below w.heap.size w wr) := ⟨by rw [← hq_]; exact (by repeat (first | (with_reducible first | exact HB.out | apply below_alloc | apply pw_below_drewN | apply below_drew1) | exact HB.out))⟩; clear HO_4 HB hq_; have HO_4 := n0_; have HB := n1_; clear n0_ n1_))) | ((with_reducible refine gate_callee (f := 90) rfl ?_); refine goesL_ (some 21) rfl rfl Tryd.func90 (by kernel_rfl) rfl #[.string t134] rfl (by (try simp only [List.map_toArray, List.map_cons, List.map_nil]); first | done | rfl | (simp only [List.length_drop, List.length_take]; rfl)) ?_; (with_reducible refine (refs_line.calls k1 t134 t137 t138 t139 false _ A10.out).mono ?_); rintro e w18 ⟨rfl, hb⟩; refine ⟨_, rfl, ?_⟩; have n0_ := Aside0.mk (Kd.R_below (by (with_reducible repeat (first | apply Kd.R_alloc | apply Kd.R_drewN | apply Kd.R_drew)); exact HO_4.out) hb); have n1_ := Aside0.mk (below_step (by repeat (first | (with_reducible first | exact HB.out | apply below_alloc | apply pw_below_drewN | apply below_drew1) | exact HB.out)) hb); clear HO_4; clear HB; have HO_4 := n0_; have HB := n1_; clear n0_ n1_; (try clear hb); (try clear hb2); (try clear hk); (try clear hi)) | ((with_reducible refine gate_dst (N := 8) rfl ?_); refine box_event ?hg (N := 8) ?hd (cs := #[.string (⟨#[]⟩ : ByteArray), .string (⟨#[]⟩ : ByteArray), .string (⟨#[]⟩ : ByteArray)]) (t := 55) ?hr ?_; (case hd => rfl); (case hg => rfl); (case hr => first | (go_simp; done) | (go_simp; rfl)); intro gb141 hg w19 hbox hb; have n0_ := Aside0.mk (Kd.R_below (Kd.R_elderB (by (with_reducible repeat (first | apply Kd.R_alloc | apply Kd.R_drewN | apply Kd.R_drew)); exact HO_4.out) gb141 (Nat.le_of_eq hg.symm)) hb); have n1_ := Aside0.mk (below_step (by repeat (first | (with_reducible first | exact HB.out | apply below_alloc | apply pw_below_drewN | apply below_drew1) | exact HB.out)) hb); have n2_ := Aside0.mk (hbox); have n3_ := Aside0.mk ((by rw [hg]; exact (below_size (by repeat (first | (with_reducible first | exact HB.out | apply below_alloc | apply pw_below_drewN | apply below_drew1) | exact HB.out))) : w.heap.size ≤ gb141)); have n4_ := Aside0.mk ((by rw [hg]; exact (below_size (by repeat (first | (with_reducible first | exact HB.out | apply below_alloc | apply pw_below_drewN | apply below_drew1) | exact HB.out))) : w.heap.size ≤ gb141)); clear HO_4; clear HB; have HO_4 := n0_; have HB := n1_; have BK141 := n2_; have GW141 := n3_; have GE141 := n4_; clear n0_ n1_ n2_ n3_ n4_; clear hb hbox hg; have hcz20_0 : w19.cell? ⟨gb141, 0, none⟩ = some (.string (⟨#[]⟩ : ByteArray)) := (blk_cell BK141.out 0).trans rfl; have hcz20_1 : w19.cell? ⟨gb141, 1, none⟩ = some (.string (⟨#[]⟩ : ByteArray)) := (blk_cell BK141.out 1).trans rfl; have hcz20_2 : w19.cell? ⟨gb141, 2, none⟩ = some (.string (⟨#[]⟩ : ByteArray)) := (blk_cell BK141.out 2).trans rfl; have hfz20_0 := blk_frozen BK141.out 0; have hfz20_1 := blk_frozen BK141.out 1; have hfz20_2 := blk_frozen BK141.out 2))
            go_ret2
            exact ⟨_, by first | rfl | (simp [errW_none, errW_some] <;> rfl) | (simp [*, errW_none, errW_some] <;> rfl) | (simp [ne_nil_bool]; done) | (simp [*, ne_nil_bool]; done), by first | exact Kd.R_nil _ _ _ _ _ | exact Kd.N_nil _ _ _ _ _ | exact Kd.V_nil _ _ _ _ _ | exact Kd.Q_nil _ _ _ _ _ | exact Kd.S_nil _ _ _ _ _, by repeat (first | (with_reducible first | exact HB.out | apply below_alloc | apply pw_below_drewN | apply below_drew1 | refine below_set ?_ GE141.out) | exact HB.out)⟩
        · replace c11 := Bool.eq_false_iff.mpr c11
          subst c11
          have H1 : (some (([] : List (S55)), 2)) = some (r1, r2) := by rw [if_neg (show ¬ (false = true) by decide)] at H; exact H
          clear H
          have H := H1
          clear H1
          simp only [Option.some.injEq, Prod.mk.injEq] at H
          obtain ⟨rfl, rfl⟩ := H
          go_wp2_with (first | ((with_reducible refine gate_callee (f := 57) rfl ?_); refine goesL_ (some 15) rfl rfl Tryd.func57 (by kernel_rfl) rfl #[.string x0_1, .string (⟨#[10]⟩ : ByteArray)] rfl (by (try simp only [List.map_toArray, List.map_cons, List.map_nil]); first | done | rfl | (simp only [List.length_drop, List.length_take]; rfl)) ?_; (with_reducible refine (strings_Cut.calls x0_1 (⟨#[10]⟩ : ByteArray) t134 t135 false _ A9.out).mono ?_); rintro e w' ⟨rfl, ⟨nd, rfl⟩⟩; refine ⟨_, rfl, ?_⟩; (try (rw [drewN_self wr]; generalize hq_ : World.drewN wr _ = wr; have n0_ : Aside0 (Kd.R k55 55 wr w.heap.size (fun _ => True) u4 x4_1) := ⟨by rw [← hq_]; exact (by (with_reducible repeat (first | apply Kd.R_alloc | apply Kd.R_drewN | apply Kd.R_drew)); exact HO_4.out)⟩; have n1_ : Aside0 (Below w.heap.size w wr) := ⟨by rw [← hq_]; exact (by repeat (first | (with_reducible first | exact HB.out | apply below_alloc | apply pw_below_drewN | apply below_drew1) | exact HB.out))⟩; clear HO_4 HB hq_; have HO_4 := n0_; have HB := n1_; clear n0_ n1_))) | ((with_reducible refine gate_callee (f := 90) rfl ?_); refine goesL_ (some 21) rfl rfl Tryd.func90 (by kernel_rfl) rfl #[.string t134] rfl (by (try simp only [List.map_toArray, List.map_cons, List.map_nil]); first | done | rfl | (simp only [List.length_drop, List.length_take]; rfl)) ?_; (with_reducible refine (refs_line.calls k1 t134 t137 t138 t139 t140 _ A10.out).mono ?_); rintro e w21 ⟨rfl, hb⟩; refine ⟨_, rfl, ?_⟩; have n0_ := Aside0.mk (Kd.R_below (by (with_reducible repeat (first | apply Kd.R_alloc | apply Kd.R_drewN | apply Kd.R_drew)); exact HO_4.out) hb); have n1_ := Aside0.mk (below_step (by repeat (first | (with_reducible first | exact HB.out | apply below_alloc | apply pw_below_drewN | apply below_drew1) | exact HB.out)) hb); clear HO_4; clear HB; have HO_4 := n0_; have HB := n1_; clear n0_ n1_; (try clear hb); (try clear hb2); (try clear hk); (try clear hi)) | ((with_reducible refine gate_dst (N := 8) rfl ?_); refine box_event ?hg (N := 8) ?hd (cs := #[.string (⟨#[]⟩ : ByteArray), .string (⟨#[]⟩ : ByteArray), .string (⟨#[]⟩ : ByteArray)]) (t := 55) ?hr ?_; (case hd => rfl); (case hg => rfl); (case hr => first | (go_simp; done) | (go_simp; rfl)); intro gb141 hg w22 hbox hb; have n0_ := Aside0.mk (Kd.R_below (Kd.R_elderB (by (with_reducible repeat (first | apply Kd.R_alloc | apply Kd.R_drewN | apply Kd.R_drew)); exact HO_4.out) gb141 (Nat.le_of_eq hg.symm)) hb); have n1_ := Aside0.mk (below_step (by repeat (first | (with_reducible first | exact HB.out | apply below_alloc | apply pw_below_drewN | apply below_drew1) | exact HB.out)) hb); have n2_ := Aside0.mk (hbox); have n3_ := Aside0.mk ((by rw [hg]; exact (below_size (by repeat (first | (with_reducible first | exact HB.out | apply below_alloc | apply pw_below_drewN | apply below_drew1) | exact HB.out))) : w.heap.size ≤ gb141)); have n4_ := Aside0.mk ((by rw [hg]; exact (below_size (by repeat (first | (with_reducible first | exact HB.out | apply below_alloc | apply pw_below_drewN | apply below_drew1) | exact HB.out))) : w.heap.size ≤ gb141)); clear HO_4; clear HB; have HO_4 := n0_; have HB := n1_; have BK141 := n2_; have GW141 := n3_; have GE141 := n4_; clear n0_ n1_ n2_ n3_ n4_; clear hb hbox hg; have hcz23_0 : w22.cell? ⟨gb141, 0, none⟩ = some (.string (⟨#[]⟩ : ByteArray)) := (blk_cell BK141.out 0).trans rfl; have hcz23_1 : w22.cell? ⟨gb141, 1, none⟩ = some (.string (⟨#[]⟩ : ByteArray)) := (blk_cell BK141.out 1).trans rfl; have hcz23_2 : w22.cell? ⟨gb141, 2, none⟩ = some (.string (⟨#[]⟩ : ByteArray)) := (blk_cell BK141.out 2).trans rfl; have hfz23_0 := blk_frozen BK141.out 0; have hfz23_1 := blk_frozen BK141.out 1; have hfz23_2 := blk_frozen BK141.out 2))
          go_ret2
          exact ⟨_, by first | rfl | (simp [errW_none, errW_some] <;> rfl) | (simp [*, errW_none, errW_some] <;> rfl) | (simp [ne_nil_bool]; done) | (simp [*, ne_nil_bool]; done), by first | exact Kd.R_nil _ _ _ _ _ | exact Kd.N_nil _ _ _ _ _ | exact Kd.V_nil _ _ _ _ _ | exact Kd.Q_nil _ _ _ _ _ | exact Kd.S_nil _ _ _ _ _, by repeat (first | (with_reducible first | exact HB.out | apply below_alloc | apply pw_below_drewN | apply below_drew1 | refine below_set ?_ GE141.out) | exact HB.out)⟩

end Go.Proofs.YtccbpbdfihnlgaaDoor.Q


/- strings.Builder as a state of one text: its predicate, and the contracts of WriteString and String. -/
namespace Go.Proofs.YtccbpbdfihnlgaaDoor.Q
open Go.RowKit Go.Proofs.YtccbpbdfihnlgaaDoorW.PrintWords Go.Proofs.YtccbpbdfihnlgaaDoorW.PrintLast Go.Proofs.YtccbpbdfihnlgaaDoorW.PrintMore

def bl166_ren : Go.Shelf.Ren := ⟨fun | 166 => 50 | 240 => 105 | 276 => 133 | n => n, fun | 0 => 0 | 3 => 3 | 4 => 4 | 5 => 5 | 9 => 9 | 20 => 20 | 37 => 64 | 70 => 63 | 72 => 66 | 75 => 70 | 80 => 74 | 164 => 122 | n => n, fun | n => n⟩
theorem bl166 : Go.Proofs.Lays.n166 Tryd.prog bl166_ren := {
  mixed := by kernel_rfl
  f166 := Tryd.func50.trans (congrArg some (by kernel_rfl))
  f240 := Tryd.func105.trans (congrArg some (by kernel_rfl))
  f276 := Tryd.func133.trans (congrArg some (by kernel_rfl))
  t0 := Tryd.underlying0
  a0 := Tryd.isAgg0
  z0 := Tryd.sizeOf0
  v0 := Tryd.zeroValue0
  t3 := Tryd.underlying3
  a3 := Tryd.isAgg3
  z3 := Tryd.sizeOf3
  v3 := Tryd.zeroValue3
  t4 := Tryd.underlying4
  a4 := Tryd.isAgg4
  z4 := Tryd.sizeOf4
  v4 := Tryd.zeroValue4
  t9 := Tryd.underlying9
  a9 := Tryd.isAgg9
  z9 := Tryd.sizeOf9
  v9 := Tryd.zeroValue9
  t20 := Tryd.underlying20
  a20 := Tryd.isAgg20
  z20 := Tryd.sizeOf20
  v20 := Tryd.zeroValue20
  t37 := Tryd.underlying64
  a37 := Tryd.isAgg64
  z37 := Tryd.sizeOf64
  v37 := Tryd.zeroValue64
  t70 := Tryd.underlying63
  a70 := Tryd.isAgg63
  z70 := Tryd.sizeOf63
  v70 := Tryd.zeroValue63
  t72 := Tryd.underlying66
  a72 := Tryd.isAgg66
  z72 := Tryd.sizeOf66
  v72 := Tryd.zeroValue66
  t75 := Tryd.underlying70
  a75 := Tryd.isAgg70
  z75 := Tryd.sizeOf70
  v75 := Tryd.zeroValue70
  t164 := Tryd.underlying122
  a164 := Tryd.isAgg122
  z164 := Tryd.sizeOf122
  v164 := Tryd.zeroValue122 }
theorem bl166_Extra : Builder.Extra Tryd.prog bl166_ren := {
  sizeBuilder := by kernel_rfl
  liesBuilder := by kernel_rfl
  t5 := Tryd.underlying5
  a5 := Tryd.isAgg5
  z5 := Tryd.sizeOf5
  v5 := Tryd.zeroValue5
  infoByte := by kernel_rfl
  cellsByte := by kernel_rfl
  sizeByte := by kernel_rfl
  neB5 := by decide }
/-- A builder at block g of W, made since w0, that holds the text f0. -/
def IsS66 (w0 W : World) (g : Nat) (f0 : ByteArray) : Prop := w0.heap.size ≤ g ∧ Lib.IsBuilderF 66 5 g g (Lib.byteCells f0.data.toList) W
theorem bldAt_move {T e : TypeId} {B b : Nat} {p : Value} {bs : List Value} {w w1 : World} (h : Lib.BuilderAtF T e B b p bs w) (hm : ∀ k, k < w.heap.size → w1.heap[k]? = w.heap[k]?) : Lib.BuilderAtF T e B b p bs w1 := by
  have hlt := h.lt
  obtain ⟨hB, v, hb, ho, hne⟩ := h
  refine ⟨hB, v, (hm b hlt).trans hb, ?_, hne⟩
  have hl := ho.lt
  obtain ⟨h1, h2⟩ := ho
  refine ⟨h1, ?_⟩
  rcases h2 with h2 | ⟨g, cap, cur, fz, rfl, hg, hh, r⟩
  · exact .inl h2
  · exact .inr ⟨g, cap, cur, fz, rfl, hg, (hm g (hl g (by simp [Value.ownBlock])).2).trans hh, r⟩
section
variable {w0 W W1 : World} {g : Nat} {f0 : ByteArray}
theorem IsS66.below (h : IsS66 w0 W g f0) (hw : Below W.heap.size W W1) : IsS66 w0 W1 g f0 :=
  ⟨h.1, h.2.elim (fun x => .inl (bldAt_move x hw.block)) (fun x => .inr (bldAt_move x hw.block))⟩
theorem IsS66.alloc (h : IsS66 w0 W g f0) (o : Obj) : IsS66 w0 (W.alloc o) g f0 := h.below (below_alloc (Below.refl _ _) o)
theorem IsS66.drewN (h : IsS66 w0 W g f0) (m : Nat) : IsS66 w0 (W.drewN m) g f0 := h
theorem IsS66.drew (h : IsS66 w0 W g f0) : IsS66 w0 W.drew g f0 := h
theorem IsS66.at_ {m : Nat} (hq : W.drewN m = W1) (h : IsS66 w0 W g f0) : IsS66 w0 W1 g f0 := by subst hq; exact h
theorem IsS66.ge (h : IsS66 w0 W g f0) : w0.heap.size ≤ g := h.1
theorem IsS66.lt (h : IsS66 w0 W g f0) : g < W.heap.size := h.2.elim (fun x => x.lt) (fun x => x.lt)
theorem IsS66.made (hb : W.heap[g]? = some (.cells #[.pointer none, .slice none 0 0] 66 (0, 0))) (hg : w0.heap.size ≤ g) : IsS66 w0 W g ⟨#[]⟩ :=
  ⟨hg, .inl ⟨Nat.le_refl _, .slice none 0 0, hb, World.ownsRowF_nil _ _ _ _, by simp [Value.ownBlock]⟩⟩
/-- A block's type, whatever was stored into it. -/
def TypedBlk (W : World) (k : Nat) (t : TypeId) : Prop := ∃ cs fr, W.heap[k]? = some (.cells cs t fr)
theorem TypedBlk.setCell {k : Nat} {t : TypeId} (h : TypedBlk W k t) (p : Addr) (u : Value) : TypedBlk (W.setCell p u) k t := by
  obtain ⟨cs, fr, hc⟩ := h
  by_cases e : k = p.block
  · subst e
    cases hs : p.spot with
    | none => exact ⟨cs.setIfInBounds p.off u, fr, by simp [World.setCell, Array.getElem?_modify, hc, hs]⟩
    | some s => exact ⟨cs, fr, by simp [World.setCell, Array.getElem?_modify, hc, hs]⟩
  · exact ⟨cs, fr, by rw [Below.heap_setCell _ _ _ _ e]; exact hc⟩
theorem TypedBlk.alloc {k : Nat} {t : TypeId} (h : TypedBlk W k t) (o : Obj) : TypedBlk (W.alloc o) k t := by
  obtain ⟨cs, fr, hc⟩ := h
  exact ⟨cs, fr, (Lib.alloc_old W o k (blk_lt hc)).trans hc⟩
theorem TypedBlk.drewN {k : Nat} {t : TypeId} (h : TypedBlk W k t) (m : Nat) : TypedBlk (W.drewN m) k t := h
theorem TypedBlk.drew {k : Nat} {t : TypeId} (h : TypedBlk W k t) : TypedBlk W.drew k t := h
theorem okept_blk {e k : Nat} {cs : Array Value} {t : TypeId} {fr : Nat × Nat} {w w' : World} (hk : Lib.OthersKept e (some g) w w') (hb : w.heap[k]? = some (.cells cs t fr)) (hne : k ≠ g) (ht : t ≠ e) : w'.heap[k]? = some (.cells cs t fr) :=
  hk k _ hb (by simpa using hne) (fun c fz he => by injection he with _ h1; exact ht h1)
theorem bldAt_other {T e : TypeId} {B b : Nat} {p : Value} {bs : List Value} {w w1 : World} (h : Lib.BuilderAtF T e B b p bs w) {q : Addr} {t : TypeId} (hq : TypedBlk w q.block t) (ht : t ≠ e) (hne : b ≠ q.block) (hm : ∀ k, k ≠ q.block → w1.heap[k]? = w.heap[k]?) : Lib.BuilderAtF T e B b p bs w1 := by
  obtain ⟨hB, v, hb, ho, hn⟩ := h
  refine ⟨hB, v, (hm b hne).trans hb, ?_, hn⟩
  obtain ⟨h1, h2⟩ := ho
  refine ⟨h1, ?_⟩
  rcases h2 with h2 | ⟨g, cap, cur, fz, rfl, hg, hh, r⟩
  · exact .inl h2
  · refine .inr ⟨g, cap, cur, fz, rfl, hg, (hm g ?_).trans hh, r⟩
    rintro rfl
    obtain ⟨cs, fr, hc⟩ := hq
    rw [hc] at hh
    injection hh with hh
    injection hh with _ hh
    exact ht hh
theorem IsS66.farT {k j : Nat} {t : TypeId} (h : IsS66 w0 W g f0) (hq : TypedBlk W k t) (ht : t ≠ 5) (hne : g ≠ k) (u : Value) : IsS66 w0 (W.setCell ⟨k, j, none⟩ u) g f0 :=
  ⟨h.1, h.2.elim (fun x => .inl (bldAt_other (q := ⟨k, j, none⟩) x hq ht hne (fun k hk => Below.heap_setCell _ _ _ _ hk))) (fun x => .inr (bldAt_other (q := ⟨k, j, none⟩) x hq ht hne (fun k hk => Below.heap_setCell _ _ _ _ hk)))⟩
theorem typedBlk_of {k : Nat} {cs : Array Value} {t : TypeId} {fr : Nat × Nat} (h : W.heap[k]? = some (.cells cs t fr)) : TypedBlk W k t := ⟨cs, fr, h⟩
end
def Builder_WriteString.f (s0 s : ByteArray) : Option (Int × Option Int × ByteArray) := if s0.size + s.size ≤ 140737488355328 then some (s.size, none, s0 ++ s) else none
theorem append_data' (a b : ByteArray) : (a ++ b).data.toList = a.data.toList ++ b.data.toList := by simp
theorem strCells_eq (s : ByteArray) : Lib.strCells s = Lib.byteCells s.data.toList := rfl
theorem Builder_WriteString.calls (g : Nat) (s0_0 : ByteArray) (a1 : ByteArray) (r1 : Int) (r2 : Option Int) (r3 : ByteArray) (w0 w : World) (hI : IsS66 w0 w g s0_0) (hB : Below w0.heap.size w0 w) (h : Builder_WriteString.f s0_0 a1 = some (r1, r2, r3)) :
    Calls Tryd.prog 50 #[.pointer (some ⟨g, 0, none⟩), .string a1] w fun e w' => e = .returned (.tuple #[.int .i64 r1, errW r2]) ∧ IsS66 w0 w' g r3 ∧ Below w0.heap.size w0 w' ∧ Lib.OthersKept 5 (some g) w w' := by
  unfold Builder_WriteString.f at h
  by_cases hs : s0_0.size + a1.size ≤ 140737488355328
  case neg => rw [if_neg hs] at h; simp at h
  rw [if_pos hs] at h
  simp only [Option.some.injEq, Prod.mk.injEq] at h
  obtain ⟨rfl, rfl, rfl⟩ := h
  refine (Any.Builder_WriteString_k bl166 bl166_Extra g g (Lib.byteCells s0_0.data.toList) a1 w hI.2 (by simp [Lib.byteCells]; exact hs) (Nat.le_of_lt hI.lt)).mono ?_
  rintro e w' ⟨rfl, hb, hbel, hok⟩
  refine ⟨by rw [errW_none], ⟨hI.1, .inr ?_⟩, ?_, hok⟩
  · rw [strCells_eq, ← Lib.byteCells_append] at hb
    rw [append_data']
    exact hb
  · exact hB.trans (hbel.mono hI.1)
def Builder_String.f (s0 : ByteArray) : Option (ByteArray × ByteArray) := some (s0, s0)
theorem Builder_String.calls (g : Nat) (s0_0 : ByteArray) (r1 r2 : ByteArray) (w0 w : World) (hI : IsS66 w0 w g s0_0) (hB : Below w0.heap.size w0 w) (h : Builder_String.f s0_0 = some (r1, r2)) :
    Calls Tryd.prog 52 #[.pointer (some ⟨g, 0, none⟩)] w fun e w' => e = .returned (.string r1) ∧ IsS66 w0 w' g r2 ∧ Below w0.heap.size w0 w' ∧ Lib.OthersKept 5 (some g) w w' := by
  unfold Builder_String.f at h
  simp only [Option.some.injEq, Prod.mk.injEq] at h
  obtain ⟨rfl, rfl⟩ := h
  refine (Any.Builder_String_any_k Tryd.lays169 Tryd.Builder_Extra_169 g g s0_0.data.toList w hI.2 (Nat.le_of_lt hI.lt)).mono ?_
  rintro e w' ⟨rfl, hb, hbel, hok⟩
  exact ⟨rfl, ⟨hI.1, hb⟩, hB.trans (hbel.mono hI.1), hok⟩
end Go.Proofs.YtccbpbdfihnlgaaDoor.Q


/- Contracts of Go functions as calls of plain Lean functions, written by a program of this session over the kit's print. -/
namespace Go.Proofs.YtccbpbdfihnlgaaDoor.Q
open Go.RowKit Go.Proofs.YtccbpbdfihnlgaaDoorW.PrintWords Go.Proofs.YtccbpbdfihnlgaaDoorW.PrintLast Go.Proofs.YtccbpbdfihnlgaaDoorW.PrintMore
attribute [local go_sem] max2_int min2_int max_two min_two max_three min_three max_four min_four   -- for this text's walks alone

/-! ### refs_Text: function 38 -/
def refs_Text.l0 : Nat → List (S55) → Int → Int → ByteArray → Option (ByteArray × Int)
  | 0, _, _, _, _ => none
  | k + 1, x14, x15, x16, x103000 => if x16 < x15 then (if 0 ≤ x16 then (if x16 < (x14.length : Int) then (if ((rd_T55 x14 x16).f2).toList = ([] : List UInt8) then (if ((rd_T55 x14 x16).f1).size + 1 ≤ 9223372036854775807 then (if (((rd_T55 x14 x16).f1) ++ (⟨#[32]⟩ : ByteArray)).size + ((rd_T55 x14 x16).f0).size ≤ 9223372036854775807 then (if ((((rd_T55 x14 x16).f1) ++ (⟨#[32]⟩ : ByteArray)) ++ ((rd_T55 x14 x16).f0)).size + 1 ≤ 9223372036854775807 then ((Builder_WriteString.f x103000 (((((rd_T55 x14 x16).f1) ++ (⟨#[32]⟩ : ByteArray)) ++ ((rd_T55 x14 x16).f0)) ++ (⟨#[10]⟩ : ByteArray))).bind fun bt105 => (refs_Text.l0 k x14 x15 (wrap64 (x16 + 1)) bt105.2.2)) else (none)) else (none)) else (none)) else (if 1 + ((rd_T55 x14 x16).f2).size ≤ 9223372036854775807 then (if ((⟨#[64]⟩ : ByteArray) ++ ((rd_T55 x14 x16).f2)).size + 1 ≤ 9223372036854775807 then (if (((⟨#[64]⟩ : ByteArray) ++ ((rd_T55 x14 x16).f2)) ++ (⟨#[32]⟩ : ByteArray)).size + ((rd_T55 x14 x16).f0).size ≤ 9223372036854775807 then (if ((((⟨#[64]⟩ : ByteArray) ++ ((rd_T55 x14 x16).f2)) ++ (⟨#[32]⟩ : ByteArray)) ++ ((rd_T55 x14 x16).f0)).size + 1 ≤ 9223372036854775807 then ((Builder_WriteString.f x103000 (((((⟨#[64]⟩ : ByteArray) ++ ((rd_T55 x14 x16).f2)) ++ (⟨#[32]⟩ : ByteArray)) ++ ((rd_T55 x14 x16).f0)) ++ (⟨#[10]⟩ : ByteArray))).bind fun bt108 => (refs_Text.l0 k x14 x15 (wrap64 (x16 + 1)) bt108.2.2)) else (none)) else (none)) else (none)) else (none))) else (none)) else (none)) else ((Builder_String.f x103000).bind fun bt111 => (some (bt111.1, 0)))
def refs_Text.f (k : Nat) (l0 : List (S55)) : Option (ByteArray × Int) := (refs_Check.f k l0).bind fun t101 => (if t101 = 0 then (refs_Text.l0 k l0 (l0.length : Int) 0 (⟨#[]⟩ : ByteArray)) else (some ((⟨#[]⟩ : ByteArray), t101)))
theorem refs_Text.mono_l : ∀ k, (∀ y0 y1 y2 y3, LeO (refs_Text.l0 k y0 y1 y2 y3) (refs_Text.l0 (k + 1) y0 y1 y2 y3))
  | 0 => fun _ _ _ _ r h => by simp [refs_Text.l0] at h
  | k + 1 => by
    have ih0 := refs_Text.mono_l k
    · intro y0 y1 y2 y3
      unfold refs_Text.l0
      repeat' first
      | (with_reducible exact ih0 _ _ _ _)
      | (with_reducible exact refs_Check.mono _ _)
      | (with_reducible exact LeO.refl _)
      | (with_reducible exact LeO.none _)
      | (with_reducible refine LeO.ite ?_ ?_)
      | (with_reducible refine LeO.bind ?_ (fun _ => ?_))
      | exact ih0 _ _ _ _
      | exact refs_Check.mono _ _
      | exact LeO.none _
      | refine LeO.ite ?_ ?_
      | refine LeO.bind ?_ (fun _ => ?_)
theorem refs_Text.mono : ∀ a0 k, LeO (refs_Text.f k a0) (refs_Text.f (k + 1) a0) := by
  intro a0 k
  have ih0 := refs_Text.mono_l k
  unfold refs_Text.f
  repeat' first
      | (with_reducible exact ih0 _ _ _ _)
      | (with_reducible exact refs_Check.mono _ _)
      | (with_reducible exact LeO.refl _)
      | (with_reducible exact LeO.none _)
      | (with_reducible refine LeO.ite ?_ ?_)
      | (with_reducible refine LeO.bind ?_ (fun _ => ?_))
      | exact ih0 _ _ _ _
      | exact refs_Check.mono _ _
      | exact LeO.none _
      | refine LeO.ite ?_ ?_
      | refine LeO.bind ?_ (fun _ => ?_)
set_option maxHeartbeats 8000000 in
set_option maxRecDepth 100000 in
theorem refs_Text.calls (k : Nat) (A0 : Option Addr) (c0 : Nat) (l0 : List (S55)) (r1 : ByteArray) (r2 : Int) (w : World) (hr0 : Kd.C k55 w A0 l0.length l0) (hc0 : l0.length ≤ c0) (hgv : GV w) (h : refs_Text.f k l0 = some (r1, r2)) :
    Calls Tryd.prog 38 #[.slice A0 l0.length c0] w fun e w' => e = .returned (.tuple #[.string r1, .int .i64 r2]) ∧ Below w.heap.size w w' := by
  have hu66 := Tryd.underlying66
  have hu55 := Tryd.underlying55
  have HR0 := Aside0.mk hr0
  have HC0 := Aside0.mk hc0
  clear hr0 hc0
  have HB := Aside0.mk (Below.refl w.heap.size w)
  have H : ((refs_Check.f k l0).bind fun t101 => (if t101 = 0 then (refs_Text.l0 k l0 (l0.length : Int) 0 (⟨#[]⟩ : ByteArray)) else (some ((⟨#[]⟩ : ByteArray), t101)))) = some (r1, r2) := h
  clear h
  replace H := Option.bind_eq_some_iff.mp H
  obtain ⟨t101, A20, H⟩ := H
  replace H : (if t101 = 0 then (refs_Text.l0 k l0 (l0.length : Int) 0 (⟨#[]⟩ : ByteArray)) else (some ((⟨#[]⟩ : ByteArray), t101))) = some (r1, r2) := H
  have A2 := Aside0.mk A20
  clear A20
  by_cases c3 : t101 = 0
  · rw [if_pos c3] at H
    have c3b0 : (t101 == 0) = true := beq_iff_eq.mpr c3
    have c3b1 : (t101 != 0) = false := bne_eq_false_iff_eq.mpr c3
    clear c3
    have H' := Aside0.mk H
    clear H
    go_enter Tryd.func38, Tryd.ntmps38
    go_wp2_with (first | ((with_reducible refine gate_callee (f := 36) rfl ?_); refine goesL_ (some 10) rfl rfl Tryd.func36 (by kernel_rfl) rfl #[.slice A0 l0.length c0] rfl (by (try simp only [List.map_toArray, List.map_cons, List.map_nil]); first | done | rfl | (simp only [List.length_drop, List.length_take]; rfl)) ?_; (with_reducible refine (refs_Check.calls k _ _ l0 t101 _ ?side1 ?side2 ?side3 A2.out).mono ?_); (case side1 => repeat (first | exact HR0.out | (with_reducible refine Kd.C_alloc ?_ _) | (with_reducible refine Kd.C_drewN ?_ _) | (with_reducible refine Kd.C_drew ?_))); (case side2 => exact HC0.out); (case side3 => exact GV.below hgv (by repeat (first | (with_reducible first | exact HB.out | apply below_alloc | apply pw_below_drewN | apply below_drew1) | exact HB.out))); rintro e w4 ⟨rfl, hb⟩; refine ⟨_, rfl, ?_⟩; have n0_ := Aside0.mk (below_step (by repeat (first | (with_reducible first | exact HB.out | apply below_alloc | apply pw_below_drewN | apply below_drew1) | exact HB.out)) hb); clear HB; have HB := n0_; clear n0_; (try clear hb); (try clear hb2); (try clear hk); (try clear hi)) | ((with_reducible refine gate_dst (N := 5) rfl ?_); refine box_event ?hg (N := 5) ?hd (cs := #[.pointer none, .slice none 0 0]) (t := 66) ?hr ?_; (case hd => rfl); (case hg => rfl); (case hr => first | (go_simp; done) | (go_simp; rfl)); intro gb102 hg w5 hbox hb; have n0_ := Aside0.mk (below_step (by repeat (first | (with_reducible first | exact HB.out | apply below_alloc | apply pw_below_drewN | apply below_drew1) | exact HB.out)) hb); have n1_ := Aside0.mk (IsS66.made hbox (by rw [hg]; exact (below_size (by repeat (first | (with_reducible first | exact HB.out | apply below_alloc | apply pw_below_drewN | apply below_drew1) | exact HB.out))) : w.heap.size ≤ gb102)); clear HB; have HB := n0_; have HI102 := n1_; clear n0_ n1_; clear hb hbox hg))
    go_loopg [16] k (fun kq v16 w' => ∃ (x16_1 : Int) (x103000_1 : ByteArray), v16 = .int .i64 x16_1 ∧ Aside0 (refs_Text.l0 kq l0 (l0.length : Int) x16_1 x103000_1 = some (r1, r2)) ∧ Aside0 (kq ≤ k) ∧ Aside0 (IsS66 w w' gb102 x103000_1) ∧ Aside0 (Below w.heap.size w w'))
    case atStart => exact ⟨(0), ((⟨#[]⟩ : ByteArray)), (by first | rfl | (simp; done) | (simp [*]; done) | (simp [ne_nil_bool]; done) | (simp [*, ne_nil_bool]; done)), H', ⟨Nat.le_refl _⟩, ⟨by repeat (first | (with_reducible first | exact HI102.out | apply IsS66.alloc | apply IsS66.drewN | apply IsS66.drew | apply IsS66.set_0) | exact HI102.out)⟩, ⟨by repeat (first | (with_reducible first | exact HB.out | apply below_alloc | apply pw_below_drewN | apply below_drew1 | refine below_set ?_ (IsS66.ge HI102.out)) | exact HB.out)⟩⟩
    case round =>
      clear H'
      try clear p2
      try clear c3
      try clear c3b0
      try clear c3b1
      obtain ⟨x16_1, x103000_1, rfl, HA, HK1, HI102, HB⟩ := hrel
      cases gk with
      | zero => exact absurd HA.out (by simp [refs_Text.l0])
      | succ k1 =>
        have H := HA.out
        clear HA
        simp only [refs_Text.l0] at H
        by_cases c6 : x16_1 < (l0.length : Int)
        · rw [if_pos c6] at H
          have c6b0 : decide (x16_1 < (l0.length : Int)) = true := decide_eq_true c6
          clear c6
          by_cases c7 : 0 ≤ x16_1
          · rw [if_pos c7] at H
            have c7b0 : decide (0 ≤ x16_1) = true := decide_eq_true c7
            clear c7
            by_cases c8 : x16_1 < (l0.length : Int)
            · rw [if_pos c8] at H
              have c8b0 : decide (x16_1 < (l0.length : Int)) = true := decide_eq_true c8
              clear c8
              by_cases c9 : ((rd_T55 l0 x16_1).f2).toList = ([] : List UInt8)
              · rw [if_pos c9] at H
                have c9b0 : (((rd_T55 l0 x16_1).f2).toList == ([] : List UInt8)) = true := beq_iff_eq.mpr c9
                have c9b1 : (((rd_T55 l0 x16_1).f2).toList != ([] : List UInt8)) = false := bne_eq_false_iff_eq.mpr c9
                clear c9
                by_cases c10 : ((rd_T55 l0 x16_1).f1).size + 1 ≤ 9223372036854775807
                · rw [if_pos c10] at H
                  have c10b0 := eq_true c10
                  have c10b1 : decide (((rd_T55 l0 x16_1).f1).size + 1 ≤ 9223372036854775807) = true := decide_eq_true c10
                  try have c10b2 : (9223372036854775807 < ((rd_T55 l0 x16_1).f1).size + 1) = False := eq_false (Nat.not_lt.2 c10)
                  by_cases c11 : (((rd_T55 l0 x16_1).f1) ++ (⟨#[32]⟩ : ByteArray)).size + ((rd_T55 l0 x16_1).f0).size ≤ 9223372036854775807
                  · rw [if_pos c11] at H
                    have c11b0 := eq_true c11
                    have c11b1 : decide ((((rd_T55 l0 x16_1).f1) ++ (⟨#[32]⟩ : ByteArray)).size + ((rd_T55 l0 x16_1).f0).size ≤ 9223372036854775807) = true := decide_eq_true c11
                    try have c11b3 : (9223372036854775807 < ((rd_T55 l0 x16_1).f1).size + 1 + ((rd_T55 l0 x16_1).f0).size) = False := (by have h_ := c11; simp only [ByteArray.size_append] at h_; exact eq_false (Nat.not_lt.2 h_))
                    try have c11b2 : (9223372036854775807 < (((rd_T55 l0 x16_1).f1) ++ (⟨#[32]⟩ : ByteArray)).size + ((rd_T55 l0 x16_1).f0).size) = False := eq_false (Nat.not_lt.2 c11)
                    by_cases c12 : ((((rd_T55 l0 x16_1).f1) ++ (⟨#[32]⟩ : ByteArray)) ++ ((rd_T55 l0 x16_1).f0)).size + 1 ≤ 9223372036854775807
                    · rw [if_pos c12] at H
                      have c12b0 := eq_true c12
                      have c12b1 : decide (((((rd_T55 l0 x16_1).f1) ++ (⟨#[32]⟩ : ByteArray)) ++ ((rd_T55 l0 x16_1).f0)).size + 1 ≤ 9223372036854775807) = true := decide_eq_true c12
                      try have c12b3 : (9223372036854775807 < ((rd_T55 l0 x16_1).f1).size + 1 + ((rd_T55 l0 x16_1).f0).size + 1) = False := (by have h_ := c12; simp only [ByteArray.size_append] at h_; exact eq_false (Nat.not_lt.2 h_))
                      try have c12b2 : (9223372036854775807 < ((((rd_T55 l0 x16_1).f1) ++ (⟨#[32]⟩ : ByteArray)) ++ ((rd_T55 l0 x16_1).f0)).size + 1) = False := eq_false (Nat.not_lt.2 c12)
                      replace H := Option.bind_eq_some_iff.mp H
                      obtain ⟨⟨t105, t106, t107⟩, A130, H⟩ := H
                      replace H : (refs_Text.l0 k1 l0 (l0.length : Int) (wrap64 (x16_1 + 1)) t107) = some (r1, r2) := H
                      have A13 := Aside0.mk A130
                      clear A130
                      have H' := Aside0.mk H
                      clear H
                      have p103 : 0 ≤ (x16_1 : Int) := of_decide_eq_true (by first | (with_reducible assumption) | assumption)
                      have q103 : x16_1 < (l0.length : Int) := of_decide_eq_true (by first | (with_reducible assumption) | assumption)
                      obtain ⟨ad103, e103, hx103_0, hx103_1, hx103_2⟩ := at_T55 HR0.out x16_1 p103 q103
                      cases e103
                      replace hx103_0 := (HB.out.cell (World.block_lt_of_cell? w _ hx103_0)).trans hx103_0
                      replace hx103_1 := (HB.out.cell (World.block_lt_of_cell? w _ hx103_1)).trans hx103_1
                      replace hx103_2 := (HB.out.cell (World.block_lt_of_cell? w _ hx103_2)).trans hx103_2
                      replace p103 := eq_true p103
                      replace q103 := eq_true q103
                      go_wp2_with (first | ((with_reducible refine gate_dst (N := 7) rfl ?_); refine box_event ?hg (N := 7) ?hd (cs := #[.string (⟨#[]⟩ : ByteArray), .string (⟨#[]⟩ : ByteArray), .string (⟨#[]⟩ : ByteArray)]) (t := 55) ?hr ?_; (case hd => rfl); (case hg => rfl); (case hr => first | (go_simp; done) | (go_simp; rfl)); intro gb104 hg w14 hbox hb; have n0_ := Aside0.mk (IsS66.below (by repeat (first | (with_reducible first | exact HI102.out | apply IsS66.alloc | apply IsS66.drewN | apply IsS66.drew | apply IsS66.set_0) | exact HI102.out)) hb); have n1_ := Aside0.mk (below_step (by repeat (first | (with_reducible first | exact HB.out | apply below_alloc | apply pw_below_drewN | apply below_drew1 | refine below_set ?_ (IsS66.ge HI102.out)) | exact HB.out)) hb); have n2_ := Aside0.mk (hbox); have n3_ := Aside0.mk ((by rw [hg]; exact (below_size (by repeat (first | (with_reducible first | exact HB.out | apply below_alloc | apply pw_below_drewN | apply below_drew1 | refine below_set ?_ (IsS66.ge HI102.out)) | exact HB.out))) : w.heap.size ≤ gb104)); have n4_ := Aside0.mk ((by rw [hg]; exact (below_size (by repeat (first | (with_reducible first | exact HB.out | apply below_alloc | apply pw_below_drewN | apply below_drew1 | refine below_set ?_ (IsS66.ge HI102.out)) | exact HB.out))) : w.heap.size ≤ gb104)); have n5_ := Aside0.mk ((by rw [hg]; exact Nat.ne_of_lt (IsS66.lt (show IsS66 w _ gb102 x103000_1 from by repeat (first | (with_reducible first | exact HI102.out | apply IsS66.alloc | apply IsS66.drewN | apply IsS66.drew | apply IsS66.set_0) | exact HI102.out))) : gb102 ≠ gb104)); have n6_ := Aside0.mk ((by rw [hg]; exact Nat.ne_of_gt (IsS66.lt (show IsS66 w _ gb102 x103000_1 from by repeat (first | (with_reducible first | exact HI102.out | apply IsS66.alloc | apply IsS66.drewN | apply IsS66.drew | apply IsS66.set_0) | exact HI102.out))) : gb104 ≠ gb102)); clear HI102; clear HB; have HI102 := n0_; have HB := n1_; have BK104 := n2_; have GW104 := n3_; have GE104 := n4_; have NB102_104 := n5_; have NB104_102 := n6_; clear n0_ n1_ n2_ n3_ n4_ n5_ n6_; clear hb hbox hg; have hnb15 := NB104_102.out; have hnc15 := NB102_104.out; have hcz16_0 : w14.cell? ⟨gb104, 0, none⟩ = some (.string (⟨#[]⟩ : ByteArray)) := (blk_cell BK104.out 0).trans rfl; have hcz16_1 : w14.cell? ⟨gb104, 1, none⟩ = some (.string (⟨#[]⟩ : ByteArray)) := (blk_cell BK104.out 1).trans rfl; have hcz16_2 : w14.cell? ⟨gb104, 2, none⟩ = some (.string (⟨#[]⟩ : ByteArray)) := (blk_cell BK104.out 2).trans rfl; have hfz16_0 := blk_frozen BK104.out 0; have hfz16_1 := blk_frozen BK104.out 1; have hfz16_2 := blk_frozen BK104.out 2) | ((with_reducible refine gate_callee (f := 50) rfl ?_); refine goesL_ (some 34) rfl rfl Tryd.func50 (by kernel_rfl) rfl #[.pointer (some ⟨gb102, 0, none⟩), .string (((((rd_T55 l0 x16_1).f1) ++ (⟨#[32]⟩ : ByteArray)) ++ ((rd_T55 l0 x16_1).f0)) ++ (⟨#[10]⟩ : ByteArray))] rfl (by (try simp only [List.map_toArray, List.map_cons, List.map_nil]); first | done | rfl | (simp only [List.length_drop, List.length_take]; rfl)) ?_; (with_reducible refine (Builder_WriteString.calls gb102 x103000_1 (((((rd_T55 l0 x16_1).f1) ++ (⟨#[32]⟩ : ByteArray)) ++ ((rd_T55 l0 x16_1).f0)) ++ (⟨#[10]⟩ : ByteArray)) t105 t106 t107 w _ ?side1 ?side2 A13.out).mono ?_); (case side1 => repeat (first | (with_reducible first | exact HI102.out | apply IsS66.alloc | apply IsS66.drewN | apply IsS66.drew | apply IsS66.set_0 | refine IsS66.farT (t := 55) ?_ (by (repeat (first | refine TypedBlk.setCell ?_ _ _ | refine TypedBlk.alloc ?_ _ | refine TypedBlk.drewN ?_ _)); exact typedBlk_of BK104.out) (by decide) NB102_104.out _) | exact HI102.out)); (case side2 => repeat (first | (with_reducible first | exact HB.out | apply below_alloc | apply pw_below_drewN | apply below_drew1 | refine below_set ?_ (IsS66.ge HI102.out) | refine below_set ?_ GE104.out) | exact HB.out)); rintro e w17 ⟨rfl, hi, hb, hk⟩; refine ⟨_, rfl, ?_⟩; have n0_ := Aside0.mk (okept_blk (t := 55) hk (by (with_reducible repeat (first | refine blk_drewN ?_ _ | refine blk_drew ?_ | refine blk_alloc ?_ _)); refine blk_put (cs := #[.string ((rd_T55 l0 x16_1).f0), .string ((rd_T55 l0 x16_1).f1), .string (⟨#[]⟩ : ByteArray)]) ?_ 2 _ rfl; (with_reducible repeat (first | refine blk_drewN ?_ _ | refine blk_drew ?_ | refine blk_alloc ?_ _)); refine blk_put (cs := #[.string ((rd_T55 l0 x16_1).f0), .string (⟨#[]⟩ : ByteArray), .string (⟨#[]⟩ : ByteArray)]) ?_ 1 _ rfl; (with_reducible repeat (first | refine blk_drewN ?_ _ | refine blk_drew ?_ | refine blk_alloc ?_ _)); refine blk_put (cs := #[.string (⟨#[]⟩ : ByteArray), .string (⟨#[]⟩ : ByteArray), .string (⟨#[]⟩ : ByteArray)]) ?_ 0 _ rfl; (with_reducible repeat (first | refine blk_drewN ?_ _ | refine blk_drew ?_ | refine blk_alloc ?_ _)); exact BK104.out) NB104_102.out (by decide)); have n1_ := Aside0.mk (hb); have n2_ := Aside0.mk (hi); clear BK104; clear HB; clear HI102; have BK104 := n0_; have HB := n1_; have HI102 := n2_; clear n0_ n1_ n2_; (try clear hb); (try clear hb2); (try clear hk); (try clear hi); (try simp only [errW_none, errW_some])))
                      go_roundg k1
                      case measure => have := HK1.out; omega
                      case rel => exact ⟨(wrap64 (x16_1 + 1)), (t107), (by first | rfl | (simp; done) | (simp [*]; done) | (simp [ne_nil_bool]; done) | (simp [*, ne_nil_bool]; done)), H', ⟨by have := HK1.out; omega⟩, ⟨by repeat (first | (with_reducible first | exact HI102.out | apply IsS66.alloc | apply IsS66.drewN | apply IsS66.drew | apply IsS66.set_0 | refine IsS66.farT (t := 55) ?_ (by (repeat (first | refine TypedBlk.setCell ?_ _ _ | refine TypedBlk.alloc ?_ _ | refine TypedBlk.drewN ?_ _)); exact typedBlk_of BK104.out) (by decide) NB102_104.out _) | exact HI102.out)⟩, ⟨by repeat (first | (with_reducible first | exact HB.out | apply below_alloc | apply pw_below_drewN | apply below_drew1 | refine below_set ?_ (IsS66.ge HI102.out) | refine below_set ?_ GE104.out) | exact HB.out)⟩⟩
                    · rw [if_neg c12] at H
                      exact absurd H (by simp)
                  · rw [if_neg c11] at H
                    exact absurd H (by simp)
                · rw [if_neg c10] at H
                  exact absurd H (by simp)
              · rw [if_neg c9] at H
                have c9b0 : (((rd_T55 l0 x16_1).f2).toList == ([] : List UInt8)) = false := beq_eq_false_iff_ne.mpr c9
                have c9b1 : (((rd_T55 l0 x16_1).f2).toList != ([] : List UInt8)) = true := bne_iff_ne.mpr c9
                by_cases c18 : 1 + ((rd_T55 l0 x16_1).f2).size ≤ 9223372036854775807
                · rw [if_pos c18] at H
                  have c18b0 := eq_true c18
                  have c18b1 : decide (1 + ((rd_T55 l0 x16_1).f2).size ≤ 9223372036854775807) = true := decide_eq_true c18
                  try have c18b2 : (9223372036854775807 < 1 + ((rd_T55 l0 x16_1).f2).size) = False := eq_false (Nat.not_lt.2 c18)
                  by_cases c19 : ((⟨#[64]⟩ : ByteArray) ++ ((rd_T55 l0 x16_1).f2)).size + 1 ≤ 9223372036854775807
                  · rw [if_pos c19] at H
                    have c19b0 := eq_true c19
                    have c19b1 : decide (((⟨#[64]⟩ : ByteArray) ++ ((rd_T55 l0 x16_1).f2)).size + 1 ≤ 9223372036854775807) = true := decide_eq_true c19
                    try have c19b3 : (9223372036854775807 < 1 + ((rd_T55 l0 x16_1).f2).size + 1) = False := (by have h_ := c19; simp only [ByteArray.size_append] at h_; exact eq_false (Nat.not_lt.2 h_))
                    try have c19b2 : (9223372036854775807 < ((⟨#[64]⟩ : ByteArray) ++ ((rd_T55 l0 x16_1).f2)).size + 1) = False := eq_false (Nat.not_lt.2 c19)
                    by_cases c20 : (((⟨#[64]⟩ : ByteArray) ++ ((rd_T55 l0 x16_1).f2)) ++ (⟨#[32]⟩ : ByteArray)).size + ((rd_T55 l0 x16_1).f0).size ≤ 9223372036854775807
                    · rw [if_pos c20] at H
                      have c20b0 := eq_true c20
                      have c20b1 : decide ((((⟨#[64]⟩ : ByteArray) ++ ((rd_T55 l0 x16_1).f2)) ++ (⟨#[32]⟩ : ByteArray)).size + ((rd_T55 l0 x16_1).f0).size ≤ 9223372036854775807) = true := decide_eq_true c20
                      try have c20b3 : (9223372036854775807 < 1 + ((rd_T55 l0 x16_1).f2).size + 1 + ((rd_T55 l0 x16_1).f0).size) = False := (by have h_ := c20; simp only [ByteArray.size_append] at h_; exact eq_false (Nat.not_lt.2 h_))
                      try have c20b2 : (9223372036854775807 < (((⟨#[64]⟩ : ByteArray) ++ ((rd_T55 l0 x16_1).f2)) ++ (⟨#[32]⟩ : ByteArray)).size + ((rd_T55 l0 x16_1).f0).size) = False := eq_false (Nat.not_lt.2 c20)
                      by_cases c21 : ((((⟨#[64]⟩ : ByteArray) ++ ((rd_T55 l0 x16_1).f2)) ++ (⟨#[32]⟩ : ByteArray)) ++ ((rd_T55 l0 x16_1).f0)).size + 1 ≤ 9223372036854775807
                      · rw [if_pos c21] at H
                        have c21b0 := eq_true c21
                        have c21b1 : decide (((((⟨#[64]⟩ : ByteArray) ++ ((rd_T55 l0 x16_1).f2)) ++ (⟨#[32]⟩ : ByteArray)) ++ ((rd_T55 l0 x16_1).f0)).size + 1 ≤ 9223372036854775807) = true := decide_eq_true c21
                        try have c21b3 : (9223372036854775807 < 1 + ((rd_T55 l0 x16_1).f2).size + 1 + ((rd_T55 l0 x16_1).f0).size + 1) = False := (by have h_ := c21; simp only [ByteArray.size_append] at h_; exact eq_false (Nat.not_lt.2 h_))
                        try have c21b2 : (9223372036854775807 < ((((⟨#[64]⟩ : ByteArray) ++ ((rd_T55 l0 x16_1).f2)) ++ (⟨#[32]⟩ : ByteArray)) ++ ((rd_T55 l0 x16_1).f0)).size + 1) = False := eq_false (Nat.not_lt.2 c21)
                        replace H := Option.bind_eq_some_iff.mp H
                        obtain ⟨⟨t108, t109, t110⟩, A220, H⟩ := H
                        replace H : (refs_Text.l0 k1 l0 (l0.length : Int) (wrap64 (x16_1 + 1)) t110) = some (r1, r2) := H
                        have A22 := Aside0.mk A220
                        clear A220
                        have H' := Aside0.mk H
                        clear H
                        have p103 : 0 ≤ (x16_1 : Int) := of_decide_eq_true (by first | (with_reducible assumption) | assumption)
                        have q103 : x16_1 < (l0.length : Int) := of_decide_eq_true (by first | (with_reducible assumption) | assumption)
                        obtain ⟨ad103, e103, hx103_0, hx103_1, hx103_2⟩ := at_T55 HR0.out x16_1 p103 q103
                        cases e103
                        replace hx103_0 := (HB.out.cell (World.block_lt_of_cell? w _ hx103_0)).trans hx103_0
                        replace hx103_1 := (HB.out.cell (World.block_lt_of_cell? w _ hx103_1)).trans hx103_1
                        replace hx103_2 := (HB.out.cell (World.block_lt_of_cell? w _ hx103_2)).trans hx103_2
                        replace p103 := eq_true p103
                        replace q103 := eq_true q103
                        go_wp2_with (first | ((with_reducible refine gate_dst (N := 7) rfl ?_); refine box_event ?hg (N := 7) ?hd (cs := #[.string (⟨#[]⟩ : ByteArray), .string (⟨#[]⟩ : ByteArray), .string (⟨#[]⟩ : ByteArray)]) (t := 55) ?hr ?_; (case hd => rfl); (case hg => rfl); (case hr => first | (go_simp; done) | (go_simp; rfl)); intro gb104 hg w23 hbox hb; have n0_ := Aside0.mk (IsS66.below (by repeat (first | (with_reducible first | exact HI102.out | apply IsS66.alloc | apply IsS66.drewN | apply IsS66.drew | apply IsS66.set_0) | exact HI102.out)) hb); have n1_ := Aside0.mk (below_step (by repeat (first | (with_reducible first | exact HB.out | apply below_alloc | apply pw_below_drewN | apply below_drew1 | refine below_set ?_ (IsS66.ge HI102.out)) | exact HB.out)) hb); have n2_ := Aside0.mk (hbox); have n3_ := Aside0.mk ((by rw [hg]; exact (below_size (by repeat (first | (with_reducible first | exact HB.out | apply below_alloc | apply pw_below_drewN | apply below_drew1 | refine below_set ?_ (IsS66.ge HI102.out)) | exact HB.out))) : w.heap.size ≤ gb104)); have n4_ := Aside0.mk ((by rw [hg]; exact (below_size (by repeat (first | (with_reducible first | exact HB.out | apply below_alloc | apply pw_below_drewN | apply below_drew1 | refine below_set ?_ (IsS66.ge HI102.out)) | exact HB.out))) : w.heap.size ≤ gb104)); have n5_ := Aside0.mk ((by rw [hg]; exact Nat.ne_of_lt (IsS66.lt (show IsS66 w _ gb102 x103000_1 from by repeat (first | (with_reducible first | exact HI102.out | apply IsS66.alloc | apply IsS66.drewN | apply IsS66.drew | apply IsS66.set_0) | exact HI102.out))) : gb102 ≠ gb104)); have n6_ := Aside0.mk ((by rw [hg]; exact Nat.ne_of_gt (IsS66.lt (show IsS66 w _ gb102 x103000_1 from by repeat (first | (with_reducible first | exact HI102.out | apply IsS66.alloc | apply IsS66.drewN | apply IsS66.drew | apply IsS66.set_0) | exact HI102.out))) : gb104 ≠ gb102)); clear HI102; clear HB; have HI102 := n0_; have HB := n1_; have BK104 := n2_; have GW104 := n3_; have GE104 := n4_; have NB102_104 := n5_; have NB104_102 := n6_; clear n0_ n1_ n2_ n3_ n4_ n5_ n6_; clear hb hbox hg; have hnb24 := NB104_102.out; have hnc24 := NB102_104.out; have hcz25_0 : w23.cell? ⟨gb104, 0, none⟩ = some (.string (⟨#[]⟩ : ByteArray)) := (blk_cell BK104.out 0).trans rfl; have hcz25_1 : w23.cell? ⟨gb104, 1, none⟩ = some (.string (⟨#[]⟩ : ByteArray)) := (blk_cell BK104.out 1).trans rfl; have hcz25_2 : w23.cell? ⟨gb104, 2, none⟩ = some (.string (⟨#[]⟩ : ByteArray)) := (blk_cell BK104.out 2).trans rfl; have hfz25_0 := blk_frozen BK104.out 0; have hfz25_1 := blk_frozen BK104.out 1; have hfz25_2 := blk_frozen BK104.out 2) | ((with_reducible refine gate_callee (f := 50) rfl ?_); refine goesL_ (some 34) rfl rfl Tryd.func50 (by kernel_rfl) rfl #[.pointer (some ⟨gb102, 0, none⟩), .string (((((⟨#[64]⟩ : ByteArray) ++ ((rd_T55 l0 x16_1).f2)) ++ (⟨#[32]⟩ : ByteArray)) ++ ((rd_T55 l0 x16_1).f0)) ++ (⟨#[10]⟩ : ByteArray))] rfl (by (try simp only [List.map_toArray, List.map_cons, List.map_nil]); first | done | rfl | (simp only [List.length_drop, List.length_take]; rfl)) ?_; (with_reducible refine (Builder_WriteString.calls gb102 x103000_1 (((((⟨#[64]⟩ : ByteArray) ++ ((rd_T55 l0 x16_1).f2)) ++ (⟨#[32]⟩ : ByteArray)) ++ ((rd_T55 l0 x16_1).f0)) ++ (⟨#[10]⟩ : ByteArray)) t108 t109 t110 w _ ?side1 ?side2 A22.out).mono ?_); (case side1 => repeat (first | (with_reducible first | exact HI102.out | apply IsS66.alloc | apply IsS66.drewN | apply IsS66.drew | apply IsS66.set_0 | refine IsS66.farT (t := 55) ?_ (by (repeat (first | refine TypedBlk.setCell ?_ _ _ | refine TypedBlk.alloc ?_ _ | refine TypedBlk.drewN ?_ _)); exact typedBlk_of BK104.out) (by decide) NB102_104.out _) | exact HI102.out)); (case side2 => repeat (first | (with_reducible first | exact HB.out | apply below_alloc | apply pw_below_drewN | apply below_drew1 | refine below_set ?_ (IsS66.ge HI102.out) | refine below_set ?_ GE104.out) | exact HB.out)); rintro e w26 ⟨rfl, hi, hb, hk⟩; refine ⟨_, rfl, ?_⟩; have n0_ := Aside0.mk (okept_blk (t := 55) hk (by (with_reducible repeat (first | refine blk_drewN ?_ _ | refine blk_drew ?_ | refine blk_alloc ?_ _)); refine blk_put (cs := #[.string ((rd_T55 l0 x16_1).f0), .string ((rd_T55 l0 x16_1).f1), .string (⟨#[]⟩ : ByteArray)]) ?_ 2 _ rfl; (with_reducible repeat (first | refine blk_drewN ?_ _ | refine blk_drew ?_ | refine blk_alloc ?_ _)); refine blk_put (cs := #[.string ((rd_T55 l0 x16_1).f0), .string (⟨#[]⟩ : ByteArray), .string (⟨#[]⟩ : ByteArray)]) ?_ 1 _ rfl; (with_reducible repeat (first | refine blk_drewN ?_ _ | refine blk_drew ?_ | refine blk_alloc ?_ _)); refine blk_put (cs := #[.string (⟨#[]⟩ : ByteArray), .string (⟨#[]⟩ : ByteArray), .string (⟨#[]⟩ : ByteArray)]) ?_ 0 _ rfl; (with_reducible repeat (first | refine blk_drewN ?_ _ | refine blk_drew ?_ | refine blk_alloc ?_ _)); exact BK104.out) NB104_102.out (by decide)); have n1_ := Aside0.mk (hb); have n2_ := Aside0.mk (hi); clear BK104; clear HB; clear HI102; have BK104 := n0_; have HB := n1_; have HI102 := n2_; clear n0_ n1_ n2_; (try clear hb); (try clear hb2); (try clear hk); (try clear hi); (try simp only [errW_none, errW_some])))
                        go_roundg k1
                        case measure => have := HK1.out; omega
                        case rel => exact ⟨(wrap64 (x16_1 + 1)), (t110), (by first | rfl | (simp; done) | (simp [*]; done) | (simp [ne_nil_bool]; done) | (simp [*, ne_nil_bool]; done)), H', ⟨by have := HK1.out; omega⟩, ⟨by repeat (first | (with_reducible first | exact HI102.out | apply IsS66.alloc | apply IsS66.drewN | apply IsS66.drew | apply IsS66.set_0 | refine IsS66.farT (t := 55) ?_ (by (repeat (first | refine TypedBlk.setCell ?_ _ _ | refine TypedBlk.alloc ?_ _ | refine TypedBlk.drewN ?_ _)); exact typedBlk_of BK104.out) (by decide) NB102_104.out _) | exact HI102.out)⟩, ⟨by repeat (first | (with_reducible first | exact HB.out | apply below_alloc | apply pw_below_drewN | apply below_drew1 | refine below_set ?_ (IsS66.ge HI102.out) | refine below_set ?_ GE104.out) | exact HB.out)⟩⟩
                      · rw [if_neg c21] at H
                        exact absurd H (by simp)
                    · rw [if_neg c20] at H
                      exact absurd H (by simp)
                  · rw [if_neg c19] at H
                    exact absurd H (by simp)
                · rw [if_neg c18] at H
                  exact absurd H (by simp)
            · rw [if_neg c8] at H
              exact absurd H (by simp)
          · rw [if_neg c7] at H
            exact absurd H (by simp)
        · rw [if_neg c6] at H
          have c6b0 : decide (x16_1 < (l0.length : Int)) = false := decide_eq_false c6
          clear c6
          replace H := Option.bind_eq_some_iff.mp H
          obtain ⟨⟨t111, t112⟩, A270, H⟩ := H
          replace H : (some (t111, 0)) = some (r1, r2) := H
          have A27 := Aside0.mk A270
          clear A270
          simp only [Option.some.injEq, Prod.mk.injEq] at H
          obtain ⟨rfl, rfl⟩ := H
          go_wp2_with (first | ((with_reducible refine gate_callee (f := 52) rfl ?_); refine goesL_ (some 36) rfl rfl Tryd.func52 (by kernel_rfl) rfl #[.pointer (some ⟨gb102, 0, none⟩)] rfl (by (try simp only [List.map_toArray, List.map_cons, List.map_nil]); first | done | rfl | (simp only [List.length_drop, List.length_take]; rfl)) ?_; (with_reducible refine (Builder_String.calls gb102 x103000_1 t111 t112 w _ ?side1 ?side2 A27.out).mono ?_); (case side1 => repeat (first | (with_reducible first | exact HI102.out | apply IsS66.alloc | apply IsS66.drewN | apply IsS66.drew | apply IsS66.set_0) | exact HI102.out)); (case side2 => repeat (first | (with_reducible first | exact HB.out | apply below_alloc | apply pw_below_drewN | apply below_drew1 | refine below_set ?_ (IsS66.ge HI102.out)) | exact HB.out)); rintro e w28 ⟨rfl, hi, hb, hk⟩; refine ⟨_, rfl, ?_⟩; have n0_ := Aside0.mk (hb); have n1_ := Aside0.mk (hi); clear HB; clear HI102; have HB := n0_; have HI102 := n1_; clear n0_ n1_; (try clear hb); (try clear hb2); (try clear hk); (try clear hi)))
          go_ret2
          exact ⟨by first | rfl | (simp [errW_none, errW_some] <;> rfl) | (simp [*, errW_none, errW_some] <;> rfl) | (simp [ne_nil_bool]; done) | (simp [*, ne_nil_bool]; done), by repeat (first | (with_reducible first | exact HB.out | apply below_alloc | apply pw_below_drewN | apply below_drew1 | refine below_set ?_ (IsS66.ge HI102.out)) | exact HB.out)⟩
  · rw [if_neg c3] at H
    have c3b0 : (t101 == 0) = false := beq_eq_false_iff_ne.mpr c3
    have c3b1 : (t101 != 0) = true := bne_iff_ne.mpr c3
    simp only [Option.some.injEq, Prod.mk.injEq] at H
    obtain ⟨rfl, rfl⟩ := H
    go_enter Tryd.func38, Tryd.ntmps38
    go_wp2_with (first | ((with_reducible refine gate_callee (f := 36) rfl ?_); refine goesL_ (some 10) rfl rfl Tryd.func36 (by kernel_rfl) rfl #[.slice A0 l0.length c0] rfl (by (try simp only [List.map_toArray, List.map_cons, List.map_nil]); first | done | rfl | (simp only [List.length_drop, List.length_take]; rfl)) ?_; (with_reducible refine (refs_Check.calls k _ _ l0 t101 _ ?side1 ?side2 ?side3 A2.out).mono ?_); (case side1 => repeat (first | exact HR0.out | (with_reducible refine Kd.C_alloc ?_ _) | (with_reducible refine Kd.C_drewN ?_ _) | (with_reducible refine Kd.C_drew ?_))); (case side2 => exact HC0.out); (case side3 => exact GV.below hgv (by repeat (first | (with_reducible first | exact HB.out | apply below_alloc | apply pw_below_drewN | apply below_drew1) | exact HB.out))); rintro e w29 ⟨rfl, hb⟩; refine ⟨_, rfl, ?_⟩; have n0_ := Aside0.mk (below_step (by repeat (first | (with_reducible first | exact HB.out | apply below_alloc | apply pw_below_drewN | apply below_drew1) | exact HB.out)) hb); clear HB; have HB := n0_; clear n0_; (try clear hb); (try clear hb2); (try clear hk); (try clear hi)))
    go_ret2
    exact ⟨by first | rfl | (simp [errW_none, errW_some] <;> rfl) | (simp [*, errW_none, errW_some] <;> rfl) | (simp [ne_nil_bool]; done) | (simp [*, ne_nil_bool]; done), by repeat (first | (with_reducible first | exact HB.out | apply below_alloc | apply pw_below_drewN | apply below_drew1) | exact HB.out)⟩

end Go.Proofs.YtccbpbdfihnlgaaDoor.Q


/- Contracts of Go functions as calls of plain Lean functions, written by a program of this session over the kit's print. -/
namespace Go.Proofs.YtccbpbdfihnlgaaDoor.Q
open Go.RowKit Go.Proofs.YtccbpbdfihnlgaaDoorW.PrintWords Go.Proofs.YtccbpbdfihnlgaaDoorW.PrintLast Go.Proofs.YtccbpbdfihnlgaaDoorW.PrintMore
attribute [local go_sem] max2_int min2_int max_two min_two max_three min_three max_four min_four   -- for this text's walks alone

/-! ### graftagelaw37_lives: function 33 -/
def graftagelaw37_lives.f (k : Nat)  : Option (Bool) := (graftagelaw37_id.f k 49).bind fun t101 => ((some (([(⟨(⟨#[72, 69, 65, 68]⟩ : ByteArray), (⟨#[]⟩ : ByteArray), (⟨#[114, 101, 102, 115, 47, 104, 101, 97, 100, 115, 47, 109, 97, 105, 110]⟩ : ByteArray)⟩ : S55), (⟨(⟨#[114, 101, 102, 115, 47, 104, 101, 97, 100, 115, 47, 109, 97, 105, 110]⟩ : ByteArray), t101, (⟨#[]⟩ : ByteArray)⟩ : S55)] : List (S55)) : List (S55))).bind fun y102 => ((refs_Resolve.f k y102 (⟨#[72, 69, 65, 68]⟩ : ByteArray)).bind fun bt105 => ((refs_Text.f k y102).bind fun bt108 => ((refs_Parse.f k bt108.1).bind fun bt110 => ((refs_Check.f k y102).bind fun t114 => (if t114 = 0 then (if bt105.1.toList = ([114, 101, 102, 115, 47, 104, 101, 97, 100, 115, 47, 109, 97, 105, 110] : List UInt8) then ((graftagelaw37_id.f k 49).bind fun t115 => (if bt105.2.1.toList = t115.toList then (if bt105.2.2 = 0 then (if bt108.2 = 0 then (if bt110.2 = 0 then ((graftageref37_Same.f k y102 bt110.1).bind fun t116 => (if t116 = true then ((refs_Name.f k (⟨#[114, 101, 102, 115, 47, 104, 101, 97, 100, 115, 47, 97, 46, 46, 98]⟩ : ByteArray)).bind fun t117 => (if t117 = true then (some false) else ((refs_Name.f k (⟨#[114, 101, 102, 115, 47, 97]⟩ : ByteArray)).bind fun t118 => (some t118)))) else (some false))) else (some false)) else (some false)) else (some false)) else (some false))) else (some false)) else (some false)))))))
theorem graftagelaw37_lives.mono : ∀ k, LeO (graftagelaw37_lives.f k ) (graftagelaw37_lives.f (k + 1) ) := by
  intro  k
  unfold graftagelaw37_lives.f
  repeat' first
      | (with_reducible exact graftagelaw37_id.mono _ _)
      | (with_reducible exact graftageref37_Same.mono _ _ _)
      | (with_reducible exact refs_Check.mono _ _)
      | (with_reducible exact refs_Name.mono _ _)
      | (with_reducible exact refs_Parse.mono _ _)
      | (with_reducible exact refs_Resolve.mono _ _ _)
      | (with_reducible exact refs_Text.mono _ _)
      | (with_reducible exact LeO.refl _)
      | (with_reducible exact LeO.none _)
      | (with_reducible refine LeO.ite ?_ ?_)
      | (with_reducible refine LeO.bind ?_ (fun _ => ?_))
      | exact graftagelaw37_id.mono _ _
      | exact graftageref37_Same.mono _ _ _
      | exact refs_Check.mono _ _
      | exact refs_Name.mono _ _
      | exact refs_Parse.mono _ _
      | exact refs_Resolve.mono _ _ _
      | exact refs_Text.mono _ _
      | exact LeO.none _
      | refine LeO.ite ?_ ?_
      | refine LeO.bind ?_ (fun _ => ?_)
set_option maxHeartbeats 8000000 in
set_option maxRecDepth 100000 in
theorem graftagelaw37_lives.calls (k : Nat)  (r : Bool) (w : World) (hgv : GV w) (h : graftagelaw37_lives.f k  = some r) :
    Calls Tryd.prog 33 #[] w fun e w' => e = .returned (.bool r) ∧ Below w.heap.size w w' := by
  have hu55 := Tryd.underlying55
  have HB := Aside0.mk (Below.refl w.heap.size w)
  have H : ((graftagelaw37_id.f k 49).bind fun t101 => ((some (([(⟨(⟨#[72, 69, 65, 68]⟩ : ByteArray), (⟨#[]⟩ : ByteArray), (⟨#[114, 101, 102, 115, 47, 104, 101, 97, 100, 115, 47, 109, 97, 105, 110]⟩ : ByteArray)⟩ : S55), (⟨(⟨#[114, 101, 102, 115, 47, 104, 101, 97, 100, 115, 47, 109, 97, 105, 110]⟩ : ByteArray), t101, (⟨#[]⟩ : ByteArray)⟩ : S55)] : List (S55)) : List (S55))).bind fun y102 => ((refs_Resolve.f k y102 (⟨#[72, 69, 65, 68]⟩ : ByteArray)).bind fun bt105 => ((refs_Text.f k y102).bind fun bt108 => ((refs_Parse.f k bt108.1).bind fun bt110 => ((refs_Check.f k y102).bind fun t114 => (if t114 = 0 then (if bt105.1.toList = ([114, 101, 102, 115, 47, 104, 101, 97, 100, 115, 47, 109, 97, 105, 110] : List UInt8) then ((graftagelaw37_id.f k 49).bind fun t115 => (if bt105.2.1.toList = t115.toList then (if bt105.2.2 = 0 then (if bt108.2 = 0 then (if bt110.2 = 0 then ((graftageref37_Same.f k y102 bt110.1).bind fun t116 => (if t116 = true then ((refs_Name.f k (⟨#[114, 101, 102, 115, 47, 104, 101, 97, 100, 115, 47, 97, 46, 46, 98]⟩ : ByteArray)).bind fun t117 => (if t117 = true then (some false) else ((refs_Name.f k (⟨#[114, 101, 102, 115, 47, 97]⟩ : ByteArray)).bind fun t118 => (some t118)))) else (some false))) else (some false)) else (some false)) else (some false)) else (some false))) else (some false)) else (some false)))))))) = some r := h
  clear h
  replace H := Option.bind_eq_some_iff.mp H
  obtain ⟨t101, A10, H⟩ := H
  replace H : ((some (([(⟨(⟨#[72, 69, 65, 68]⟩ : ByteArray), (⟨#[]⟩ : ByteArray), (⟨#[114, 101, 102, 115, 47, 104, 101, 97, 100, 115, 47, 109, 97, 105, 110]⟩ : ByteArray)⟩ : S55), (⟨(⟨#[114, 101, 102, 115, 47, 104, 101, 97, 100, 115, 47, 109, 97, 105, 110]⟩ : ByteArray), t101, (⟨#[]⟩ : ByteArray)⟩ : S55)] : List (S55)) : List (S55))).bind fun y102 => ((refs_Resolve.f k y102 (⟨#[72, 69, 65, 68]⟩ : ByteArray)).bind fun bt105 => ((refs_Text.f k y102).bind fun bt108 => ((refs_Parse.f k bt108.1).bind fun bt110 => ((refs_Check.f k y102).bind fun t114 => (if t114 = 0 then (if bt105.1.toList = ([114, 101, 102, 115, 47, 104, 101, 97, 100, 115, 47, 109, 97, 105, 110] : List UInt8) then ((graftagelaw37_id.f k 49).bind fun t115 => (if bt105.2.1.toList = t115.toList then (if bt105.2.2 = 0 then (if bt108.2 = 0 then (if bt110.2 = 0 then ((graftageref37_Same.f k y102 bt110.1).bind fun t116 => (if t116 = true then ((refs_Name.f k (⟨#[114, 101, 102, 115, 47, 104, 101, 97, 100, 115, 47, 97, 46, 46, 98]⟩ : ByteArray)).bind fun t117 => (if t117 = true then (some false) else ((refs_Name.f k (⟨#[114, 101, 102, 115, 47, 97]⟩ : ByteArray)).bind fun t118 => (some t118)))) else (some false))) else (some false)) else (some false)) else (some false)) else (some false))) else (some false)) else (some false))))))) = some r := H
  have A1 := Aside0.mk A10
  clear A10
  obtain ⟨y102, hy102⟩ : ∃ y_ : List (S55), y_ = (([(⟨(⟨#[72, 69, 65, 68]⟩ : ByteArray), (⟨#[]⟩ : ByteArray), (⟨#[114, 101, 102, 115, 47, 104, 101, 97, 100, 115, 47, 109, 97, 105, 110]⟩ : ByteArray)⟩ : S55), (⟨(⟨#[114, 101, 102, 115, 47, 104, 101, 97, 100, 115, 47, 109, 97, 105, 110]⟩ : ByteArray), t101, (⟨#[]⟩ : ByteArray)⟩ : S55)] : List (S55))) := ⟨_, rfl⟩
  replace H : ((refs_Resolve.f k y102 (⟨#[72, 69, 65, 68]⟩ : ByteArray)).bind fun bt105 => ((refs_Text.f k y102).bind fun bt108 => ((refs_Parse.f k bt108.1).bind fun bt110 => ((refs_Check.f k y102).bind fun t114 => (if t114 = 0 then (if bt105.1.toList = ([114, 101, 102, 115, 47, 104, 101, 97, 100, 115, 47, 109, 97, 105, 110] : List UInt8) then ((graftagelaw37_id.f k 49).bind fun t115 => (if bt105.2.1.toList = t115.toList then (if bt105.2.2 = 0 then (if bt108.2 = 0 then (if bt110.2 = 0 then ((graftageref37_Same.f k y102 bt110.1).bind fun t116 => (if t116 = true then ((refs_Name.f k (⟨#[114, 101, 102, 115, 47, 104, 101, 97, 100, 115, 47, 97, 46, 46, 98]⟩ : ByteArray)).bind fun t117 => (if t117 = true then (some false) else ((refs_Name.f k (⟨#[114, 101, 102, 115, 47, 97]⟩ : ByteArray)).bind fun t118 => (some t118)))) else (some false))) else (some false)) else (some false)) else (some false)) else (some false))) else (some false)) else (some false)))))) = some r := by first | (rw [hy102]; with_reducible exact H) | (have H2_ := (Option.bind_some _ _).symm.trans H; rw [hy102]; with_reducible exact H2_) | (have H2_ := (Option.bind_some _ _).symm.trans H; with_reducible exact H2_) | with_reducible exact H | (rw [hy102]; exact H) | exact H
  have Ny102 := Aside0.mk hy102
  clear hy102
  replace H := Option.bind_eq_some_iff.mp H
  obtain ⟨⟨t105, t106, t107⟩, A20, H⟩ := H
  replace H : ((refs_Text.f k y102).bind fun bt108 => ((refs_Parse.f k bt108.1).bind fun bt110 => ((refs_Check.f k y102).bind fun t114 => (if t114 = 0 then (if t105.toList = ([114, 101, 102, 115, 47, 104, 101, 97, 100, 115, 47, 109, 97, 105, 110] : List UInt8) then ((graftagelaw37_id.f k 49).bind fun t115 => (if t106.toList = t115.toList then (if t107 = 0 then (if bt108.2 = 0 then (if bt110.2 = 0 then ((graftageref37_Same.f k y102 bt110.1).bind fun t116 => (if t116 = true then ((refs_Name.f k (⟨#[114, 101, 102, 115, 47, 104, 101, 97, 100, 115, 47, 97, 46, 46, 98]⟩ : ByteArray)).bind fun t117 => (if t117 = true then (some false) else ((refs_Name.f k (⟨#[114, 101, 102, 115, 47, 97]⟩ : ByteArray)).bind fun t118 => (some t118)))) else (some false))) else (some false)) else (some false)) else (some false)) else (some false))) else (some false)) else (some false))))) = some r := H
  have A2 := Aside0.mk A20
  clear A20
  replace H := Option.bind_eq_some_iff.mp H
  obtain ⟨⟨t108, t109⟩, A30, H⟩ := H
  replace H : ((refs_Parse.f k t108).bind fun bt110 => ((refs_Check.f k y102).bind fun t114 => (if t114 = 0 then (if t105.toList = ([114, 101, 102, 115, 47, 104, 101, 97, 100, 115, 47, 109, 97, 105, 110] : List UInt8) then ((graftagelaw37_id.f k 49).bind fun t115 => (if t106.toList = t115.toList then (if t107 = 0 then (if t109 = 0 then (if bt110.2 = 0 then ((graftageref37_Same.f k y102 bt110.1).bind fun t116 => (if t116 = true then ((refs_Name.f k (⟨#[114, 101, 102, 115, 47, 104, 101, 97, 100, 115, 47, 97, 46, 46, 98]⟩ : ByteArray)).bind fun t117 => (if t117 = true then (some false) else ((refs_Name.f k (⟨#[114, 101, 102, 115, 47, 97]⟩ : ByteArray)).bind fun t118 => (some t118)))) else (some false))) else (some false)) else (some false)) else (some false)) else (some false))) else (some false)) else (some false)))) = some r := H
  have A3 := Aside0.mk A30
  clear A30
  replace H := Option.bind_eq_some_iff.mp H
  obtain ⟨⟨t110, t111⟩, A40, H⟩ := H
  replace H : ((refs_Check.f k y102).bind fun t114 => (if t114 = 0 then (if t105.toList = ([114, 101, 102, 115, 47, 104, 101, 97, 100, 115, 47, 109, 97, 105, 110] : List UInt8) then ((graftagelaw37_id.f k 49).bind fun t115 => (if t106.toList = t115.toList then (if t107 = 0 then (if t109 = 0 then (if t111 = 0 then ((graftageref37_Same.f k y102 t110).bind fun t116 => (if t116 = true then ((refs_Name.f k (⟨#[114, 101, 102, 115, 47, 104, 101, 97, 100, 115, 47, 97, 46, 46, 98]⟩ : ByteArray)).bind fun t117 => (if t117 = true then (some false) else ((refs_Name.f k (⟨#[114, 101, 102, 115, 47, 97]⟩ : ByteArray)).bind fun t118 => (some t118)))) else (some false))) else (some false)) else (some false)) else (some false)) else (some false))) else (some false)) else (some false))) = some r := H
  have A4 := Aside0.mk A40
  clear A40
  replace H := Option.bind_eq_some_iff.mp H
  obtain ⟨t114, A50, H⟩ := H
  replace H : (if t114 = 0 then (if t105.toList = ([114, 101, 102, 115, 47, 104, 101, 97, 100, 115, 47, 109, 97, 105, 110] : List UInt8) then ((graftagelaw37_id.f k 49).bind fun t115 => (if t106.toList = t115.toList then (if t107 = 0 then (if t109 = 0 then (if t111 = 0 then ((graftageref37_Same.f k y102 t110).bind fun t116 => (if t116 = true then ((refs_Name.f k (⟨#[114, 101, 102, 115, 47, 104, 101, 97, 100, 115, 47, 97, 46, 46, 98]⟩ : ByteArray)).bind fun t117 => (if t117 = true then (some false) else ((refs_Name.f k (⟨#[114, 101, 102, 115, 47, 97]⟩ : ByteArray)).bind fun t118 => (some t118)))) else (some false))) else (some false)) else (some false)) else (some false)) else (some false))) else (some false)) else (some false)) = some r := H
  have A5 := Aside0.mk A50
  clear A50
  by_cases c6 : t114 = 0
  · rw [if_pos c6] at H
    have c6b0 : (t114 == 0) = true := beq_iff_eq.mpr c6
    have c6b1 : (t114 != 0) = false := bne_eq_false_iff_eq.mpr c6
    clear c6
    by_cases c7 : t105.toList = ([114, 101, 102, 115, 47, 104, 101, 97, 100, 115, 47, 109, 97, 105, 110] : List UInt8)
    · rw [if_pos c7] at H
      have c7b0 : (t105.toList == ([114, 101, 102, 115, 47, 104, 101, 97, 100, 115, 47, 109, 97, 105, 110] : List UInt8)) = true := beq_iff_eq.mpr c7
      have c7b1 : (t105.toList != ([114, 101, 102, 115, 47, 104, 101, 97, 100, 115, 47, 109, 97, 105, 110] : List UInt8)) = false := bne_eq_false_iff_eq.mpr c7
      clear c7
      replace H := Option.bind_eq_some_iff.mp H
      obtain ⟨t115, A80, H⟩ := H
      replace H : (if t106.toList = t115.toList then (if t107 = 0 then (if t109 = 0 then (if t111 = 0 then ((graftageref37_Same.f k y102 t110).bind fun t116 => (if t116 = true then ((refs_Name.f k (⟨#[114, 101, 102, 115, 47, 104, 101, 97, 100, 115, 47, 97, 46, 46, 98]⟩ : ByteArray)).bind fun t117 => (if t117 = true then (some false) else ((refs_Name.f k (⟨#[114, 101, 102, 115, 47, 97]⟩ : ByteArray)).bind fun t118 => (some t118)))) else (some false))) else (some false)) else (some false)) else (some false)) else (some false)) = some r := H
      have A8 := Aside0.mk A80
      clear A80
      by_cases c9 : t106.toList = t115.toList
      · rw [if_pos c9] at H
        have c9b0 : (t106.toList == t115.toList) = true := beq_iff_eq.mpr c9
        have c9b1 : (t106.toList != t115.toList) = false := bne_eq_false_iff_eq.mpr c9
        clear c9
        by_cases c10 : t107 = 0
        · rw [if_pos c10] at H
          have c10b0 : (t107 == 0) = true := beq_iff_eq.mpr c10
          have c10b1 : (t107 != 0) = false := bne_eq_false_iff_eq.mpr c10
          clear c10
          by_cases c11 : t109 = 0
          · rw [if_pos c11] at H
            have c11b0 : (t109 == 0) = true := beq_iff_eq.mpr c11
            have c11b1 : (t109 != 0) = false := bne_eq_false_iff_eq.mpr c11
            clear c11
            by_cases c12 : t111 = 0
            · rw [if_pos c12] at H
              have c12b0 : (t111 == 0) = true := beq_iff_eq.mpr c12
              have c12b1 : (t111 != 0) = false := bne_eq_false_iff_eq.mpr c12
              clear c12
              replace H := Option.bind_eq_some_iff.mp H
              obtain ⟨t116, A130, H⟩ := H
              replace H : (if t116 = true then ((refs_Name.f k (⟨#[114, 101, 102, 115, 47, 104, 101, 97, 100, 115, 47, 97, 46, 46, 98]⟩ : ByteArray)).bind fun t117 => (if t117 = true then (some false) else ((refs_Name.f k (⟨#[114, 101, 102, 115, 47, 97]⟩ : ByteArray)).bind fun t118 => (some t118)))) else (some false)) = some r := H
              have A13 := Aside0.mk A130
              clear A130
              by_cases c14 : t116 = true
              · subst c14
                have H1 : ((refs_Name.f k (⟨#[114, 101, 102, 115, 47, 104, 101, 97, 100, 115, 47, 97, 46, 46, 98]⟩ : ByteArray)).bind fun t117 => (if t117 = true then (some false) else ((refs_Name.f k (⟨#[114, 101, 102, 115, 47, 97]⟩ : ByteArray)).bind fun t118 => (some t118)))) = some r := by rw [if_pos rfl] at H; exact H
                clear H
                have H := H1
                clear H1
                replace H := Option.bind_eq_some_iff.mp H
                obtain ⟨t117, A150, H⟩ := H
                replace H : (if t117 = true then (some false) else ((refs_Name.f k (⟨#[114, 101, 102, 115, 47, 97]⟩ : ByteArray)).bind fun t118 => (some t118))) = some r := H
                have A15 := Aside0.mk A150
                clear A150
                by_cases c16 : t117 = true
                · subst c16
                  have H1 : (some false) = some r := by rw [if_pos rfl] at H; exact H
                  clear H
                  have H := H1
                  clear H1
                  obtain rfl := Option.some.inj H
                  go_enter Tryd.func33, Tryd.ntmps33
                  have tk1_ : True := trivial
                  have tk2_ : True := trivial
                  go_wp2_with (first | (have _t := tk1_; (with_reducible refine gate_callee (f := 71) rfl ?_); refine goesL_ (some 10) rfl rfl Tryd.func71 (by kernel_rfl) rfl #[.int .u8 49] rfl (by (try simp only [List.map_toArray, List.map_cons, List.map_nil]); first | done | rfl | (simp only [List.length_drop, List.length_take]; rfl)) ?_; (with_reducible refine (graftagelaw37_id.calls k 49 t101 _ A1.out).mono ?_); rintro e w17 ⟨rfl, hb⟩; refine ⟨_, rfl, ?_⟩; have n0_ := Aside0.mk (below_step (by repeat (first | (with_reducible first | exact HB.out | apply below_alloc | apply pw_below_drewN | apply below_drew1) | exact HB.out)) hb); clear HB; have HB := n0_; clear n0_; (try clear hb); (try clear hb2); (try clear hk); (try clear hi); clear tk1_) | ((with_reducible refine gate_dst (N := 12) rfl ?_); refine Kd.R_lit k55 _ 55 ?hg (N := 12) ?hd (xs := ([(⟨(⟨#[72, 69, 65, 68]⟩ : ByteArray), (⟨#[]⟩ : ByteArray), (⟨#[114, 101, 102, 115, 47, 104, 101, 97, 100, 115, 47, 109, 97, 105, 110]⟩ : ByteArray)⟩ : S55), (⟨(⟨#[114, 101, 102, 115, 47, 104, 101, 97, 100, 115, 47, 109, 97, 105, 110]⟩ : ByteArray), t101, (⟨#[]⟩ : ByteArray)⟩ : S55)] : List (S55))) (inner := [.string (⟨#[72, 69, 65, 68]⟩ : ByteArray), .string (⟨#[]⟩ : ByteArray), .string (⟨#[114, 101, 102, 115, 47, 104, 101, 97, 100, 115, 47, 109, 97, 105, 110]⟩ : ByteArray), .string (⟨#[114, 101, 102, 115, 47, 104, 101, 97, 100, 115, 47, 109, 97, 105, 110]⟩ : ByteArray), .string t101, .string (⟨#[]⟩ : ByteArray)]) (ok := fun _ => True) (okp := fun _ => True) ?hr ?hp (fun _ hk => hk) trivial (Below.refl _ _) (Nat.le_refl _) (by simp) ?_; (case hd => rfl); (case hg => rfl); (case hr => first | (go_simp; done) | (go_simp; rfl)); (case hp => exact (Reps.c3 (show Kd.M k55 _ _ _ (⟨(⟨#[72, 69, 65, 68]⟩ : ByteArray), (⟨#[]⟩ : ByteArray), (⟨#[114, 101, 102, 115, 47, 104, 101, 97, 100, 115, 47, 109, 97, 105, 110]⟩ : ByteArray)⟩ : S55) [.string (⟨#[72, 69, 65, 68]⟩ : ByteArray), .string (⟨#[]⟩ : ByteArray), .string (⟨#[114, 101, 102, 115, 47, 104, 101, 97, 100, 115, 47, 109, 97, 105, 110]⟩ : ByteArray)] from (k55_mkM _ _ _ (⟨(⟨#[72, 69, 65, 68]⟩ : ByteArray), (⟨#[]⟩ : ByteArray), (⟨#[114, 101, 102, 115, 47, 104, 101, 97, 100, 115, 47, 109, 97, 105, 110]⟩ : ByteArray)⟩ : S55) )) (Reps.c3 (show Kd.M k55 _ _ _ (⟨(⟨#[114, 101, 102, 115, 47, 104, 101, 97, 100, 115, 47, 109, 97, 105, 110]⟩ : ByteArray), t101, (⟨#[]⟩ : ByteArray)⟩ : S55) [.string (⟨#[114, 101, 102, 115, 47, 104, 101, 97, 100, 115, 47, 109, 97, 105, 110]⟩ : ByteArray), .string t101, .string (⟨#[]⟩ : ByteArray)] from (k55_mkM _ _ _ (⟨(⟨#[114, 101, 102, 115, 47, 104, 101, 97, 100, 115, 47, 109, 97, 105, 110]⟩ : ByteArray), t101, (⟨#[]⟩ : ByteArray)⟩ : S55) )) (Reps.none _ _)))); intro v103 w18 ho19 hb hg_ hnew_; clear hg_ hnew_; (first | rw [← Ny102.out] at ho19 | (simp only [Int.reduceToNat] at ho19; rw [← Ny102.out] at ho19)); have n0_ := Aside0.mk (Kd.R_lower ho19 (below_size (by repeat (first | (with_reducible first | exact HB.out | apply below_alloc | apply pw_below_drewN | apply below_drew1) | exact HB.out)))); have n1_ := Aside0.mk (below_step (by repeat (first | (with_reducible first | exact HB.out | apply below_alloc | apply pw_below_drewN | apply below_drew1) | exact HB.out)) hb); clear HB; have HO104 := n0_; have HB := n1_; clear n0_ n1_; clear hb ho19; obtain ⟨Ao20, co20, eo20⟩ := Kd.R_slice HO104.out; subst eo20) | ((with_reducible refine gate_callee (f := 43) rfl ?_); refine goesL_ (some 15) rfl rfl Tryd.func43 (by kernel_rfl) rfl #[.slice Ao20 y102.length co20, .string (⟨#[72, 69, 65, 68]⟩ : ByteArray)] rfl (by (try simp only [List.map_toArray, List.map_cons, List.map_nil]); first | done | rfl | (simp only [List.length_drop, List.length_take]; rfl)) ?_; (with_reducible refine (refs_Resolve.calls k _ _ y102 (⟨#[72, 69, 65, 68]⟩ : ByteArray) t105 t106 t107 _ ?side1 ?side2 ?side3 A2.out).mono ?_); (case side1 => repeat (first | exact (Kd.R_reads' HO104.out).2.2 | (with_reducible refine Kd.C_alloc ?_ _) | (with_reducible refine Kd.C_drewN ?_ _) | (with_reducible refine Kd.C_drew ?_))); (case side2 => exact (Kd.R_reads' HO104.out).2.1); (case side3 => exact GV.below hgv (by repeat (first | (with_reducible first | exact HB.out | apply below_alloc | apply pw_below_drewN | apply below_drew1) | exact HB.out))); rintro e w21 ⟨rfl, hb⟩; refine ⟨_, rfl, ?_⟩; have n0_ := Aside0.mk (Kd.R_below (by (with_reducible repeat (first | apply Kd.R_alloc | apply Kd.R_drewN | apply Kd.R_drew)); exact HO104.out) hb); have n1_ := Aside0.mk (below_step (by repeat (first | (with_reducible first | exact HB.out | apply below_alloc | apply pw_below_drewN | apply below_drew1) | exact HB.out)) hb); clear HO104; clear HB; have HO104 := n0_; have HB := n1_; clear n0_ n1_; (try clear hb); (try clear hb2); (try clear hk); (try clear hi)) | ((with_reducible refine gate_callee (f := 38) rfl ?_); refine goesL_ (some 21) rfl rfl Tryd.func38 (by kernel_rfl) rfl #[.slice Ao20 y102.length co20] rfl (by (try simp only [List.map_toArray, List.map_cons, List.map_nil]); first | done | rfl | (simp only [List.length_drop, List.length_take]; rfl)) ?_; (with_reducible refine (refs_Text.calls k _ _ y102 t108 t109 _ ?side1 ?side2 ?side3 A3.out).mono ?_); (case side1 => repeat (first | exact (Kd.R_reads' HO104.out).2.2 | (with_reducible refine Kd.C_alloc ?_ _) | (with_reducible refine Kd.C_drewN ?_ _) | (with_reducible refine Kd.C_drew ?_))); (case side2 => exact (Kd.R_reads' HO104.out).2.1); (case side3 => exact GV.below hgv (by repeat (first | (with_reducible first | exact HB.out | apply below_alloc | apply pw_below_drewN | apply below_drew1) | exact HB.out))); rintro e w22 ⟨rfl, hb⟩; refine ⟨_, rfl, ?_⟩; have n0_ := Aside0.mk (Kd.R_below (by (with_reducible repeat (first | apply Kd.R_alloc | apply Kd.R_drewN | apply Kd.R_drew)); exact HO104.out) hb); have n1_ := Aside0.mk (below_step (by repeat (first | (with_reducible first | exact HB.out | apply below_alloc | apply pw_below_drewN | apply below_drew1) | exact HB.out)) hb); clear HO104; clear HB; have HO104 := n0_; have HB := n1_; clear n0_ n1_; (try clear hb); (try clear hb2); (try clear hk); (try clear hi)) | ((with_reducible refine gate_callee (f := 40) rfl ?_); refine goesL_ (some 26) rfl rfl Tryd.func40 (by kernel_rfl) rfl #[.string t108] rfl (by (try simp only [List.map_toArray, List.map_cons, List.map_nil]); first | done | rfl | (simp only [List.length_drop, List.length_take]; rfl)) ?_; (with_reducible refine (refs_Parse.calls k t108 t110 t111 _ ?side1 A4.out).mono ?_); (case side1 => exact GV.below hgv (by repeat (first | (with_reducible first | exact HB.out | apply below_alloc | apply pw_below_drewN | apply below_drew1) | exact HB.out))); rintro e w23 ⟨v112, rfl, ho0, hb⟩; refine ⟨_, rfl, ?_⟩; have n0_ := Aside0.mk (Kd.R_elder' (by (with_reducible repeat (first | apply Kd.R_alloc | apply Kd.R_drewN | apply Kd.R_drew)); exact HO104.out) (Kd.R_base ho0) hb); have n1_ := Aside0.mk (Kd.R_lower (Kd.R_new' ho0 (Kd.R_lt (by (with_reducible repeat (first | apply Kd.R_alloc | apply Kd.R_drewN | apply Kd.R_drew)); exact HO104.out))) (below_size (by repeat (first | (with_reducible first | exact HB.out | apply below_alloc | apply pw_below_drewN | apply below_drew1) | exact HB.out)))); have n2_ := Aside0.mk (below_step (by repeat (first | (with_reducible first | exact HB.out | apply below_alloc | apply pw_below_drewN | apply below_drew1) | exact HB.out)) hb); clear HO104; clear HB; have HO104 := n0_; have HO113 := n1_; have HB := n2_; clear n0_ n1_ n2_; (try clear hb); (try clear hb2); (try clear hk); (try clear hi); (try clear ho0)) | ((with_reducible refine gate_callee (f := 36) rfl ?_); refine goesL_ (some 30) rfl rfl Tryd.func36 (by kernel_rfl) rfl #[.slice Ao20 y102.length co20] rfl (by (try simp only [List.map_toArray, List.map_cons, List.map_nil]); first | done | rfl | (simp only [List.length_drop, List.length_take]; rfl)) ?_; (with_reducible refine (refs_Check.calls k _ _ y102 t114 _ ?side1 ?side2 ?side3 A5.out).mono ?_); (case side1 => repeat (first | exact (Kd.R_reads' HO104.out).2.2 | (with_reducible refine Kd.C_alloc ?_ _) | (with_reducible refine Kd.C_drewN ?_ _) | (with_reducible refine Kd.C_drew ?_))); (case side2 => exact (Kd.R_reads' HO104.out).2.1); (case side3 => exact GV.below hgv (by repeat (first | (with_reducible first | exact HB.out | apply below_alloc | apply pw_below_drewN | apply below_drew1) | exact HB.out))); rintro e w24 ⟨rfl, hb⟩; refine ⟨_, rfl, ?_⟩; have n0_ := Aside0.mk (Kd.R_below (by (with_reducible repeat (first | apply Kd.R_alloc | apply Kd.R_drewN | apply Kd.R_drew)); exact HO104.out) hb); have n1_ := Aside0.mk (Kd.R_below (by (with_reducible repeat (first | apply Kd.R_alloc | apply Kd.R_drewN | apply Kd.R_drew)); exact HO113.out) hb); have n2_ := Aside0.mk (below_step (by repeat (first | (with_reducible first | exact HB.out | apply below_alloc | apply pw_below_drewN | apply below_drew1) | exact HB.out)) hb); clear HO104; clear HO113; clear HB; have HO104 := n0_; have HO113 := n1_; have HB := n2_; clear n0_ n1_ n2_; (try clear hb); (try clear hb2); (try clear hk); (try clear hi)) | (go_at_call 71; have _t := tk2_; (with_reducible refine (graftagelaw37_id.calls k 49 t115 _ A8.out).mono ?_); rintro e w25 ⟨rfl, hb⟩; have n0_ := Aside0.mk (Kd.R_below (by (with_reducible repeat (first | apply Kd.R_alloc | apply Kd.R_drewN | apply Kd.R_drew)); exact HO104.out) hb); have n1_ := Aside0.mk (Kd.R_below (by (with_reducible repeat (first | apply Kd.R_alloc | apply Kd.R_drewN | apply Kd.R_drew)); exact HO113.out) hb); have n2_ := Aside0.mk (below_step (by repeat (first | (with_reducible first | exact HB.out | apply below_alloc | apply pw_below_drewN | apply below_drew1) | exact HB.out)) hb); clear HO104; clear HO113; clear HB; have HO104 := n0_; have HO113 := n1_; have HB := n2_; clear n0_ n1_ n2_; (try clear hb); (try clear hb2); (try clear hk); (try clear hi); obtain ⟨Ao26, co26, eo26⟩ := Kd.R_slice HO113.out; subst eo26; clear tk2_) | (go_at_call 42; (with_reducible refine (graftageref37_Same.calls k _ _ y102 _ _ t110 true _ ?side1 ?side2 ?side3 ?side4 A13.out).mono ?_); (case side1 => repeat (first | exact (Kd.R_reads' HO104.out).2.2 | (with_reducible refine Kd.C_alloc ?_ _) | (with_reducible refine Kd.C_drewN ?_ _) | (with_reducible refine Kd.C_drew ?_))); (case side2 => exact (Kd.R_reads' HO104.out).2.1); (case side3 => repeat (first | exact (Kd.R_reads' HO113.out).2.2 | (with_reducible refine Kd.C_alloc ?_ _) | (with_reducible refine Kd.C_drewN ?_ _) | (with_reducible refine Kd.C_drew ?_))); (case side4 => exact (Kd.R_reads' HO113.out).2.1); rintro e w' ⟨rfl, ⟨nd, rfl⟩⟩) | (go_at_call 34; (with_reducible refine (refs_Name.calls k (⟨#[114, 101, 102, 115, 47, 104, 101, 97, 100, 115, 47, 97, 46, 46, 98]⟩ : ByteArray) true _ ?side1 A15.out).mono ?_); (case side1 => exact GV.below hgv (by repeat (first | (with_reducible first | exact HB.out | apply below_alloc | apply pw_below_drewN | apply below_drew1) | exact HB.out))); rintro e w27 ⟨rfl, hb⟩; have n0_ := Aside0.mk (Kd.R_below (by (with_reducible repeat (first | apply Kd.R_alloc | apply Kd.R_drewN | apply Kd.R_drew)); exact HO104.out) hb); have n1_ := Aside0.mk (Kd.R_below (by (with_reducible repeat (first | apply Kd.R_alloc | apply Kd.R_drewN | apply Kd.R_drew)); exact HO113.out) hb); have n2_ := Aside0.mk (below_step (by repeat (first | (with_reducible first | exact HB.out | apply below_alloc | apply pw_below_drewN | apply below_drew1) | exact HB.out)) hb); clear HO104; clear HO113; clear HB; have HO104 := n0_; have HO113 := n1_; have HB := n2_; clear n0_ n1_ n2_; (try clear hb); (try clear hb2); (try clear hk); (try clear hi)))
                  go_ret
                  exact ⟨by first | rfl | (simp [errW_none, errW_some] <;> rfl) | (simp [*, errW_none, errW_some] <;> rfl) | (simp [ne_nil_bool]; done) | (simp [*, ne_nil_bool]; done), by repeat (first | (with_reducible first | exact HB.out | apply below_alloc | apply pw_below_drewN | apply below_drew1) | exact HB.out)⟩
                · replace c16 := Bool.eq_false_iff.mpr c16
                  subst c16
                  have H1 : ((refs_Name.f k (⟨#[114, 101, 102, 115, 47, 97]⟩ : ByteArray)).bind fun t118 => (some t118)) = some r := by rw [if_neg (show ¬ (false = true) by decide)] at H; exact H
                  clear H
                  have H := H1
                  clear H1
                  replace H := Option.bind_eq_some_iff.mp H
                  obtain ⟨t118, A280, H⟩ := H
                  replace H : (some t118) = some r := H
                  have A28 := Aside0.mk A280
                  clear A280
                  obtain rfl := Option.some.inj H
                  go_enter Tryd.func33, Tryd.ntmps33
                  have tk3_ : True := trivial
                  have tk4_ : True := trivial
                  have tk5_ : True := trivial
                  have tk6_ : True := trivial
                  go_wp2_with (first | (have _t := tk3_; (with_reducible refine gate_callee (f := 71) rfl ?_); refine goesL_ (some 10) rfl rfl Tryd.func71 (by kernel_rfl) rfl #[.int .u8 49] rfl (by (try simp only [List.map_toArray, List.map_cons, List.map_nil]); first | done | rfl | (simp only [List.length_drop, List.length_take]; rfl)) ?_; (with_reducible refine (graftagelaw37_id.calls k 49 t101 _ A1.out).mono ?_); rintro e w29 ⟨rfl, hb⟩; refine ⟨_, rfl, ?_⟩; have n0_ := Aside0.mk (below_step (by repeat (first | (with_reducible first | exact HB.out | apply below_alloc | apply pw_below_drewN | apply below_drew1) | exact HB.out)) hb); clear HB; have HB := n0_; clear n0_; (try clear hb); (try clear hb2); (try clear hk); (try clear hi); clear tk3_) | ((with_reducible refine gate_dst (N := 12) rfl ?_); refine Kd.R_lit k55 _ 55 ?hg (N := 12) ?hd (xs := ([(⟨(⟨#[72, 69, 65, 68]⟩ : ByteArray), (⟨#[]⟩ : ByteArray), (⟨#[114, 101, 102, 115, 47, 104, 101, 97, 100, 115, 47, 109, 97, 105, 110]⟩ : ByteArray)⟩ : S55), (⟨(⟨#[114, 101, 102, 115, 47, 104, 101, 97, 100, 115, 47, 109, 97, 105, 110]⟩ : ByteArray), t101, (⟨#[]⟩ : ByteArray)⟩ : S55)] : List (S55))) (inner := [.string (⟨#[72, 69, 65, 68]⟩ : ByteArray), .string (⟨#[]⟩ : ByteArray), .string (⟨#[114, 101, 102, 115, 47, 104, 101, 97, 100, 115, 47, 109, 97, 105, 110]⟩ : ByteArray), .string (⟨#[114, 101, 102, 115, 47, 104, 101, 97, 100, 115, 47, 109, 97, 105, 110]⟩ : ByteArray), .string t101, .string (⟨#[]⟩ : ByteArray)]) (ok := fun _ => True) (okp := fun _ => True) ?hr ?hp (fun _ hk => hk) trivial (Below.refl _ _) (Nat.le_refl _) (by simp) ?_; (case hd => rfl); (case hg => rfl); (case hr => first | (go_simp; done) | (go_simp; rfl)); (case hp => exact (Reps.c3 (show Kd.M k55 _ _ _ (⟨(⟨#[72, 69, 65, 68]⟩ : ByteArray), (⟨#[]⟩ : ByteArray), (⟨#[114, 101, 102, 115, 47, 104, 101, 97, 100, 115, 47, 109, 97, 105, 110]⟩ : ByteArray)⟩ : S55) [.string (⟨#[72, 69, 65, 68]⟩ : ByteArray), .string (⟨#[]⟩ : ByteArray), .string (⟨#[114, 101, 102, 115, 47, 104, 101, 97, 100, 115, 47, 109, 97, 105, 110]⟩ : ByteArray)] from (k55_mkM _ _ _ (⟨(⟨#[72, 69, 65, 68]⟩ : ByteArray), (⟨#[]⟩ : ByteArray), (⟨#[114, 101, 102, 115, 47, 104, 101, 97, 100, 115, 47, 109, 97, 105, 110]⟩ : ByteArray)⟩ : S55) )) (Reps.c3 (show Kd.M k55 _ _ _ (⟨(⟨#[114, 101, 102, 115, 47, 104, 101, 97, 100, 115, 47, 109, 97, 105, 110]⟩ : ByteArray), t101, (⟨#[]⟩ : ByteArray)⟩ : S55) [.string (⟨#[114, 101, 102, 115, 47, 104, 101, 97, 100, 115, 47, 109, 97, 105, 110]⟩ : ByteArray), .string t101, .string (⟨#[]⟩ : ByteArray)] from (k55_mkM _ _ _ (⟨(⟨#[114, 101, 102, 115, 47, 104, 101, 97, 100, 115, 47, 109, 97, 105, 110]⟩ : ByteArray), t101, (⟨#[]⟩ : ByteArray)⟩ : S55) )) (Reps.none _ _)))); intro v103 w30 ho31 hb hg_ hnew_; clear hg_ hnew_; (first | rw [← Ny102.out] at ho31 | (simp only [Int.reduceToNat] at ho31; rw [← Ny102.out] at ho31)); have n0_ := Aside0.mk (Kd.R_lower ho31 (below_size (by repeat (first | (with_reducible first | exact HB.out | apply below_alloc | apply pw_below_drewN | apply below_drew1) | exact HB.out)))); have n1_ := Aside0.mk (below_step (by repeat (first | (with_reducible first | exact HB.out | apply below_alloc | apply pw_below_drewN | apply below_drew1) | exact HB.out)) hb); clear HB; have HO104 := n0_; have HB := n1_; clear n0_ n1_; clear hb ho31; obtain ⟨Ao32, co32, eo32⟩ := Kd.R_slice HO104.out; subst eo32) | ((with_reducible refine gate_callee (f := 43) rfl ?_); refine goesL_ (some 15) rfl rfl Tryd.func43 (by kernel_rfl) rfl #[.slice Ao32 y102.length co32, .string (⟨#[72, 69, 65, 68]⟩ : ByteArray)] rfl (by (try simp only [List.map_toArray, List.map_cons, List.map_nil]); first | done | rfl | (simp only [List.length_drop, List.length_take]; rfl)) ?_; (with_reducible refine (refs_Resolve.calls k _ _ y102 (⟨#[72, 69, 65, 68]⟩ : ByteArray) t105 t106 t107 _ ?side1 ?side2 ?side3 A2.out).mono ?_); (case side1 => repeat (first | exact (Kd.R_reads' HO104.out).2.2 | (with_reducible refine Kd.C_alloc ?_ _) | (with_reducible refine Kd.C_drewN ?_ _) | (with_reducible refine Kd.C_drew ?_))); (case side2 => exact (Kd.R_reads' HO104.out).2.1); (case side3 => exact GV.below hgv (by repeat (first | (with_reducible first | exact HB.out | apply below_alloc | apply pw_below_drewN | apply below_drew1) | exact HB.out))); rintro e w33 ⟨rfl, hb⟩; refine ⟨_, rfl, ?_⟩; have n0_ := Aside0.mk (Kd.R_below (by (with_reducible repeat (first | apply Kd.R_alloc | apply Kd.R_drewN | apply Kd.R_drew)); exact HO104.out) hb); have n1_ := Aside0.mk (below_step (by repeat (first | (with_reducible first | exact HB.out | apply below_alloc | apply pw_below_drewN | apply below_drew1) | exact HB.out)) hb); clear HO104; clear HB; have HO104 := n0_; have HB := n1_; clear n0_ n1_; (try clear hb); (try clear hb2); (try clear hk); (try clear hi)) | ((with_reducible refine gate_callee (f := 38) rfl ?_); refine goesL_ (some 21) rfl rfl Tryd.func38 (by kernel_rfl) rfl #[.slice Ao32 y102.length co32] rfl (by (try simp only [List.map_toArray, List.map_cons, List.map_nil]); first | done | rfl | (simp only [List.length_drop, List.length_take]; rfl)) ?_; (with_reducible refine (refs_Text.calls k _ _ y102 t108 t109 _ ?side1 ?side2 ?side3 A3.out).mono ?_); (case side1 => repeat (first | exact (Kd.R_reads' HO104.out).2.2 | (with_reducible refine Kd.C_alloc ?_ _) | (with_reducible refine Kd.C_drewN ?_ _) | (with_reducible refine Kd.C_drew ?_))); (case side2 => exact (Kd.R_reads' HO104.out).2.1); (case side3 => exact GV.below hgv (by repeat (first | (with_reducible first | exact HB.out | apply below_alloc | apply pw_below_drewN | apply below_drew1) | exact HB.out))); rintro e w34 ⟨rfl, hb⟩; refine ⟨_, rfl, ?_⟩; have n0_ := Aside0.mk (Kd.R_below (by (with_reducible repeat (first | apply Kd.R_alloc | apply Kd.R_drewN | apply Kd.R_drew)); exact HO104.out) hb); have n1_ := Aside0.mk (below_step (by repeat (first | (with_reducible first | exact HB.out | apply below_alloc | apply pw_below_drewN | apply below_drew1) | exact HB.out)) hb); clear HO104; clear HB; have HO104 := n0_; have HB := n1_; clear n0_ n1_; (try clear hb); (try clear hb2); (try clear hk); (try clear hi)) | ((with_reducible refine gate_callee (f := 40) rfl ?_); refine goesL_ (some 26) rfl rfl Tryd.func40 (by kernel_rfl) rfl #[.string t108] rfl (by (try simp only [List.map_toArray, List.map_cons, List.map_nil]); first | done | rfl | (simp only [List.length_drop, List.length_take]; rfl)) ?_; (with_reducible refine (refs_Parse.calls k t108 t110 t111 _ ?side1 A4.out).mono ?_); (case side1 => exact GV.below hgv (by repeat (first | (with_reducible first | exact HB.out | apply below_alloc | apply pw_below_drewN | apply below_drew1) | exact HB.out))); rintro e w35 ⟨v112, rfl, ho0, hb⟩; refine ⟨_, rfl, ?_⟩; have n0_ := Aside0.mk (Kd.R_elder' (by (with_reducible repeat (first | apply Kd.R_alloc | apply Kd.R_drewN | apply Kd.R_drew)); exact HO104.out) (Kd.R_base ho0) hb); have n1_ := Aside0.mk (Kd.R_lower (Kd.R_new' ho0 (Kd.R_lt (by (with_reducible repeat (first | apply Kd.R_alloc | apply Kd.R_drewN | apply Kd.R_drew)); exact HO104.out))) (below_size (by repeat (first | (with_reducible first | exact HB.out | apply below_alloc | apply pw_below_drewN | apply below_drew1) | exact HB.out)))); have n2_ := Aside0.mk (below_step (by repeat (first | (with_reducible first | exact HB.out | apply below_alloc | apply pw_below_drewN | apply below_drew1) | exact HB.out)) hb); clear HO104; clear HB; have HO104 := n0_; have HO113 := n1_; have HB := n2_; clear n0_ n1_ n2_; (try clear hb); (try clear hb2); (try clear hk); (try clear hi); (try clear ho0)) | ((with_reducible refine gate_callee (f := 36) rfl ?_); refine goesL_ (some 30) rfl rfl Tryd.func36 (by kernel_rfl) rfl #[.slice Ao32 y102.length co32] rfl (by (try simp only [List.map_toArray, List.map_cons, List.map_nil]); first | done | rfl | (simp only [List.length_drop, List.length_take]; rfl)) ?_; (with_reducible refine (refs_Check.calls k _ _ y102 t114 _ ?side1 ?side2 ?side3 A5.out).mono ?_); (case side1 => repeat (first | exact (Kd.R_reads' HO104.out).2.2 | (with_reducible refine Kd.C_alloc ?_ _) | (with_reducible refine Kd.C_drewN ?_ _) | (with_reducible refine Kd.C_drew ?_))); (case side2 => exact (Kd.R_reads' HO104.out).2.1); (case side3 => exact GV.below hgv (by repeat (first | (with_reducible first | exact HB.out | apply below_alloc | apply pw_below_drewN | apply below_drew1) | exact HB.out))); rintro e w36 ⟨rfl, hb⟩; refine ⟨_, rfl, ?_⟩; have n0_ := Aside0.mk (Kd.R_below (by (with_reducible repeat (first | apply Kd.R_alloc | apply Kd.R_drewN | apply Kd.R_drew)); exact HO104.out) hb); have n1_ := Aside0.mk (Kd.R_below (by (with_reducible repeat (first | apply Kd.R_alloc | apply Kd.R_drewN | apply Kd.R_drew)); exact HO113.out) hb); have n2_ := Aside0.mk (below_step (by repeat (first | (with_reducible first | exact HB.out | apply below_alloc | apply pw_below_drewN | apply below_drew1) | exact HB.out)) hb); clear HO104; clear HO113; clear HB; have HO104 := n0_; have HO113 := n1_; have HB := n2_; clear n0_ n1_ n2_; (try clear hb); (try clear hb2); (try clear hk); (try clear hi)) | (go_at_call 71; have _t := tk4_; (with_reducible refine (graftagelaw37_id.calls k 49 t115 _ A8.out).mono ?_); rintro e w37 ⟨rfl, hb⟩; have n0_ := Aside0.mk (Kd.R_below (by (with_reducible repeat (first | apply Kd.R_alloc | apply Kd.R_drewN | apply Kd.R_drew)); exact HO104.out) hb); have n1_ := Aside0.mk (Kd.R_below (by (with_reducible repeat (first | apply Kd.R_alloc | apply Kd.R_drewN | apply Kd.R_drew)); exact HO113.out) hb); have n2_ := Aside0.mk (below_step (by repeat (first | (with_reducible first | exact HB.out | apply below_alloc | apply pw_below_drewN | apply below_drew1) | exact HB.out)) hb); clear HO104; clear HO113; clear HB; have HO104 := n0_; have HO113 := n1_; have HB := n2_; clear n0_ n1_ n2_; (try clear hb); (try clear hb2); (try clear hk); (try clear hi); obtain ⟨Ao38, co38, eo38⟩ := Kd.R_slice HO113.out; subst eo38; clear tk4_) | (go_at_call 42; (with_reducible refine (graftageref37_Same.calls k _ _ y102 _ _ t110 true _ ?side1 ?side2 ?side3 ?side4 A13.out).mono ?_); (case side1 => repeat (first | exact (Kd.R_reads' HO104.out).2.2 | (with_reducible refine Kd.C_alloc ?_ _) | (with_reducible refine Kd.C_drewN ?_ _) | (with_reducible refine Kd.C_drew ?_))); (case side2 => exact (Kd.R_reads' HO104.out).2.1); (case side3 => repeat (first | exact (Kd.R_reads' HO113.out).2.2 | (with_reducible refine Kd.C_alloc ?_ _) | (with_reducible refine Kd.C_drewN ?_ _) | (with_reducible refine Kd.C_drew ?_))); (case side4 => exact (Kd.R_reads' HO113.out).2.1); rintro e w' ⟨rfl, ⟨nd, rfl⟩⟩) | (go_at_call 34; have _t := tk5_; (with_reducible refine (refs_Name.calls k (⟨#[114, 101, 102, 115, 47, 104, 101, 97, 100, 115, 47, 97, 46, 46, 98]⟩ : ByteArray) false _ ?side1 A15.out).mono ?_); (case side1 => exact GV.below hgv (by repeat (first | (with_reducible first | exact HB.out | apply below_alloc | apply pw_below_drewN | apply below_drew1) | exact HB.out))); rintro e w39 ⟨rfl, hb⟩; have n0_ := Aside0.mk (Kd.R_below (by (with_reducible repeat (first | apply Kd.R_alloc | apply Kd.R_drewN | apply Kd.R_drew)); exact HO104.out) hb); have n1_ := Aside0.mk (Kd.R_below (by (with_reducible repeat (first | apply Kd.R_alloc | apply Kd.R_drewN | apply Kd.R_drew)); exact HO113.out) hb); have n2_ := Aside0.mk (below_step (by repeat (first | (with_reducible first | exact HB.out | apply below_alloc | apply pw_below_drewN | apply below_drew1) | exact HB.out)) hb); clear HO104; clear HO113; clear HB; have HO104 := n0_; have HO113 := n1_; have HB := n2_; clear n0_ n1_ n2_; (try clear hb); (try clear hb2); (try clear hk); (try clear hi); clear tk5_) | (go_at_call 34; have _t := tk6_; (with_reducible refine (refs_Name.calls k (⟨#[114, 101, 102, 115, 47, 97]⟩ : ByteArray) t118 _ ?side1 A28.out).mono ?_); (case side1 => exact GV.below hgv (by repeat (first | (with_reducible first | exact HB.out | apply below_alloc | apply pw_below_drewN | apply below_drew1) | exact HB.out))); rintro e w40 ⟨rfl, hb⟩; have n0_ := Aside0.mk (Kd.R_below (by (with_reducible repeat (first | apply Kd.R_alloc | apply Kd.R_drewN | apply Kd.R_drew)); exact HO104.out) hb); have n1_ := Aside0.mk (Kd.R_below (by (with_reducible repeat (first | apply Kd.R_alloc | apply Kd.R_drewN | apply Kd.R_drew)); exact HO113.out) hb); have n2_ := Aside0.mk (below_step (by repeat (first | (with_reducible first | exact HB.out | apply below_alloc | apply pw_below_drewN | apply below_drew1) | exact HB.out)) hb); clear HO104; clear HO113; clear HB; have HO104 := n0_; have HO113 := n1_; have HB := n2_; clear n0_ n1_ n2_; (try clear hb); (try clear hb2); (try clear hk); (try clear hi); clear tk6_))
                  go_ret
                  exact ⟨by first | rfl | (simp [errW_none, errW_some] <;> rfl) | (simp [*, errW_none, errW_some] <;> rfl) | (simp [ne_nil_bool]; done) | (simp [*, ne_nil_bool]; done), by repeat (first | (with_reducible first | exact HB.out | apply below_alloc | apply pw_below_drewN | apply below_drew1) | exact HB.out)⟩
              · replace c14 := Bool.eq_false_iff.mpr c14
                subst c14
                have H1 : (some false) = some r := by rw [if_neg (show ¬ (false = true) by decide)] at H; exact H
                clear H
                have H := H1
                clear H1
                obtain rfl := Option.some.inj H
                go_enter Tryd.func33, Tryd.ntmps33
                have tk7_ : True := trivial
                have tk8_ : True := trivial
                go_wp2_with (first | (have _t := tk7_; (with_reducible refine gate_callee (f := 71) rfl ?_); refine goesL_ (some 10) rfl rfl Tryd.func71 (by kernel_rfl) rfl #[.int .u8 49] rfl (by (try simp only [List.map_toArray, List.map_cons, List.map_nil]); first | done | rfl | (simp only [List.length_drop, List.length_take]; rfl)) ?_; (with_reducible refine (graftagelaw37_id.calls k 49 t101 _ A1.out).mono ?_); rintro e w41 ⟨rfl, hb⟩; refine ⟨_, rfl, ?_⟩; have n0_ := Aside0.mk (below_step (by repeat (first | (with_reducible first | exact HB.out | apply below_alloc | apply pw_below_drewN | apply below_drew1) | exact HB.out)) hb); clear HB; have HB := n0_; clear n0_; (try clear hb); (try clear hb2); (try clear hk); (try clear hi); clear tk7_) | ((with_reducible refine gate_dst (N := 12) rfl ?_); refine Kd.R_lit k55 _ 55 ?hg (N := 12) ?hd (xs := ([(⟨(⟨#[72, 69, 65, 68]⟩ : ByteArray), (⟨#[]⟩ : ByteArray), (⟨#[114, 101, 102, 115, 47, 104, 101, 97, 100, 115, 47, 109, 97, 105, 110]⟩ : ByteArray)⟩ : S55), (⟨(⟨#[114, 101, 102, 115, 47, 104, 101, 97, 100, 115, 47, 109, 97, 105, 110]⟩ : ByteArray), t101, (⟨#[]⟩ : ByteArray)⟩ : S55)] : List (S55))) (inner := [.string (⟨#[72, 69, 65, 68]⟩ : ByteArray), .string (⟨#[]⟩ : ByteArray), .string (⟨#[114, 101, 102, 115, 47, 104, 101, 97, 100, 115, 47, 109, 97, 105, 110]⟩ : ByteArray), .string (⟨#[114, 101, 102, 115, 47, 104, 101, 97, 100, 115, 47, 109, 97, 105, 110]⟩ : ByteArray), .string t101, .string (⟨#[]⟩ : ByteArray)]) (ok := fun _ => True) (okp := fun _ => True) ?hr ?hp (fun _ hk => hk) trivial (Below.refl _ _) (Nat.le_refl _) (by simp) ?_; (case hd => rfl); (case hg => rfl); (case hr => first | (go_simp; done) | (go_simp; rfl)); (case hp => exact (Reps.c3 (show Kd.M k55 _ _ _ (⟨(⟨#[72, 69, 65, 68]⟩ : ByteArray), (⟨#[]⟩ : ByteArray), (⟨#[114, 101, 102, 115, 47, 104, 101, 97, 100, 115, 47, 109, 97, 105, 110]⟩ : ByteArray)⟩ : S55) [.string (⟨#[72, 69, 65, 68]⟩ : ByteArray), .string (⟨#[]⟩ : ByteArray), .string (⟨#[114, 101, 102, 115, 47, 104, 101, 97, 100, 115, 47, 109, 97, 105, 110]⟩ : ByteArray)] from (k55_mkM _ _ _ (⟨(⟨#[72, 69, 65, 68]⟩ : ByteArray), (⟨#[]⟩ : ByteArray), (⟨#[114, 101, 102, 115, 47, 104, 101, 97, 100, 115, 47, 109, 97, 105, 110]⟩ : ByteArray)⟩ : S55) )) (Reps.c3 (show Kd.M k55 _ _ _ (⟨(⟨#[114, 101, 102, 115, 47, 104, 101, 97, 100, 115, 47, 109, 97, 105, 110]⟩ : ByteArray), t101, (⟨#[]⟩ : ByteArray)⟩ : S55) [.string (⟨#[114, 101, 102, 115, 47, 104, 101, 97, 100, 115, 47, 109, 97, 105, 110]⟩ : ByteArray), .string t101, .string (⟨#[]⟩ : ByteArray)] from (k55_mkM _ _ _ (⟨(⟨#[114, 101, 102, 115, 47, 104, 101, 97, 100, 115, 47, 109, 97, 105, 110]⟩ : ByteArray), t101, (⟨#[]⟩ : ByteArray)⟩ : S55) )) (Reps.none _ _)))); intro v103 w42 ho43 hb hg_ hnew_; clear hg_ hnew_; (first | rw [← Ny102.out] at ho43 | (simp only [Int.reduceToNat] at ho43; rw [← Ny102.out] at ho43)); have n0_ := Aside0.mk (Kd.R_lower ho43 (below_size (by repeat (first | (with_reducible first | exact HB.out | apply below_alloc | apply pw_below_drewN | apply below_drew1) | exact HB.out)))); have n1_ := Aside0.mk (below_step (by repeat (first | (with_reducible first | exact HB.out | apply below_alloc | apply pw_below_drewN | apply below_drew1) | exact HB.out)) hb); clear HB; have HO104 := n0_; have HB := n1_; clear n0_ n1_; clear hb ho43; obtain ⟨Ao44, co44, eo44⟩ := Kd.R_slice HO104.out; subst eo44) | ((with_reducible refine gate_callee (f := 43) rfl ?_); refine goesL_ (some 15) rfl rfl Tryd.func43 (by kernel_rfl) rfl #[.slice Ao44 y102.length co44, .string (⟨#[72, 69, 65, 68]⟩ : ByteArray)] rfl (by (try simp only [List.map_toArray, List.map_cons, List.map_nil]); first | done | rfl | (simp only [List.length_drop, List.length_take]; rfl)) ?_; (with_reducible refine (refs_Resolve.calls k _ _ y102 (⟨#[72, 69, 65, 68]⟩ : ByteArray) t105 t106 t107 _ ?side1 ?side2 ?side3 A2.out).mono ?_); (case side1 => repeat (first | exact (Kd.R_reads' HO104.out).2.2 | (with_reducible refine Kd.C_alloc ?_ _) | (with_reducible refine Kd.C_drewN ?_ _) | (with_reducible refine Kd.C_drew ?_))); (case side2 => exact (Kd.R_reads' HO104.out).2.1); (case side3 => exact GV.below hgv (by repeat (first | (with_reducible first | exact HB.out | apply below_alloc | apply pw_below_drewN | apply below_drew1) | exact HB.out))); rintro e w45 ⟨rfl, hb⟩; refine ⟨_, rfl, ?_⟩; have n0_ := Aside0.mk (Kd.R_below (by (with_reducible repeat (first | apply Kd.R_alloc | apply Kd.R_drewN | apply Kd.R_drew)); exact HO104.out) hb); have n1_ := Aside0.mk (below_step (by repeat (first | (with_reducible first | exact HB.out | apply below_alloc | apply pw_below_drewN | apply below_drew1) | exact HB.out)) hb); clear HO104; clear HB; have HO104 := n0_; have HB := n1_; clear n0_ n1_; (try clear hb); (try clear hb2); (try clear hk); (try clear hi)) | ((with_reducible refine gate_callee (f := 38) rfl ?_); refine goesL_ (some 21) rfl rfl Tryd.func38 (by kernel_rfl) rfl #[.slice Ao44 y102.length co44] rfl (by (try simp only [List.map_toArray, List.map_cons, List.map_nil]); first | done | rfl | (simp only [List.length_drop, List.length_take]; rfl)) ?_; (with_reducible refine (refs_Text.calls k _ _ y102 t108 t109 _ ?side1 ?side2 ?side3 A3.out).mono ?_); (case side1 => repeat (first | exact (Kd.R_reads' HO104.out).2.2 | (with_reducible refine Kd.C_alloc ?_ _) | (with_reducible refine Kd.C_drewN ?_ _) | (with_reducible refine Kd.C_drew ?_))); (case side2 => exact (Kd.R_reads' HO104.out).2.1); (case side3 => exact GV.below hgv (by repeat (first | (with_reducible first | exact HB.out | apply below_alloc | apply pw_below_drewN | apply below_drew1) | exact HB.out))); rintro e w46 ⟨rfl, hb⟩; refine ⟨_, rfl, ?_⟩; have n0_ := Aside0.mk (Kd.R_below (by (with_reducible repeat (first | apply Kd.R_alloc | apply Kd.R_drewN | apply Kd.R_drew)); exact HO104.out) hb); have n1_ := Aside0.mk (below_step (by repeat (first | (with_reducible first | exact HB.out | apply below_alloc | apply pw_below_drewN | apply below_drew1) | exact HB.out)) hb); clear HO104; clear HB; have HO104 := n0_; have HB := n1_; clear n0_ n1_; (try clear hb); (try clear hb2); (try clear hk); (try clear hi)) | ((with_reducible refine gate_callee (f := 40) rfl ?_); refine goesL_ (some 26) rfl rfl Tryd.func40 (by kernel_rfl) rfl #[.string t108] rfl (by (try simp only [List.map_toArray, List.map_cons, List.map_nil]); first | done | rfl | (simp only [List.length_drop, List.length_take]; rfl)) ?_; (with_reducible refine (refs_Parse.calls k t108 t110 t111 _ ?side1 A4.out).mono ?_); (case side1 => exact GV.below hgv (by repeat (first | (with_reducible first | exact HB.out | apply below_alloc | apply pw_below_drewN | apply below_drew1) | exact HB.out))); rintro e w47 ⟨v112, rfl, ho0, hb⟩; refine ⟨_, rfl, ?_⟩; have n0_ := Aside0.mk (Kd.R_elder' (by (with_reducible repeat (first | apply Kd.R_alloc | apply Kd.R_drewN | apply Kd.R_drew)); exact HO104.out) (Kd.R_base ho0) hb); have n1_ := Aside0.mk (Kd.R_lower (Kd.R_new' ho0 (Kd.R_lt (by (with_reducible repeat (first | apply Kd.R_alloc | apply Kd.R_drewN | apply Kd.R_drew)); exact HO104.out))) (below_size (by repeat (first | (with_reducible first | exact HB.out | apply below_alloc | apply pw_below_drewN | apply below_drew1) | exact HB.out)))); have n2_ := Aside0.mk (below_step (by repeat (first | (with_reducible first | exact HB.out | apply below_alloc | apply pw_below_drewN | apply below_drew1) | exact HB.out)) hb); clear HO104; clear HB; have HO104 := n0_; have HO113 := n1_; have HB := n2_; clear n0_ n1_ n2_; (try clear hb); (try clear hb2); (try clear hk); (try clear hi); (try clear ho0)) | ((with_reducible refine gate_callee (f := 36) rfl ?_); refine goesL_ (some 30) rfl rfl Tryd.func36 (by kernel_rfl) rfl #[.slice Ao44 y102.length co44] rfl (by (try simp only [List.map_toArray, List.map_cons, List.map_nil]); first | done | rfl | (simp only [List.length_drop, List.length_take]; rfl)) ?_; (with_reducible refine (refs_Check.calls k _ _ y102 t114 _ ?side1 ?side2 ?side3 A5.out).mono ?_); (case side1 => repeat (first | exact (Kd.R_reads' HO104.out).2.2 | (with_reducible refine Kd.C_alloc ?_ _) | (with_reducible refine Kd.C_drewN ?_ _) | (with_reducible refine Kd.C_drew ?_))); (case side2 => exact (Kd.R_reads' HO104.out).2.1); (case side3 => exact GV.below hgv (by repeat (first | (with_reducible first | exact HB.out | apply below_alloc | apply pw_below_drewN | apply below_drew1) | exact HB.out))); rintro e w48 ⟨rfl, hb⟩; refine ⟨_, rfl, ?_⟩; have n0_ := Aside0.mk (Kd.R_below (by (with_reducible repeat (first | apply Kd.R_alloc | apply Kd.R_drewN | apply Kd.R_drew)); exact HO104.out) hb); have n1_ := Aside0.mk (Kd.R_below (by (with_reducible repeat (first | apply Kd.R_alloc | apply Kd.R_drewN | apply Kd.R_drew)); exact HO113.out) hb); have n2_ := Aside0.mk (below_step (by repeat (first | (with_reducible first | exact HB.out | apply below_alloc | apply pw_below_drewN | apply below_drew1) | exact HB.out)) hb); clear HO104; clear HO113; clear HB; have HO104 := n0_; have HO113 := n1_; have HB := n2_; clear n0_ n1_ n2_; (try clear hb); (try clear hb2); (try clear hk); (try clear hi)) | (go_at_call 71; have _t := tk8_; (with_reducible refine (graftagelaw37_id.calls k 49 t115 _ A8.out).mono ?_); rintro e w49 ⟨rfl, hb⟩; have n0_ := Aside0.mk (Kd.R_below (by (with_reducible repeat (first | apply Kd.R_alloc | apply Kd.R_drewN | apply Kd.R_drew)); exact HO104.out) hb); have n1_ := Aside0.mk (Kd.R_below (by (with_reducible repeat (first | apply Kd.R_alloc | apply Kd.R_drewN | apply Kd.R_drew)); exact HO113.out) hb); have n2_ := Aside0.mk (below_step (by repeat (first | (with_reducible first | exact HB.out | apply below_alloc | apply pw_below_drewN | apply below_drew1) | exact HB.out)) hb); clear HO104; clear HO113; clear HB; have HO104 := n0_; have HO113 := n1_; have HB := n2_; clear n0_ n1_ n2_; (try clear hb); (try clear hb2); (try clear hk); (try clear hi); obtain ⟨Ao50, co50, eo50⟩ := Kd.R_slice HO113.out; subst eo50; clear tk8_) | (go_at_call 42; (with_reducible refine (graftageref37_Same.calls k _ _ y102 _ _ t110 false _ ?side1 ?side2 ?side3 ?side4 A13.out).mono ?_); (case side1 => repeat (first | exact (Kd.R_reads' HO104.out).2.2 | (with_reducible refine Kd.C_alloc ?_ _) | (with_reducible refine Kd.C_drewN ?_ _) | (with_reducible refine Kd.C_drew ?_))); (case side2 => exact (Kd.R_reads' HO104.out).2.1); (case side3 => repeat (first | exact (Kd.R_reads' HO113.out).2.2 | (with_reducible refine Kd.C_alloc ?_ _) | (with_reducible refine Kd.C_drewN ?_ _) | (with_reducible refine Kd.C_drew ?_))); (case side4 => exact (Kd.R_reads' HO113.out).2.1); rintro e w' ⟨rfl, ⟨nd, rfl⟩⟩))
                go_ret
                exact ⟨by first | rfl | (simp [errW_none, errW_some] <;> rfl) | (simp [*, errW_none, errW_some] <;> rfl) | (simp [ne_nil_bool]; done) | (simp [*, ne_nil_bool]; done), by repeat (first | (with_reducible first | exact HB.out | apply below_alloc | apply pw_below_drewN | apply below_drew1) | exact HB.out)⟩
            · rw [if_neg c12] at H
              have c12b0 : (t111 == 0) = false := beq_eq_false_iff_ne.mpr c12
              have c12b1 : (t111 != 0) = true := bne_iff_ne.mpr c12
              obtain rfl := Option.some.inj H
              go_enter Tryd.func33, Tryd.ntmps33
              have tk9_ : True := trivial
              have tk10_ : True := trivial
              go_wp2_with (first | (have _t := tk9_; (with_reducible refine gate_callee (f := 71) rfl ?_); refine goesL_ (some 10) rfl rfl Tryd.func71 (by kernel_rfl) rfl #[.int .u8 49] rfl (by (try simp only [List.map_toArray, List.map_cons, List.map_nil]); first | done | rfl | (simp only [List.length_drop, List.length_take]; rfl)) ?_; (with_reducible refine (graftagelaw37_id.calls k 49 t101 _ A1.out).mono ?_); rintro e w51 ⟨rfl, hb⟩; refine ⟨_, rfl, ?_⟩; have n0_ := Aside0.mk (below_step (by repeat (first | (with_reducible first | exact HB.out | apply below_alloc | apply pw_below_drewN | apply below_drew1) | exact HB.out)) hb); clear HB; have HB := n0_; clear n0_; (try clear hb); (try clear hb2); (try clear hk); (try clear hi); clear tk9_) | ((with_reducible refine gate_dst (N := 12) rfl ?_); refine Kd.R_lit k55 _ 55 ?hg (N := 12) ?hd (xs := ([(⟨(⟨#[72, 69, 65, 68]⟩ : ByteArray), (⟨#[]⟩ : ByteArray), (⟨#[114, 101, 102, 115, 47, 104, 101, 97, 100, 115, 47, 109, 97, 105, 110]⟩ : ByteArray)⟩ : S55), (⟨(⟨#[114, 101, 102, 115, 47, 104, 101, 97, 100, 115, 47, 109, 97, 105, 110]⟩ : ByteArray), t101, (⟨#[]⟩ : ByteArray)⟩ : S55)] : List (S55))) (inner := [.string (⟨#[72, 69, 65, 68]⟩ : ByteArray), .string (⟨#[]⟩ : ByteArray), .string (⟨#[114, 101, 102, 115, 47, 104, 101, 97, 100, 115, 47, 109, 97, 105, 110]⟩ : ByteArray), .string (⟨#[114, 101, 102, 115, 47, 104, 101, 97, 100, 115, 47, 109, 97, 105, 110]⟩ : ByteArray), .string t101, .string (⟨#[]⟩ : ByteArray)]) (ok := fun _ => True) (okp := fun _ => True) ?hr ?hp (fun _ hk => hk) trivial (Below.refl _ _) (Nat.le_refl _) (by simp) ?_; (case hd => rfl); (case hg => rfl); (case hr => first | (go_simp; done) | (go_simp; rfl)); (case hp => exact (Reps.c3 (show Kd.M k55 _ _ _ (⟨(⟨#[72, 69, 65, 68]⟩ : ByteArray), (⟨#[]⟩ : ByteArray), (⟨#[114, 101, 102, 115, 47, 104, 101, 97, 100, 115, 47, 109, 97, 105, 110]⟩ : ByteArray)⟩ : S55) [.string (⟨#[72, 69, 65, 68]⟩ : ByteArray), .string (⟨#[]⟩ : ByteArray), .string (⟨#[114, 101, 102, 115, 47, 104, 101, 97, 100, 115, 47, 109, 97, 105, 110]⟩ : ByteArray)] from (k55_mkM _ _ _ (⟨(⟨#[72, 69, 65, 68]⟩ : ByteArray), (⟨#[]⟩ : ByteArray), (⟨#[114, 101, 102, 115, 47, 104, 101, 97, 100, 115, 47, 109, 97, 105, 110]⟩ : ByteArray)⟩ : S55) )) (Reps.c3 (show Kd.M k55 _ _ _ (⟨(⟨#[114, 101, 102, 115, 47, 104, 101, 97, 100, 115, 47, 109, 97, 105, 110]⟩ : ByteArray), t101, (⟨#[]⟩ : ByteArray)⟩ : S55) [.string (⟨#[114, 101, 102, 115, 47, 104, 101, 97, 100, 115, 47, 109, 97, 105, 110]⟩ : ByteArray), .string t101, .string (⟨#[]⟩ : ByteArray)] from (k55_mkM _ _ _ (⟨(⟨#[114, 101, 102, 115, 47, 104, 101, 97, 100, 115, 47, 109, 97, 105, 110]⟩ : ByteArray), t101, (⟨#[]⟩ : ByteArray)⟩ : S55) )) (Reps.none _ _)))); intro v103 w52 ho53 hb hg_ hnew_; clear hg_ hnew_; (first | rw [← Ny102.out] at ho53 | (simp only [Int.reduceToNat] at ho53; rw [← Ny102.out] at ho53)); have n0_ := Aside0.mk (Kd.R_lower ho53 (below_size (by repeat (first | (with_reducible first | exact HB.out | apply below_alloc | apply pw_below_drewN | apply below_drew1) | exact HB.out)))); have n1_ := Aside0.mk (below_step (by repeat (first | (with_reducible first | exact HB.out | apply below_alloc | apply pw_below_drewN | apply below_drew1) | exact HB.out)) hb); clear HB; have HO104 := n0_; have HB := n1_; clear n0_ n1_; clear hb ho53; obtain ⟨Ao54, co54, eo54⟩ := Kd.R_slice HO104.out; subst eo54) | ((with_reducible refine gate_callee (f := 43) rfl ?_); refine goesL_ (some 15) rfl rfl Tryd.func43 (by kernel_rfl) rfl #[.slice Ao54 y102.length co54, .string (⟨#[72, 69, 65, 68]⟩ : ByteArray)] rfl (by (try simp only [List.map_toArray, List.map_cons, List.map_nil]); first | done | rfl | (simp only [List.length_drop, List.length_take]; rfl)) ?_; (with_reducible refine (refs_Resolve.calls k _ _ y102 (⟨#[72, 69, 65, 68]⟩ : ByteArray) t105 t106 t107 _ ?side1 ?side2 ?side3 A2.out).mono ?_); (case side1 => repeat (first | exact (Kd.R_reads' HO104.out).2.2 | (with_reducible refine Kd.C_alloc ?_ _) | (with_reducible refine Kd.C_drewN ?_ _) | (with_reducible refine Kd.C_drew ?_))); (case side2 => exact (Kd.R_reads' HO104.out).2.1); (case side3 => exact GV.below hgv (by repeat (first | (with_reducible first | exact HB.out | apply below_alloc | apply pw_below_drewN | apply below_drew1) | exact HB.out))); rintro e w55 ⟨rfl, hb⟩; refine ⟨_, rfl, ?_⟩; have n0_ := Aside0.mk (Kd.R_below (by (with_reducible repeat (first | apply Kd.R_alloc | apply Kd.R_drewN | apply Kd.R_drew)); exact HO104.out) hb); have n1_ := Aside0.mk (below_step (by repeat (first | (with_reducible first | exact HB.out | apply below_alloc | apply pw_below_drewN | apply below_drew1) | exact HB.out)) hb); clear HO104; clear HB; have HO104 := n0_; have HB := n1_; clear n0_ n1_; (try clear hb); (try clear hb2); (try clear hk); (try clear hi)) | ((with_reducible refine gate_callee (f := 38) rfl ?_); refine goesL_ (some 21) rfl rfl Tryd.func38 (by kernel_rfl) rfl #[.slice Ao54 y102.length co54] rfl (by (try simp only [List.map_toArray, List.map_cons, List.map_nil]); first | done | rfl | (simp only [List.length_drop, List.length_take]; rfl)) ?_; (with_reducible refine (refs_Text.calls k _ _ y102 t108 t109 _ ?side1 ?side2 ?side3 A3.out).mono ?_); (case side1 => repeat (first | exact (Kd.R_reads' HO104.out).2.2 | (with_reducible refine Kd.C_alloc ?_ _) | (with_reducible refine Kd.C_drewN ?_ _) | (with_reducible refine Kd.C_drew ?_))); (case side2 => exact (Kd.R_reads' HO104.out).2.1); (case side3 => exact GV.below hgv (by repeat (first | (with_reducible first | exact HB.out | apply below_alloc | apply pw_below_drewN | apply below_drew1) | exact HB.out))); rintro e w56 ⟨rfl, hb⟩; refine ⟨_, rfl, ?_⟩; have n0_ := Aside0.mk (Kd.R_below (by (with_reducible repeat (first | apply Kd.R_alloc | apply Kd.R_drewN | apply Kd.R_drew)); exact HO104.out) hb); have n1_ := Aside0.mk (below_step (by repeat (first | (with_reducible first | exact HB.out | apply below_alloc | apply pw_below_drewN | apply below_drew1) | exact HB.out)) hb); clear HO104; clear HB; have HO104 := n0_; have HB := n1_; clear n0_ n1_; (try clear hb); (try clear hb2); (try clear hk); (try clear hi)) | ((with_reducible refine gate_callee (f := 40) rfl ?_); refine goesL_ (some 26) rfl rfl Tryd.func40 (by kernel_rfl) rfl #[.string t108] rfl (by (try simp only [List.map_toArray, List.map_cons, List.map_nil]); first | done | rfl | (simp only [List.length_drop, List.length_take]; rfl)) ?_; (with_reducible refine (refs_Parse.calls k t108 t110 t111 _ ?side1 A4.out).mono ?_); (case side1 => exact GV.below hgv (by repeat (first | (with_reducible first | exact HB.out | apply below_alloc | apply pw_below_drewN | apply below_drew1) | exact HB.out))); rintro e w57 ⟨v112, rfl, ho0, hb⟩; refine ⟨_, rfl, ?_⟩; have n0_ := Aside0.mk (Kd.R_elder' (by (with_reducible repeat (first | apply Kd.R_alloc | apply Kd.R_drewN | apply Kd.R_drew)); exact HO104.out) (Kd.R_base ho0) hb); have n1_ := Aside0.mk (Kd.R_lower (Kd.R_new' ho0 (Kd.R_lt (by (with_reducible repeat (first | apply Kd.R_alloc | apply Kd.R_drewN | apply Kd.R_drew)); exact HO104.out))) (below_size (by repeat (first | (with_reducible first | exact HB.out | apply below_alloc | apply pw_below_drewN | apply below_drew1) | exact HB.out)))); have n2_ := Aside0.mk (below_step (by repeat (first | (with_reducible first | exact HB.out | apply below_alloc | apply pw_below_drewN | apply below_drew1) | exact HB.out)) hb); clear HO104; clear HB; have HO104 := n0_; have HO113 := n1_; have HB := n2_; clear n0_ n1_ n2_; (try clear hb); (try clear hb2); (try clear hk); (try clear hi); (try clear ho0)) | ((with_reducible refine gate_callee (f := 36) rfl ?_); refine goesL_ (some 30) rfl rfl Tryd.func36 (by kernel_rfl) rfl #[.slice Ao54 y102.length co54] rfl (by (try simp only [List.map_toArray, List.map_cons, List.map_nil]); first | done | rfl | (simp only [List.length_drop, List.length_take]; rfl)) ?_; (with_reducible refine (refs_Check.calls k _ _ y102 t114 _ ?side1 ?side2 ?side3 A5.out).mono ?_); (case side1 => repeat (first | exact (Kd.R_reads' HO104.out).2.2 | (with_reducible refine Kd.C_alloc ?_ _) | (with_reducible refine Kd.C_drewN ?_ _) | (with_reducible refine Kd.C_drew ?_))); (case side2 => exact (Kd.R_reads' HO104.out).2.1); (case side3 => exact GV.below hgv (by repeat (first | (with_reducible first | exact HB.out | apply below_alloc | apply pw_below_drewN | apply below_drew1) | exact HB.out))); rintro e w58 ⟨rfl, hb⟩; refine ⟨_, rfl, ?_⟩; have n0_ := Aside0.mk (Kd.R_below (by (with_reducible repeat (first | apply Kd.R_alloc | apply Kd.R_drewN | apply Kd.R_drew)); exact HO104.out) hb); have n1_ := Aside0.mk (Kd.R_below (by (with_reducible repeat (first | apply Kd.R_alloc | apply Kd.R_drewN | apply Kd.R_drew)); exact HO113.out) hb); have n2_ := Aside0.mk (below_step (by repeat (first | (with_reducible first | exact HB.out | apply below_alloc | apply pw_below_drewN | apply below_drew1) | exact HB.out)) hb); clear HO104; clear HO113; clear HB; have HO104 := n0_; have HO113 := n1_; have HB := n2_; clear n0_ n1_ n2_; (try clear hb); (try clear hb2); (try clear hk); (try clear hi)) | (go_at_call 71; have _t := tk10_; (with_reducible refine (graftagelaw37_id.calls k 49 t115 _ A8.out).mono ?_); rintro e w59 ⟨rfl, hb⟩; have n0_ := Aside0.mk (Kd.R_below (by (with_reducible repeat (first | apply Kd.R_alloc | apply Kd.R_drewN | apply Kd.R_drew)); exact HO104.out) hb); have n1_ := Aside0.mk (Kd.R_below (by (with_reducible repeat (first | apply Kd.R_alloc | apply Kd.R_drewN | apply Kd.R_drew)); exact HO113.out) hb); have n2_ := Aside0.mk (below_step (by repeat (first | (with_reducible first | exact HB.out | apply below_alloc | apply pw_below_drewN | apply below_drew1) | exact HB.out)) hb); clear HO104; clear HO113; clear HB; have HO104 := n0_; have HO113 := n1_; have HB := n2_; clear n0_ n1_ n2_; (try clear hb); (try clear hb2); (try clear hk); (try clear hi); clear tk10_))
              go_ret
              exact ⟨by first | rfl | (simp [errW_none, errW_some] <;> rfl) | (simp [*, errW_none, errW_some] <;> rfl) | (simp [ne_nil_bool]; done) | (simp [*, ne_nil_bool]; done), by repeat (first | (with_reducible first | exact HB.out | apply below_alloc | apply pw_below_drewN | apply below_drew1) | exact HB.out)⟩
          · rw [if_neg c11] at H
            have c11b0 : (t109 == 0) = false := beq_eq_false_iff_ne.mpr c11
            have c11b1 : (t109 != 0) = true := bne_iff_ne.mpr c11
            obtain rfl := Option.some.inj H
            go_enter Tryd.func33, Tryd.ntmps33
            have tk11_ : True := trivial
            have tk12_ : True := trivial
            go_wp2_with (first | (have _t := tk11_; (with_reducible refine gate_callee (f := 71) rfl ?_); refine goesL_ (some 10) rfl rfl Tryd.func71 (by kernel_rfl) rfl #[.int .u8 49] rfl (by (try simp only [List.map_toArray, List.map_cons, List.map_nil]); first | done | rfl | (simp only [List.length_drop, List.length_take]; rfl)) ?_; (with_reducible refine (graftagelaw37_id.calls k 49 t101 _ A1.out).mono ?_); rintro e w60 ⟨rfl, hb⟩; refine ⟨_, rfl, ?_⟩; have n0_ := Aside0.mk (below_step (by repeat (first | (with_reducible first | exact HB.out | apply below_alloc | apply pw_below_drewN | apply below_drew1) | exact HB.out)) hb); clear HB; have HB := n0_; clear n0_; (try clear hb); (try clear hb2); (try clear hk); (try clear hi); clear tk11_) | ((with_reducible refine gate_dst (N := 12) rfl ?_); refine Kd.R_lit k55 _ 55 ?hg (N := 12) ?hd (xs := ([(⟨(⟨#[72, 69, 65, 68]⟩ : ByteArray), (⟨#[]⟩ : ByteArray), (⟨#[114, 101, 102, 115, 47, 104, 101, 97, 100, 115, 47, 109, 97, 105, 110]⟩ : ByteArray)⟩ : S55), (⟨(⟨#[114, 101, 102, 115, 47, 104, 101, 97, 100, 115, 47, 109, 97, 105, 110]⟩ : ByteArray), t101, (⟨#[]⟩ : ByteArray)⟩ : S55)] : List (S55))) (inner := [.string (⟨#[72, 69, 65, 68]⟩ : ByteArray), .string (⟨#[]⟩ : ByteArray), .string (⟨#[114, 101, 102, 115, 47, 104, 101, 97, 100, 115, 47, 109, 97, 105, 110]⟩ : ByteArray), .string (⟨#[114, 101, 102, 115, 47, 104, 101, 97, 100, 115, 47, 109, 97, 105, 110]⟩ : ByteArray), .string t101, .string (⟨#[]⟩ : ByteArray)]) (ok := fun _ => True) (okp := fun _ => True) ?hr ?hp (fun _ hk => hk) trivial (Below.refl _ _) (Nat.le_refl _) (by simp) ?_; (case hd => rfl); (case hg => rfl); (case hr => first | (go_simp; done) | (go_simp; rfl)); (case hp => exact (Reps.c3 (show Kd.M k55 _ _ _ (⟨(⟨#[72, 69, 65, 68]⟩ : ByteArray), (⟨#[]⟩ : ByteArray), (⟨#[114, 101, 102, 115, 47, 104, 101, 97, 100, 115, 47, 109, 97, 105, 110]⟩ : ByteArray)⟩ : S55) [.string (⟨#[72, 69, 65, 68]⟩ : ByteArray), .string (⟨#[]⟩ : ByteArray), .string (⟨#[114, 101, 102, 115, 47, 104, 101, 97, 100, 115, 47, 109, 97, 105, 110]⟩ : ByteArray)] from (k55_mkM _ _ _ (⟨(⟨#[72, 69, 65, 68]⟩ : ByteArray), (⟨#[]⟩ : ByteArray), (⟨#[114, 101, 102, 115, 47, 104, 101, 97, 100, 115, 47, 109, 97, 105, 110]⟩ : ByteArray)⟩ : S55) )) (Reps.c3 (show Kd.M k55 _ _ _ (⟨(⟨#[114, 101, 102, 115, 47, 104, 101, 97, 100, 115, 47, 109, 97, 105, 110]⟩ : ByteArray), t101, (⟨#[]⟩ : ByteArray)⟩ : S55) [.string (⟨#[114, 101, 102, 115, 47, 104, 101, 97, 100, 115, 47, 109, 97, 105, 110]⟩ : ByteArray), .string t101, .string (⟨#[]⟩ : ByteArray)] from (k55_mkM _ _ _ (⟨(⟨#[114, 101, 102, 115, 47, 104, 101, 97, 100, 115, 47, 109, 97, 105, 110]⟩ : ByteArray), t101, (⟨#[]⟩ : ByteArray)⟩ : S55) )) (Reps.none _ _)))); intro v103 w61 ho62 hb hg_ hnew_; clear hg_ hnew_; (first | rw [← Ny102.out] at ho62 | (simp only [Int.reduceToNat] at ho62; rw [← Ny102.out] at ho62)); have n0_ := Aside0.mk (Kd.R_lower ho62 (below_size (by repeat (first | (with_reducible first | exact HB.out | apply below_alloc | apply pw_below_drewN | apply below_drew1) | exact HB.out)))); have n1_ := Aside0.mk (below_step (by repeat (first | (with_reducible first | exact HB.out | apply below_alloc | apply pw_below_drewN | apply below_drew1) | exact HB.out)) hb); clear HB; have HO104 := n0_; have HB := n1_; clear n0_ n1_; clear hb ho62; obtain ⟨Ao63, co63, eo63⟩ := Kd.R_slice HO104.out; subst eo63) | ((with_reducible refine gate_callee (f := 43) rfl ?_); refine goesL_ (some 15) rfl rfl Tryd.func43 (by kernel_rfl) rfl #[.slice Ao63 y102.length co63, .string (⟨#[72, 69, 65, 68]⟩ : ByteArray)] rfl (by (try simp only [List.map_toArray, List.map_cons, List.map_nil]); first | done | rfl | (simp only [List.length_drop, List.length_take]; rfl)) ?_; (with_reducible refine (refs_Resolve.calls k _ _ y102 (⟨#[72, 69, 65, 68]⟩ : ByteArray) t105 t106 t107 _ ?side1 ?side2 ?side3 A2.out).mono ?_); (case side1 => repeat (first | exact (Kd.R_reads' HO104.out).2.2 | (with_reducible refine Kd.C_alloc ?_ _) | (with_reducible refine Kd.C_drewN ?_ _) | (with_reducible refine Kd.C_drew ?_))); (case side2 => exact (Kd.R_reads' HO104.out).2.1); (case side3 => exact GV.below hgv (by repeat (first | (with_reducible first | exact HB.out | apply below_alloc | apply pw_below_drewN | apply below_drew1) | exact HB.out))); rintro e w64 ⟨rfl, hb⟩; refine ⟨_, rfl, ?_⟩; have n0_ := Aside0.mk (Kd.R_below (by (with_reducible repeat (first | apply Kd.R_alloc | apply Kd.R_drewN | apply Kd.R_drew)); exact HO104.out) hb); have n1_ := Aside0.mk (below_step (by repeat (first | (with_reducible first | exact HB.out | apply below_alloc | apply pw_below_drewN | apply below_drew1) | exact HB.out)) hb); clear HO104; clear HB; have HO104 := n0_; have HB := n1_; clear n0_ n1_; (try clear hb); (try clear hb2); (try clear hk); (try clear hi)) | ((with_reducible refine gate_callee (f := 38) rfl ?_); refine goesL_ (some 21) rfl rfl Tryd.func38 (by kernel_rfl) rfl #[.slice Ao63 y102.length co63] rfl (by (try simp only [List.map_toArray, List.map_cons, List.map_nil]); first | done | rfl | (simp only [List.length_drop, List.length_take]; rfl)) ?_; (with_reducible refine (refs_Text.calls k _ _ y102 t108 t109 _ ?side1 ?side2 ?side3 A3.out).mono ?_); (case side1 => repeat (first | exact (Kd.R_reads' HO104.out).2.2 | (with_reducible refine Kd.C_alloc ?_ _) | (with_reducible refine Kd.C_drewN ?_ _) | (with_reducible refine Kd.C_drew ?_))); (case side2 => exact (Kd.R_reads' HO104.out).2.1); (case side3 => exact GV.below hgv (by repeat (first | (with_reducible first | exact HB.out | apply below_alloc | apply pw_below_drewN | apply below_drew1) | exact HB.out))); rintro e w65 ⟨rfl, hb⟩; refine ⟨_, rfl, ?_⟩; have n0_ := Aside0.mk (Kd.R_below (by (with_reducible repeat (first | apply Kd.R_alloc | apply Kd.R_drewN | apply Kd.R_drew)); exact HO104.out) hb); have n1_ := Aside0.mk (below_step (by repeat (first | (with_reducible first | exact HB.out | apply below_alloc | apply pw_below_drewN | apply below_drew1) | exact HB.out)) hb); clear HO104; clear HB; have HO104 := n0_; have HB := n1_; clear n0_ n1_; (try clear hb); (try clear hb2); (try clear hk); (try clear hi)) | ((with_reducible refine gate_callee (f := 40) rfl ?_); refine goesL_ (some 26) rfl rfl Tryd.func40 (by kernel_rfl) rfl #[.string t108] rfl (by (try simp only [List.map_toArray, List.map_cons, List.map_nil]); first | done | rfl | (simp only [List.length_drop, List.length_take]; rfl)) ?_; (with_reducible refine (refs_Parse.calls k t108 t110 t111 _ ?side1 A4.out).mono ?_); (case side1 => exact GV.below hgv (by repeat (first | (with_reducible first | exact HB.out | apply below_alloc | apply pw_below_drewN | apply below_drew1) | exact HB.out))); rintro e w66 ⟨v112, rfl, ho0, hb⟩; refine ⟨_, rfl, ?_⟩; have n0_ := Aside0.mk (Kd.R_elder' (by (with_reducible repeat (first | apply Kd.R_alloc | apply Kd.R_drewN | apply Kd.R_drew)); exact HO104.out) (Kd.R_base ho0) hb); have n1_ := Aside0.mk (Kd.R_lower (Kd.R_new' ho0 (Kd.R_lt (by (with_reducible repeat (first | apply Kd.R_alloc | apply Kd.R_drewN | apply Kd.R_drew)); exact HO104.out))) (below_size (by repeat (first | (with_reducible first | exact HB.out | apply below_alloc | apply pw_below_drewN | apply below_drew1) | exact HB.out)))); have n2_ := Aside0.mk (below_step (by repeat (first | (with_reducible first | exact HB.out | apply below_alloc | apply pw_below_drewN | apply below_drew1) | exact HB.out)) hb); clear HO104; clear HB; have HO104 := n0_; have HO113 := n1_; have HB := n2_; clear n0_ n1_ n2_; (try clear hb); (try clear hb2); (try clear hk); (try clear hi); (try clear ho0)) | ((with_reducible refine gate_callee (f := 36) rfl ?_); refine goesL_ (some 30) rfl rfl Tryd.func36 (by kernel_rfl) rfl #[.slice Ao63 y102.length co63] rfl (by (try simp only [List.map_toArray, List.map_cons, List.map_nil]); first | done | rfl | (simp only [List.length_drop, List.length_take]; rfl)) ?_; (with_reducible refine (refs_Check.calls k _ _ y102 t114 _ ?side1 ?side2 ?side3 A5.out).mono ?_); (case side1 => repeat (first | exact (Kd.R_reads' HO104.out).2.2 | (with_reducible refine Kd.C_alloc ?_ _) | (with_reducible refine Kd.C_drewN ?_ _) | (with_reducible refine Kd.C_drew ?_))); (case side2 => exact (Kd.R_reads' HO104.out).2.1); (case side3 => exact GV.below hgv (by repeat (first | (with_reducible first | exact HB.out | apply below_alloc | apply pw_below_drewN | apply below_drew1) | exact HB.out))); rintro e w67 ⟨rfl, hb⟩; refine ⟨_, rfl, ?_⟩; have n0_ := Aside0.mk (Kd.R_below (by (with_reducible repeat (first | apply Kd.R_alloc | apply Kd.R_drewN | apply Kd.R_drew)); exact HO104.out) hb); have n1_ := Aside0.mk (Kd.R_below (by (with_reducible repeat (first | apply Kd.R_alloc | apply Kd.R_drewN | apply Kd.R_drew)); exact HO113.out) hb); have n2_ := Aside0.mk (below_step (by repeat (first | (with_reducible first | exact HB.out | apply below_alloc | apply pw_below_drewN | apply below_drew1) | exact HB.out)) hb); clear HO104; clear HO113; clear HB; have HO104 := n0_; have HO113 := n1_; have HB := n2_; clear n0_ n1_ n2_; (try clear hb); (try clear hb2); (try clear hk); (try clear hi)) | (go_at_call 71; have _t := tk12_; (with_reducible refine (graftagelaw37_id.calls k 49 t115 _ A8.out).mono ?_); rintro e w68 ⟨rfl, hb⟩; have n0_ := Aside0.mk (Kd.R_below (by (with_reducible repeat (first | apply Kd.R_alloc | apply Kd.R_drewN | apply Kd.R_drew)); exact HO104.out) hb); have n1_ := Aside0.mk (Kd.R_below (by (with_reducible repeat (first | apply Kd.R_alloc | apply Kd.R_drewN | apply Kd.R_drew)); exact HO113.out) hb); have n2_ := Aside0.mk (below_step (by repeat (first | (with_reducible first | exact HB.out | apply below_alloc | apply pw_below_drewN | apply below_drew1) | exact HB.out)) hb); clear HO104; clear HO113; clear HB; have HO104 := n0_; have HO113 := n1_; have HB := n2_; clear n0_ n1_ n2_; (try clear hb); (try clear hb2); (try clear hk); (try clear hi); clear tk12_))
            go_ret
            exact ⟨by first | rfl | (simp [errW_none, errW_some] <;> rfl) | (simp [*, errW_none, errW_some] <;> rfl) | (simp [ne_nil_bool]; done) | (simp [*, ne_nil_bool]; done), by repeat (first | (with_reducible first | exact HB.out | apply below_alloc | apply pw_below_drewN | apply below_drew1) | exact HB.out)⟩
        · rw [if_neg c10] at H
          have c10b0 : (t107 == 0) = false := beq_eq_false_iff_ne.mpr c10
          have c10b1 : (t107 != 0) = true := bne_iff_ne.mpr c10
          obtain rfl := Option.some.inj H
          go_enter Tryd.func33, Tryd.ntmps33
          have tk13_ : True := trivial
          have tk14_ : True := trivial
          go_wp2_with (first | (have _t := tk13_; (with_reducible refine gate_callee (f := 71) rfl ?_); refine goesL_ (some 10) rfl rfl Tryd.func71 (by kernel_rfl) rfl #[.int .u8 49] rfl (by (try simp only [List.map_toArray, List.map_cons, List.map_nil]); first | done | rfl | (simp only [List.length_drop, List.length_take]; rfl)) ?_; (with_reducible refine (graftagelaw37_id.calls k 49 t101 _ A1.out).mono ?_); rintro e w69 ⟨rfl, hb⟩; refine ⟨_, rfl, ?_⟩; have n0_ := Aside0.mk (below_step (by repeat (first | (with_reducible first | exact HB.out | apply below_alloc | apply pw_below_drewN | apply below_drew1) | exact HB.out)) hb); clear HB; have HB := n0_; clear n0_; (try clear hb); (try clear hb2); (try clear hk); (try clear hi); clear tk13_) | ((with_reducible refine gate_dst (N := 12) rfl ?_); refine Kd.R_lit k55 _ 55 ?hg (N := 12) ?hd (xs := ([(⟨(⟨#[72, 69, 65, 68]⟩ : ByteArray), (⟨#[]⟩ : ByteArray), (⟨#[114, 101, 102, 115, 47, 104, 101, 97, 100, 115, 47, 109, 97, 105, 110]⟩ : ByteArray)⟩ : S55), (⟨(⟨#[114, 101, 102, 115, 47, 104, 101, 97, 100, 115, 47, 109, 97, 105, 110]⟩ : ByteArray), t101, (⟨#[]⟩ : ByteArray)⟩ : S55)] : List (S55))) (inner := [.string (⟨#[72, 69, 65, 68]⟩ : ByteArray), .string (⟨#[]⟩ : ByteArray), .string (⟨#[114, 101, 102, 115, 47, 104, 101, 97, 100, 115, 47, 109, 97, 105, 110]⟩ : ByteArray), .string (⟨#[114, 101, 102, 115, 47, 104, 101, 97, 100, 115, 47, 109, 97, 105, 110]⟩ : ByteArray), .string t101, .string (⟨#[]⟩ : ByteArray)]) (ok := fun _ => True) (okp := fun _ => True) ?hr ?hp (fun _ hk => hk) trivial (Below.refl _ _) (Nat.le_refl _) (by simp) ?_; (case hd => rfl); (case hg => rfl); (case hr => first | (go_simp; done) | (go_simp; rfl)); (case hp => exact (Reps.c3 (show Kd.M k55 _ _ _ (⟨(⟨#[72, 69, 65, 68]⟩ : ByteArray), (⟨#[]⟩ : ByteArray), (⟨#[114, 101, 102, 115, 47, 104, 101, 97, 100, 115, 47, 109, 97, 105, 110]⟩ : ByteArray)⟩ : S55) [.string (⟨#[72, 69, 65, 68]⟩ : ByteArray), .string (⟨#[]⟩ : ByteArray), .string (⟨#[114, 101, 102, 115, 47, 104, 101, 97, 100, 115, 47, 109, 97, 105, 110]⟩ : ByteArray)] from (k55_mkM _ _ _ (⟨(⟨#[72, 69, 65, 68]⟩ : ByteArray), (⟨#[]⟩ : ByteArray), (⟨#[114, 101, 102, 115, 47, 104, 101, 97, 100, 115, 47, 109, 97, 105, 110]⟩ : ByteArray)⟩ : S55) )) (Reps.c3 (show Kd.M k55 _ _ _ (⟨(⟨#[114, 101, 102, 115, 47, 104, 101, 97, 100, 115, 47, 109, 97, 105, 110]⟩ : ByteArray), t101, (⟨#[]⟩ : ByteArray)⟩ : S55) [.string (⟨#[114, 101, 102, 115, 47, 104, 101, 97, 100, 115, 47, 109, 97, 105, 110]⟩ : ByteArray), .string t101, .string (⟨#[]⟩ : ByteArray)] from (k55_mkM _ _ _ (⟨(⟨#[114, 101, 102, 115, 47, 104, 101, 97, 100, 115, 47, 109, 97, 105, 110]⟩ : ByteArray), t101, (⟨#[]⟩ : ByteArray)⟩ : S55) )) (Reps.none _ _)))); intro v103 w70 ho71 hb hg_ hnew_; clear hg_ hnew_; (first | rw [← Ny102.out] at ho71 | (simp only [Int.reduceToNat] at ho71; rw [← Ny102.out] at ho71)); have n0_ := Aside0.mk (Kd.R_lower ho71 (below_size (by repeat (first | (with_reducible first | exact HB.out | apply below_alloc | apply pw_below_drewN | apply below_drew1) | exact HB.out)))); have n1_ := Aside0.mk (below_step (by repeat (first | (with_reducible first | exact HB.out | apply below_alloc | apply pw_below_drewN | apply below_drew1) | exact HB.out)) hb); clear HB; have HO104 := n0_; have HB := n1_; clear n0_ n1_; clear hb ho71; obtain ⟨Ao72, co72, eo72⟩ := Kd.R_slice HO104.out; subst eo72) | ((with_reducible refine gate_callee (f := 43) rfl ?_); refine goesL_ (some 15) rfl rfl Tryd.func43 (by kernel_rfl) rfl #[.slice Ao72 y102.length co72, .string (⟨#[72, 69, 65, 68]⟩ : ByteArray)] rfl (by (try simp only [List.map_toArray, List.map_cons, List.map_nil]); first | done | rfl | (simp only [List.length_drop, List.length_take]; rfl)) ?_; (with_reducible refine (refs_Resolve.calls k _ _ y102 (⟨#[72, 69, 65, 68]⟩ : ByteArray) t105 t106 t107 _ ?side1 ?side2 ?side3 A2.out).mono ?_); (case side1 => repeat (first | exact (Kd.R_reads' HO104.out).2.2 | (with_reducible refine Kd.C_alloc ?_ _) | (with_reducible refine Kd.C_drewN ?_ _) | (with_reducible refine Kd.C_drew ?_))); (case side2 => exact (Kd.R_reads' HO104.out).2.1); (case side3 => exact GV.below hgv (by repeat (first | (with_reducible first | exact HB.out | apply below_alloc | apply pw_below_drewN | apply below_drew1) | exact HB.out))); rintro e w73 ⟨rfl, hb⟩; refine ⟨_, rfl, ?_⟩; have n0_ := Aside0.mk (Kd.R_below (by (with_reducible repeat (first | apply Kd.R_alloc | apply Kd.R_drewN | apply Kd.R_drew)); exact HO104.out) hb); have n1_ := Aside0.mk (below_step (by repeat (first | (with_reducible first | exact HB.out | apply below_alloc | apply pw_below_drewN | apply below_drew1) | exact HB.out)) hb); clear HO104; clear HB; have HO104 := n0_; have HB := n1_; clear n0_ n1_; (try clear hb); (try clear hb2); (try clear hk); (try clear hi)) | ((with_reducible refine gate_callee (f := 38) rfl ?_); refine goesL_ (some 21) rfl rfl Tryd.func38 (by kernel_rfl) rfl #[.slice Ao72 y102.length co72] rfl (by (try simp only [List.map_toArray, List.map_cons, List.map_nil]); first | done | rfl | (simp only [List.length_drop, List.length_take]; rfl)) ?_; (with_reducible refine (refs_Text.calls k _ _ y102 t108 t109 _ ?side1 ?side2 ?side3 A3.out).mono ?_); (case side1 => repeat (first | exact (Kd.R_reads' HO104.out).2.2 | (with_reducible refine Kd.C_alloc ?_ _) | (with_reducible refine Kd.C_drewN ?_ _) | (with_reducible refine Kd.C_drew ?_))); (case side2 => exact (Kd.R_reads' HO104.out).2.1); (case side3 => exact GV.below hgv (by repeat (first | (with_reducible first | exact HB.out | apply below_alloc | apply pw_below_drewN | apply below_drew1) | exact HB.out))); rintro e w74 ⟨rfl, hb⟩; refine ⟨_, rfl, ?_⟩; have n0_ := Aside0.mk (Kd.R_below (by (with_reducible repeat (first | apply Kd.R_alloc | apply Kd.R_drewN | apply Kd.R_drew)); exact HO104.out) hb); have n1_ := Aside0.mk (below_step (by repeat (first | (with_reducible first | exact HB.out | apply below_alloc | apply pw_below_drewN | apply below_drew1) | exact HB.out)) hb); clear HO104; clear HB; have HO104 := n0_; have HB := n1_; clear n0_ n1_; (try clear hb); (try clear hb2); (try clear hk); (try clear hi)) | ((with_reducible refine gate_callee (f := 40) rfl ?_); refine goesL_ (some 26) rfl rfl Tryd.func40 (by kernel_rfl) rfl #[.string t108] rfl (by (try simp only [List.map_toArray, List.map_cons, List.map_nil]); first | done | rfl | (simp only [List.length_drop, List.length_take]; rfl)) ?_; (with_reducible refine (refs_Parse.calls k t108 t110 t111 _ ?side1 A4.out).mono ?_); (case side1 => exact GV.below hgv (by repeat (first | (with_reducible first | exact HB.out | apply below_alloc | apply pw_below_drewN | apply below_drew1) | exact HB.out))); rintro e w75 ⟨v112, rfl, ho0, hb⟩; refine ⟨_, rfl, ?_⟩; have n0_ := Aside0.mk (Kd.R_elder' (by (with_reducible repeat (first | apply Kd.R_alloc | apply Kd.R_drewN | apply Kd.R_drew)); exact HO104.out) (Kd.R_base ho0) hb); have n1_ := Aside0.mk (Kd.R_lower (Kd.R_new' ho0 (Kd.R_lt (by (with_reducible repeat (first | apply Kd.R_alloc | apply Kd.R_drewN | apply Kd.R_drew)); exact HO104.out))) (below_size (by repeat (first | (with_reducible first | exact HB.out | apply below_alloc | apply pw_below_drewN | apply below_drew1) | exact HB.out)))); have n2_ := Aside0.mk (below_step (by repeat (first | (with_reducible first | exact HB.out | apply below_alloc | apply pw_below_drewN | apply below_drew1) | exact HB.out)) hb); clear HO104; clear HB; have HO104 := n0_; have HO113 := n1_; have HB := n2_; clear n0_ n1_ n2_; (try clear hb); (try clear hb2); (try clear hk); (try clear hi); (try clear ho0)) | ((with_reducible refine gate_callee (f := 36) rfl ?_); refine goesL_ (some 30) rfl rfl Tryd.func36 (by kernel_rfl) rfl #[.slice Ao72 y102.length co72] rfl (by (try simp only [List.map_toArray, List.map_cons, List.map_nil]); first | done | rfl | (simp only [List.length_drop, List.length_take]; rfl)) ?_; (with_reducible refine (refs_Check.calls k _ _ y102 t114 _ ?side1 ?side2 ?side3 A5.out).mono ?_); (case side1 => repeat (first | exact (Kd.R_reads' HO104.out).2.2 | (with_reducible refine Kd.C_alloc ?_ _) | (with_reducible refine Kd.C_drewN ?_ _) | (with_reducible refine Kd.C_drew ?_))); (case side2 => exact (Kd.R_reads' HO104.out).2.1); (case side3 => exact GV.below hgv (by repeat (first | (with_reducible first | exact HB.out | apply below_alloc | apply pw_below_drewN | apply below_drew1) | exact HB.out))); rintro e w76 ⟨rfl, hb⟩; refine ⟨_, rfl, ?_⟩; have n0_ := Aside0.mk (Kd.R_below (by (with_reducible repeat (first | apply Kd.R_alloc | apply Kd.R_drewN | apply Kd.R_drew)); exact HO104.out) hb); have n1_ := Aside0.mk (Kd.R_below (by (with_reducible repeat (first | apply Kd.R_alloc | apply Kd.R_drewN | apply Kd.R_drew)); exact HO113.out) hb); have n2_ := Aside0.mk (below_step (by repeat (first | (with_reducible first | exact HB.out | apply below_alloc | apply pw_below_drewN | apply below_drew1) | exact HB.out)) hb); clear HO104; clear HO113; clear HB; have HO104 := n0_; have HO113 := n1_; have HB := n2_; clear n0_ n1_ n2_; (try clear hb); (try clear hb2); (try clear hk); (try clear hi)) | (go_at_call 71; have _t := tk14_; (with_reducible refine (graftagelaw37_id.calls k 49 t115 _ A8.out).mono ?_); rintro e w77 ⟨rfl, hb⟩; have n0_ := Aside0.mk (Kd.R_below (by (with_reducible repeat (first | apply Kd.R_alloc | apply Kd.R_drewN | apply Kd.R_drew)); exact HO104.out) hb); have n1_ := Aside0.mk (Kd.R_below (by (with_reducible repeat (first | apply Kd.R_alloc | apply Kd.R_drewN | apply Kd.R_drew)); exact HO113.out) hb); have n2_ := Aside0.mk (below_step (by repeat (first | (with_reducible first | exact HB.out | apply below_alloc | apply pw_below_drewN | apply below_drew1) | exact HB.out)) hb); clear HO104; clear HO113; clear HB; have HO104 := n0_; have HO113 := n1_; have HB := n2_; clear n0_ n1_ n2_; (try clear hb); (try clear hb2); (try clear hk); (try clear hi); clear tk14_))
          go_ret
          exact ⟨by first | rfl | (simp [errW_none, errW_some] <;> rfl) | (simp [*, errW_none, errW_some] <;> rfl) | (simp [ne_nil_bool]; done) | (simp [*, ne_nil_bool]; done), by repeat (first | (with_reducible first | exact HB.out | apply below_alloc | apply pw_below_drewN | apply below_drew1) | exact HB.out)⟩
      · rw [if_neg c9] at H
        have c9b0 : (t106.toList == t115.toList) = false := beq_eq_false_iff_ne.mpr c9
        have c9b1 : (t106.toList != t115.toList) = true := bne_iff_ne.mpr c9
        obtain rfl := Option.some.inj H
        go_enter Tryd.func33, Tryd.ntmps33
        have tk15_ : True := trivial
        have tk16_ : True := trivial
        go_wp2_with (first | (have _t := tk15_; (with_reducible refine gate_callee (f := 71) rfl ?_); refine goesL_ (some 10) rfl rfl Tryd.func71 (by kernel_rfl) rfl #[.int .u8 49] rfl (by (try simp only [List.map_toArray, List.map_cons, List.map_nil]); first | done | rfl | (simp only [List.length_drop, List.length_take]; rfl)) ?_; (with_reducible refine (graftagelaw37_id.calls k 49 t101 _ A1.out).mono ?_); rintro e w78 ⟨rfl, hb⟩; refine ⟨_, rfl, ?_⟩; have n0_ := Aside0.mk (below_step (by repeat (first | (with_reducible first | exact HB.out | apply below_alloc | apply pw_below_drewN | apply below_drew1) | exact HB.out)) hb); clear HB; have HB := n0_; clear n0_; (try clear hb); (try clear hb2); (try clear hk); (try clear hi); clear tk15_) | ((with_reducible refine gate_dst (N := 12) rfl ?_); refine Kd.R_lit k55 _ 55 ?hg (N := 12) ?hd (xs := ([(⟨(⟨#[72, 69, 65, 68]⟩ : ByteArray), (⟨#[]⟩ : ByteArray), (⟨#[114, 101, 102, 115, 47, 104, 101, 97, 100, 115, 47, 109, 97, 105, 110]⟩ : ByteArray)⟩ : S55), (⟨(⟨#[114, 101, 102, 115, 47, 104, 101, 97, 100, 115, 47, 109, 97, 105, 110]⟩ : ByteArray), t101, (⟨#[]⟩ : ByteArray)⟩ : S55)] : List (S55))) (inner := [.string (⟨#[72, 69, 65, 68]⟩ : ByteArray), .string (⟨#[]⟩ : ByteArray), .string (⟨#[114, 101, 102, 115, 47, 104, 101, 97, 100, 115, 47, 109, 97, 105, 110]⟩ : ByteArray), .string (⟨#[114, 101, 102, 115, 47, 104, 101, 97, 100, 115, 47, 109, 97, 105, 110]⟩ : ByteArray), .string t101, .string (⟨#[]⟩ : ByteArray)]) (ok := fun _ => True) (okp := fun _ => True) ?hr ?hp (fun _ hk => hk) trivial (Below.refl _ _) (Nat.le_refl _) (by simp) ?_; (case hd => rfl); (case hg => rfl); (case hr => first | (go_simp; done) | (go_simp; rfl)); (case hp => exact (Reps.c3 (show Kd.M k55 _ _ _ (⟨(⟨#[72, 69, 65, 68]⟩ : ByteArray), (⟨#[]⟩ : ByteArray), (⟨#[114, 101, 102, 115, 47, 104, 101, 97, 100, 115, 47, 109, 97, 105, 110]⟩ : ByteArray)⟩ : S55) [.string (⟨#[72, 69, 65, 68]⟩ : ByteArray), .string (⟨#[]⟩ : ByteArray), .string (⟨#[114, 101, 102, 115, 47, 104, 101, 97, 100, 115, 47, 109, 97, 105, 110]⟩ : ByteArray)] from (k55_mkM _ _ _ (⟨(⟨#[72, 69, 65, 68]⟩ : ByteArray), (⟨#[]⟩ : ByteArray), (⟨#[114, 101, 102, 115, 47, 104, 101, 97, 100, 115, 47, 109, 97, 105, 110]⟩ : ByteArray)⟩ : S55) )) (Reps.c3 (show Kd.M k55 _ _ _ (⟨(⟨#[114, 101, 102, 115, 47, 104, 101, 97, 100, 115, 47, 109, 97, 105, 110]⟩ : ByteArray), t101, (⟨#[]⟩ : ByteArray)⟩ : S55) [.string (⟨#[114, 101, 102, 115, 47, 104, 101, 97, 100, 115, 47, 109, 97, 105, 110]⟩ : ByteArray), .string t101, .string (⟨#[]⟩ : ByteArray)] from (k55_mkM _ _ _ (⟨(⟨#[114, 101, 102, 115, 47, 104, 101, 97, 100, 115, 47, 109, 97, 105, 110]⟩ : ByteArray), t101, (⟨#[]⟩ : ByteArray)⟩ : S55) )) (Reps.none _ _)))); intro v103 w79 ho80 hb hg_ hnew_; clear hg_ hnew_; (first | rw [← Ny102.out] at ho80 | (simp only [Int.reduceToNat] at ho80; rw [← Ny102.out] at ho80)); have n0_ := Aside0.mk (Kd.R_lower ho80 (below_size (by repeat (first | (with_reducible first | exact HB.out | apply below_alloc | apply pw_below_drewN | apply below_drew1) | exact HB.out)))); have n1_ := Aside0.mk (below_step (by repeat (first | (with_reducible first | exact HB.out | apply below_alloc | apply pw_below_drewN | apply below_drew1) | exact HB.out)) hb); clear HB; have HO104 := n0_; have HB := n1_; clear n0_ n1_; clear hb ho80; obtain ⟨Ao81, co81, eo81⟩ := Kd.R_slice HO104.out; subst eo81) | ((with_reducible refine gate_callee (f := 43) rfl ?_); refine goesL_ (some 15) rfl rfl Tryd.func43 (by kernel_rfl) rfl #[.slice Ao81 y102.length co81, .string (⟨#[72, 69, 65, 68]⟩ : ByteArray)] rfl (by (try simp only [List.map_toArray, List.map_cons, List.map_nil]); first | done | rfl | (simp only [List.length_drop, List.length_take]; rfl)) ?_; (with_reducible refine (refs_Resolve.calls k _ _ y102 (⟨#[72, 69, 65, 68]⟩ : ByteArray) t105 t106 t107 _ ?side1 ?side2 ?side3 A2.out).mono ?_); (case side1 => repeat (first | exact (Kd.R_reads' HO104.out).2.2 | (with_reducible refine Kd.C_alloc ?_ _) | (with_reducible refine Kd.C_drewN ?_ _) | (with_reducible refine Kd.C_drew ?_))); (case side2 => exact (Kd.R_reads' HO104.out).2.1); (case side3 => exact GV.below hgv (by repeat (first | (with_reducible first | exact HB.out | apply below_alloc | apply pw_below_drewN | apply below_drew1) | exact HB.out))); rintro e w82 ⟨rfl, hb⟩; refine ⟨_, rfl, ?_⟩; have n0_ := Aside0.mk (Kd.R_below (by (with_reducible repeat (first | apply Kd.R_alloc | apply Kd.R_drewN | apply Kd.R_drew)); exact HO104.out) hb); have n1_ := Aside0.mk (below_step (by repeat (first | (with_reducible first | exact HB.out | apply below_alloc | apply pw_below_drewN | apply below_drew1) | exact HB.out)) hb); clear HO104; clear HB; have HO104 := n0_; have HB := n1_; clear n0_ n1_; (try clear hb); (try clear hb2); (try clear hk); (try clear hi)) | ((with_reducible refine gate_callee (f := 38) rfl ?_); refine goesL_ (some 21) rfl rfl Tryd.func38 (by kernel_rfl) rfl #[.slice Ao81 y102.length co81] rfl (by (try simp only [List.map_toArray, List.map_cons, List.map_nil]); first | done | rfl | (simp only [List.length_drop, List.length_take]; rfl)) ?_; (with_reducible refine (refs_Text.calls k _ _ y102 t108 t109 _ ?side1 ?side2 ?side3 A3.out).mono ?_); (case side1 => repeat (first | exact (Kd.R_reads' HO104.out).2.2 | (with_reducible refine Kd.C_alloc ?_ _) | (with_reducible refine Kd.C_drewN ?_ _) | (with_reducible refine Kd.C_drew ?_))); (case side2 => exact (Kd.R_reads' HO104.out).2.1); (case side3 => exact GV.below hgv (by repeat (first | (with_reducible first | exact HB.out | apply below_alloc | apply pw_below_drewN | apply below_drew1) | exact HB.out))); rintro e w83 ⟨rfl, hb⟩; refine ⟨_, rfl, ?_⟩; have n0_ := Aside0.mk (Kd.R_below (by (with_reducible repeat (first | apply Kd.R_alloc | apply Kd.R_drewN | apply Kd.R_drew)); exact HO104.out) hb); have n1_ := Aside0.mk (below_step (by repeat (first | (with_reducible first | exact HB.out | apply below_alloc | apply pw_below_drewN | apply below_drew1) | exact HB.out)) hb); clear HO104; clear HB; have HO104 := n0_; have HB := n1_; clear n0_ n1_; (try clear hb); (try clear hb2); (try clear hk); (try clear hi)) | ((with_reducible refine gate_callee (f := 40) rfl ?_); refine goesL_ (some 26) rfl rfl Tryd.func40 (by kernel_rfl) rfl #[.string t108] rfl (by (try simp only [List.map_toArray, List.map_cons, List.map_nil]); first | done | rfl | (simp only [List.length_drop, List.length_take]; rfl)) ?_; (with_reducible refine (refs_Parse.calls k t108 t110 t111 _ ?side1 A4.out).mono ?_); (case side1 => exact GV.below hgv (by repeat (first | (with_reducible first | exact HB.out | apply below_alloc | apply pw_below_drewN | apply below_drew1) | exact HB.out))); rintro e w84 ⟨v112, rfl, ho0, hb⟩; refine ⟨_, rfl, ?_⟩; have n0_ := Aside0.mk (Kd.R_elder' (by (with_reducible repeat (first | apply Kd.R_alloc | apply Kd.R_drewN | apply Kd.R_drew)); exact HO104.out) (Kd.R_base ho0) hb); have n1_ := Aside0.mk (Kd.R_lower (Kd.R_new' ho0 (Kd.R_lt (by (with_reducible repeat (first | apply Kd.R_alloc | apply Kd.R_drewN | apply Kd.R_drew)); exact HO104.out))) (below_size (by repeat (first | (with_reducible first | exact HB.out | apply below_alloc | apply pw_below_drewN | apply below_drew1) | exact HB.out)))); have n2_ := Aside0.mk (below_step (by repeat (first | (with_reducible first | exact HB.out | apply below_alloc | apply pw_below_drewN | apply below_drew1) | exact HB.out)) hb); clear HO104; clear HB; have HO104 := n0_; have HO113 := n1_; have HB := n2_; clear n0_ n1_ n2_; (try clear hb); (try clear hb2); (try clear hk); (try clear hi); (try clear ho0)) | ((with_reducible refine gate_callee (f := 36) rfl ?_); refine goesL_ (some 30) rfl rfl Tryd.func36 (by kernel_rfl) rfl #[.slice Ao81 y102.length co81] rfl (by (try simp only [List.map_toArray, List.map_cons, List.map_nil]); first | done | rfl | (simp only [List.length_drop, List.length_take]; rfl)) ?_; (with_reducible refine (refs_Check.calls k _ _ y102 t114 _ ?side1 ?side2 ?side3 A5.out).mono ?_); (case side1 => repeat (first | exact (Kd.R_reads' HO104.out).2.2 | (with_reducible refine Kd.C_alloc ?_ _) | (with_reducible refine Kd.C_drewN ?_ _) | (with_reducible refine Kd.C_drew ?_))); (case side2 => exact (Kd.R_reads' HO104.out).2.1); (case side3 => exact GV.below hgv (by repeat (first | (with_reducible first | exact HB.out | apply below_alloc | apply pw_below_drewN | apply below_drew1) | exact HB.out))); rintro e w85 ⟨rfl, hb⟩; refine ⟨_, rfl, ?_⟩; have n0_ := Aside0.mk (Kd.R_below (by (with_reducible repeat (first | apply Kd.R_alloc | apply Kd.R_drewN | apply Kd.R_drew)); exact HO104.out) hb); have n1_ := Aside0.mk (Kd.R_below (by (with_reducible repeat (first | apply Kd.R_alloc | apply Kd.R_drewN | apply Kd.R_drew)); exact HO113.out) hb); have n2_ := Aside0.mk (below_step (by repeat (first | (with_reducible first | exact HB.out | apply below_alloc | apply pw_below_drewN | apply below_drew1) | exact HB.out)) hb); clear HO104; clear HO113; clear HB; have HO104 := n0_; have HO113 := n1_; have HB := n2_; clear n0_ n1_ n2_; (try clear hb); (try clear hb2); (try clear hk); (try clear hi)) | (go_at_call 71; have _t := tk16_; (with_reducible refine (graftagelaw37_id.calls k 49 t115 _ A8.out).mono ?_); rintro e w86 ⟨rfl, hb⟩; have n0_ := Aside0.mk (Kd.R_below (by (with_reducible repeat (first | apply Kd.R_alloc | apply Kd.R_drewN | apply Kd.R_drew)); exact HO104.out) hb); have n1_ := Aside0.mk (Kd.R_below (by (with_reducible repeat (first | apply Kd.R_alloc | apply Kd.R_drewN | apply Kd.R_drew)); exact HO113.out) hb); have n2_ := Aside0.mk (below_step (by repeat (first | (with_reducible first | exact HB.out | apply below_alloc | apply pw_below_drewN | apply below_drew1) | exact HB.out)) hb); clear HO104; clear HO113; clear HB; have HO104 := n0_; have HO113 := n1_; have HB := n2_; clear n0_ n1_ n2_; (try clear hb); (try clear hb2); (try clear hk); (try clear hi); clear tk16_))
        go_ret
        exact ⟨by first | rfl | (simp [errW_none, errW_some] <;> rfl) | (simp [*, errW_none, errW_some] <;> rfl) | (simp [ne_nil_bool]; done) | (simp [*, ne_nil_bool]; done), by repeat (first | (with_reducible first | exact HB.out | apply below_alloc | apply pw_below_drewN | apply below_drew1) | exact HB.out)⟩
    · rw [if_neg c7] at H
      have c7b0 : (t105.toList == ([114, 101, 102, 115, 47, 104, 101, 97, 100, 115, 47, 109, 97, 105, 110] : List UInt8)) = false := beq_eq_false_iff_ne.mpr c7
      have c7b1 : (t105.toList != ([114, 101, 102, 115, 47, 104, 101, 97, 100, 115, 47, 109, 97, 105, 110] : List UInt8)) = true := bne_iff_ne.mpr c7
      obtain rfl := Option.some.inj H
      go_enter Tryd.func33, Tryd.ntmps33
      go_wp2_with (first | ((with_reducible refine gate_callee (f := 71) rfl ?_); refine goesL_ (some 10) rfl rfl Tryd.func71 (by kernel_rfl) rfl #[.int .u8 49] rfl (by (try simp only [List.map_toArray, List.map_cons, List.map_nil]); first | done | rfl | (simp only [List.length_drop, List.length_take]; rfl)) ?_; (with_reducible refine (graftagelaw37_id.calls k 49 t101 _ A1.out).mono ?_); rintro e w87 ⟨rfl, hb⟩; refine ⟨_, rfl, ?_⟩; have n0_ := Aside0.mk (below_step (by repeat (first | (with_reducible first | exact HB.out | apply below_alloc | apply pw_below_drewN | apply below_drew1) | exact HB.out)) hb); clear HB; have HB := n0_; clear n0_; (try clear hb); (try clear hb2); (try clear hk); (try clear hi)) | ((with_reducible refine gate_dst (N := 12) rfl ?_); refine Kd.R_lit k55 _ 55 ?hg (N := 12) ?hd (xs := ([(⟨(⟨#[72, 69, 65, 68]⟩ : ByteArray), (⟨#[]⟩ : ByteArray), (⟨#[114, 101, 102, 115, 47, 104, 101, 97, 100, 115, 47, 109, 97, 105, 110]⟩ : ByteArray)⟩ : S55), (⟨(⟨#[114, 101, 102, 115, 47, 104, 101, 97, 100, 115, 47, 109, 97, 105, 110]⟩ : ByteArray), t101, (⟨#[]⟩ : ByteArray)⟩ : S55)] : List (S55))) (inner := [.string (⟨#[72, 69, 65, 68]⟩ : ByteArray), .string (⟨#[]⟩ : ByteArray), .string (⟨#[114, 101, 102, 115, 47, 104, 101, 97, 100, 115, 47, 109, 97, 105, 110]⟩ : ByteArray), .string (⟨#[114, 101, 102, 115, 47, 104, 101, 97, 100, 115, 47, 109, 97, 105, 110]⟩ : ByteArray), .string t101, .string (⟨#[]⟩ : ByteArray)]) (ok := fun _ => True) (okp := fun _ => True) ?hr ?hp (fun _ hk => hk) trivial (Below.refl _ _) (Nat.le_refl _) (by simp) ?_; (case hd => rfl); (case hg => rfl); (case hr => first | (go_simp; done) | (go_simp; rfl)); (case hp => exact (Reps.c3 (show Kd.M k55 _ _ _ (⟨(⟨#[72, 69, 65, 68]⟩ : ByteArray), (⟨#[]⟩ : ByteArray), (⟨#[114, 101, 102, 115, 47, 104, 101, 97, 100, 115, 47, 109, 97, 105, 110]⟩ : ByteArray)⟩ : S55) [.string (⟨#[72, 69, 65, 68]⟩ : ByteArray), .string (⟨#[]⟩ : ByteArray), .string (⟨#[114, 101, 102, 115, 47, 104, 101, 97, 100, 115, 47, 109, 97, 105, 110]⟩ : ByteArray)] from (k55_mkM _ _ _ (⟨(⟨#[72, 69, 65, 68]⟩ : ByteArray), (⟨#[]⟩ : ByteArray), (⟨#[114, 101, 102, 115, 47, 104, 101, 97, 100, 115, 47, 109, 97, 105, 110]⟩ : ByteArray)⟩ : S55) )) (Reps.c3 (show Kd.M k55 _ _ _ (⟨(⟨#[114, 101, 102, 115, 47, 104, 101, 97, 100, 115, 47, 109, 97, 105, 110]⟩ : ByteArray), t101, (⟨#[]⟩ : ByteArray)⟩ : S55) [.string (⟨#[114, 101, 102, 115, 47, 104, 101, 97, 100, 115, 47, 109, 97, 105, 110]⟩ : ByteArray), .string t101, .string (⟨#[]⟩ : ByteArray)] from (k55_mkM _ _ _ (⟨(⟨#[114, 101, 102, 115, 47, 104, 101, 97, 100, 115, 47, 109, 97, 105, 110]⟩ : ByteArray), t101, (⟨#[]⟩ : ByteArray)⟩ : S55) )) (Reps.none _ _)))); intro v103 w88 ho89 hb hg_ hnew_; clear hg_ hnew_; (first | rw [← Ny102.out] at ho89 | (simp only [Int.reduceToNat] at ho89; rw [← Ny102.out] at ho89)); have n0_ := Aside0.mk (Kd.R_lower ho89 (below_size (by repeat (first | (with_reducible first | exact HB.out | apply below_alloc | apply pw_below_drewN | apply below_drew1) | exact HB.out)))); have n1_ := Aside0.mk (below_step (by repeat (first | (with_reducible first | exact HB.out | apply below_alloc | apply pw_below_drewN | apply below_drew1) | exact HB.out)) hb); clear HB; have HO104 := n0_; have HB := n1_; clear n0_ n1_; clear hb ho89; obtain ⟨Ao90, co90, eo90⟩ := Kd.R_slice HO104.out; subst eo90) | ((with_reducible refine gate_callee (f := 43) rfl ?_); refine goesL_ (some 15) rfl rfl Tryd.func43 (by kernel_rfl) rfl #[.slice Ao90 y102.length co90, .string (⟨#[72, 69, 65, 68]⟩ : ByteArray)] rfl (by (try simp only [List.map_toArray, List.map_cons, List.map_nil]); first | done | rfl | (simp only [List.length_drop, List.length_take]; rfl)) ?_; (with_reducible refine (refs_Resolve.calls k _ _ y102 (⟨#[72, 69, 65, 68]⟩ : ByteArray) t105 t106 t107 _ ?side1 ?side2 ?side3 A2.out).mono ?_); (case side1 => repeat (first | exact (Kd.R_reads' HO104.out).2.2 | (with_reducible refine Kd.C_alloc ?_ _) | (with_reducible refine Kd.C_drewN ?_ _) | (with_reducible refine Kd.C_drew ?_))); (case side2 => exact (Kd.R_reads' HO104.out).2.1); (case side3 => exact GV.below hgv (by repeat (first | (with_reducible first | exact HB.out | apply below_alloc | apply pw_below_drewN | apply below_drew1) | exact HB.out))); rintro e w91 ⟨rfl, hb⟩; refine ⟨_, rfl, ?_⟩; have n0_ := Aside0.mk (Kd.R_below (by (with_reducible repeat (first | apply Kd.R_alloc | apply Kd.R_drewN | apply Kd.R_drew)); exact HO104.out) hb); have n1_ := Aside0.mk (below_step (by repeat (first | (with_reducible first | exact HB.out | apply below_alloc | apply pw_below_drewN | apply below_drew1) | exact HB.out)) hb); clear HO104; clear HB; have HO104 := n0_; have HB := n1_; clear n0_ n1_; (try clear hb); (try clear hb2); (try clear hk); (try clear hi)) | ((with_reducible refine gate_callee (f := 38) rfl ?_); refine goesL_ (some 21) rfl rfl Tryd.func38 (by kernel_rfl) rfl #[.slice Ao90 y102.length co90] rfl (by (try simp only [List.map_toArray, List.map_cons, List.map_nil]); first | done | rfl | (simp only [List.length_drop, List.length_take]; rfl)) ?_; (with_reducible refine (refs_Text.calls k _ _ y102 t108 t109 _ ?side1 ?side2 ?side3 A3.out).mono ?_); (case side1 => repeat (first | exact (Kd.R_reads' HO104.out).2.2 | (with_reducible refine Kd.C_alloc ?_ _) | (with_reducible refine Kd.C_drewN ?_ _) | (with_reducible refine Kd.C_drew ?_))); (case side2 => exact (Kd.R_reads' HO104.out).2.1); (case side3 => exact GV.below hgv (by repeat (first | (with_reducible first | exact HB.out | apply below_alloc | apply pw_below_drewN | apply below_drew1) | exact HB.out))); rintro e w92 ⟨rfl, hb⟩; refine ⟨_, rfl, ?_⟩; have n0_ := Aside0.mk (Kd.R_below (by (with_reducible repeat (first | apply Kd.R_alloc | apply Kd.R_drewN | apply Kd.R_drew)); exact HO104.out) hb); have n1_ := Aside0.mk (below_step (by repeat (first | (with_reducible first | exact HB.out | apply below_alloc | apply pw_below_drewN | apply below_drew1) | exact HB.out)) hb); clear HO104; clear HB; have HO104 := n0_; have HB := n1_; clear n0_ n1_; (try clear hb); (try clear hb2); (try clear hk); (try clear hi)) | ((with_reducible refine gate_callee (f := 40) rfl ?_); refine goesL_ (some 26) rfl rfl Tryd.func40 (by kernel_rfl) rfl #[.string t108] rfl (by (try simp only [List.map_toArray, List.map_cons, List.map_nil]); first | done | rfl | (simp only [List.length_drop, List.length_take]; rfl)) ?_; (with_reducible refine (refs_Parse.calls k t108 t110 t111 _ ?side1 A4.out).mono ?_); (case side1 => exact GV.below hgv (by repeat (first | (with_reducible first | exact HB.out | apply below_alloc | apply pw_below_drewN | apply below_drew1) | exact HB.out))); rintro e w93 ⟨v112, rfl, ho0, hb⟩; refine ⟨_, rfl, ?_⟩; have n0_ := Aside0.mk (Kd.R_elder' (by (with_reducible repeat (first | apply Kd.R_alloc | apply Kd.R_drewN | apply Kd.R_drew)); exact HO104.out) (Kd.R_base ho0) hb); have n1_ := Aside0.mk (Kd.R_lower (Kd.R_new' ho0 (Kd.R_lt (by (with_reducible repeat (first | apply Kd.R_alloc | apply Kd.R_drewN | apply Kd.R_drew)); exact HO104.out))) (below_size (by repeat (first | (with_reducible first | exact HB.out | apply below_alloc | apply pw_below_drewN | apply below_drew1) | exact HB.out)))); have n2_ := Aside0.mk (below_step (by repeat (first | (with_reducible first | exact HB.out | apply below_alloc | apply pw_below_drewN | apply below_drew1) | exact HB.out)) hb); clear HO104; clear HB; have HO104 := n0_; have HO113 := n1_; have HB := n2_; clear n0_ n1_ n2_; (try clear hb); (try clear hb2); (try clear hk); (try clear hi); (try clear ho0)) | ((with_reducible refine gate_callee (f := 36) rfl ?_); refine goesL_ (some 30) rfl rfl Tryd.func36 (by kernel_rfl) rfl #[.slice Ao90 y102.length co90] rfl (by (try simp only [List.map_toArray, List.map_cons, List.map_nil]); first | done | rfl | (simp only [List.length_drop, List.length_take]; rfl)) ?_; (with_reducible refine (refs_Check.calls k _ _ y102 t114 _ ?side1 ?side2 ?side3 A5.out).mono ?_); (case side1 => repeat (first | exact (Kd.R_reads' HO104.out).2.2 | (with_reducible refine Kd.C_alloc ?_ _) | (with_reducible refine Kd.C_drewN ?_ _) | (with_reducible refine Kd.C_drew ?_))); (case side2 => exact (Kd.R_reads' HO104.out).2.1); (case side3 => exact GV.below hgv (by repeat (first | (with_reducible first | exact HB.out | apply below_alloc | apply pw_below_drewN | apply below_drew1) | exact HB.out))); rintro e w94 ⟨rfl, hb⟩; refine ⟨_, rfl, ?_⟩; have n0_ := Aside0.mk (Kd.R_below (by (with_reducible repeat (first | apply Kd.R_alloc | apply Kd.R_drewN | apply Kd.R_drew)); exact HO104.out) hb); have n1_ := Aside0.mk (Kd.R_below (by (with_reducible repeat (first | apply Kd.R_alloc | apply Kd.R_drewN | apply Kd.R_drew)); exact HO113.out) hb); have n2_ := Aside0.mk (below_step (by repeat (first | (with_reducible first | exact HB.out | apply below_alloc | apply pw_below_drewN | apply below_drew1) | exact HB.out)) hb); clear HO104; clear HO113; clear HB; have HO104 := n0_; have HO113 := n1_; have HB := n2_; clear n0_ n1_ n2_; (try clear hb); (try clear hb2); (try clear hk); (try clear hi)))
      go_ret
      exact ⟨by first | rfl | (simp [errW_none, errW_some] <;> rfl) | (simp [*, errW_none, errW_some] <;> rfl) | (simp [ne_nil_bool]; done) | (simp [*, ne_nil_bool]; done), by repeat (first | (with_reducible first | exact HB.out | apply below_alloc | apply pw_below_drewN | apply below_drew1) | exact HB.out)⟩
  · rw [if_neg c6] at H
    have c6b0 : (t114 == 0) = false := beq_eq_false_iff_ne.mpr c6
    have c6b1 : (t114 != 0) = true := bne_iff_ne.mpr c6
    obtain rfl := Option.some.inj H
    go_enter Tryd.func33, Tryd.ntmps33
    go_wp2_with (first | ((with_reducible refine gate_callee (f := 71) rfl ?_); refine goesL_ (some 10) rfl rfl Tryd.func71 (by kernel_rfl) rfl #[.int .u8 49] rfl (by (try simp only [List.map_toArray, List.map_cons, List.map_nil]); first | done | rfl | (simp only [List.length_drop, List.length_take]; rfl)) ?_; (with_reducible refine (graftagelaw37_id.calls k 49 t101 _ A1.out).mono ?_); rintro e w95 ⟨rfl, hb⟩; refine ⟨_, rfl, ?_⟩; have n0_ := Aside0.mk (below_step (by repeat (first | (with_reducible first | exact HB.out | apply below_alloc | apply pw_below_drewN | apply below_drew1) | exact HB.out)) hb); clear HB; have HB := n0_; clear n0_; (try clear hb); (try clear hb2); (try clear hk); (try clear hi)) | ((with_reducible refine gate_dst (N := 12) rfl ?_); refine Kd.R_lit k55 _ 55 ?hg (N := 12) ?hd (xs := ([(⟨(⟨#[72, 69, 65, 68]⟩ : ByteArray), (⟨#[]⟩ : ByteArray), (⟨#[114, 101, 102, 115, 47, 104, 101, 97, 100, 115, 47, 109, 97, 105, 110]⟩ : ByteArray)⟩ : S55), (⟨(⟨#[114, 101, 102, 115, 47, 104, 101, 97, 100, 115, 47, 109, 97, 105, 110]⟩ : ByteArray), t101, (⟨#[]⟩ : ByteArray)⟩ : S55)] : List (S55))) (inner := [.string (⟨#[72, 69, 65, 68]⟩ : ByteArray), .string (⟨#[]⟩ : ByteArray), .string (⟨#[114, 101, 102, 115, 47, 104, 101, 97, 100, 115, 47, 109, 97, 105, 110]⟩ : ByteArray), .string (⟨#[114, 101, 102, 115, 47, 104, 101, 97, 100, 115, 47, 109, 97, 105, 110]⟩ : ByteArray), .string t101, .string (⟨#[]⟩ : ByteArray)]) (ok := fun _ => True) (okp := fun _ => True) ?hr ?hp (fun _ hk => hk) trivial (Below.refl _ _) (Nat.le_refl _) (by simp) ?_; (case hd => rfl); (case hg => rfl); (case hr => first | (go_simp; done) | (go_simp; rfl)); (case hp => exact (Reps.c3 (show Kd.M k55 _ _ _ (⟨(⟨#[72, 69, 65, 68]⟩ : ByteArray), (⟨#[]⟩ : ByteArray), (⟨#[114, 101, 102, 115, 47, 104, 101, 97, 100, 115, 47, 109, 97, 105, 110]⟩ : ByteArray)⟩ : S55) [.string (⟨#[72, 69, 65, 68]⟩ : ByteArray), .string (⟨#[]⟩ : ByteArray), .string (⟨#[114, 101, 102, 115, 47, 104, 101, 97, 100, 115, 47, 109, 97, 105, 110]⟩ : ByteArray)] from (k55_mkM _ _ _ (⟨(⟨#[72, 69, 65, 68]⟩ : ByteArray), (⟨#[]⟩ : ByteArray), (⟨#[114, 101, 102, 115, 47, 104, 101, 97, 100, 115, 47, 109, 97, 105, 110]⟩ : ByteArray)⟩ : S55) )) (Reps.c3 (show Kd.M k55 _ _ _ (⟨(⟨#[114, 101, 102, 115, 47, 104, 101, 97, 100, 115, 47, 109, 97, 105, 110]⟩ : ByteArray), t101, (⟨#[]⟩ : ByteArray)⟩ : S55) [.string (⟨#[114, 101, 102, 115, 47, 104, 101, 97, 100, 115, 47, 109, 97, 105, 110]⟩ : ByteArray), .string t101, .string (⟨#[]⟩ : ByteArray)] from (k55_mkM _ _ _ (⟨(⟨#[114, 101, 102, 115, 47, 104, 101, 97, 100, 115, 47, 109, 97, 105, 110]⟩ : ByteArray), t101, (⟨#[]⟩ : ByteArray)⟩ : S55) )) (Reps.none _ _)))); intro v103 w96 ho97 hb hg_ hnew_; clear hg_ hnew_; (first | rw [← Ny102.out] at ho97 | (simp only [Int.reduceToNat] at ho97; rw [← Ny102.out] at ho97)); have n0_ := Aside0.mk (Kd.R_lower ho97 (below_size (by repeat (first | (with_reducible first | exact HB.out | apply below_alloc | apply pw_below_drewN | apply below_drew1) | exact HB.out)))); have n1_ := Aside0.mk (below_step (by repeat (first | (with_reducible first | exact HB.out | apply below_alloc | apply pw_below_drewN | apply below_drew1) | exact HB.out)) hb); clear HB; have HO104 := n0_; have HB := n1_; clear n0_ n1_; clear hb ho97; obtain ⟨Ao98, co98, eo98⟩ := Kd.R_slice HO104.out; subst eo98) | ((with_reducible refine gate_callee (f := 43) rfl ?_); refine goesL_ (some 15) rfl rfl Tryd.func43 (by kernel_rfl) rfl #[.slice Ao98 y102.length co98, .string (⟨#[72, 69, 65, 68]⟩ : ByteArray)] rfl (by (try simp only [List.map_toArray, List.map_cons, List.map_nil]); first | done | rfl | (simp only [List.length_drop, List.length_take]; rfl)) ?_; (with_reducible refine (refs_Resolve.calls k _ _ y102 (⟨#[72, 69, 65, 68]⟩ : ByteArray) t105 t106 t107 _ ?side1 ?side2 ?side3 A2.out).mono ?_); (case side1 => repeat (first | exact (Kd.R_reads' HO104.out).2.2 | (with_reducible refine Kd.C_alloc ?_ _) | (with_reducible refine Kd.C_drewN ?_ _) | (with_reducible refine Kd.C_drew ?_))); (case side2 => exact (Kd.R_reads' HO104.out).2.1); (case side3 => exact GV.below hgv (by repeat (first | (with_reducible first | exact HB.out | apply below_alloc | apply pw_below_drewN | apply below_drew1) | exact HB.out))); rintro e w99 ⟨rfl, hb⟩; refine ⟨_, rfl, ?_⟩; have n0_ := Aside0.mk (Kd.R_below (by (with_reducible repeat (first | apply Kd.R_alloc | apply Kd.R_drewN | apply Kd.R_drew)); exact HO104.out) hb); have n1_ := Aside0.mk (below_step (by repeat (first | (with_reducible first | exact HB.out | apply below_alloc | apply pw_below_drewN | apply below_drew1) | exact HB.out)) hb); clear HO104; clear HB; have HO104 := n0_; have HB := n1_; clear n0_ n1_; (try clear hb); (try clear hb2); (try clear hk); (try clear hi)) | ((with_reducible refine gate_callee (f := 38) rfl ?_); refine goesL_ (some 21) rfl rfl Tryd.func38 (by kernel_rfl) rfl #[.slice Ao98 y102.length co98] rfl (by (try simp only [List.map_toArray, List.map_cons, List.map_nil]); first | done | rfl | (simp only [List.length_drop, List.length_take]; rfl)) ?_; (with_reducible refine (refs_Text.calls k _ _ y102 t108 t109 _ ?side1 ?side2 ?side3 A3.out).mono ?_); (case side1 => repeat (first | exact (Kd.R_reads' HO104.out).2.2 | (with_reducible refine Kd.C_alloc ?_ _) | (with_reducible refine Kd.C_drewN ?_ _) | (with_reducible refine Kd.C_drew ?_))); (case side2 => exact (Kd.R_reads' HO104.out).2.1); (case side3 => exact GV.below hgv (by repeat (first | (with_reducible first | exact HB.out | apply below_alloc | apply pw_below_drewN | apply below_drew1) | exact HB.out))); rintro e w100 ⟨rfl, hb⟩; refine ⟨_, rfl, ?_⟩; have n0_ := Aside0.mk (Kd.R_below (by (with_reducible repeat (first | apply Kd.R_alloc | apply Kd.R_drewN | apply Kd.R_drew)); exact HO104.out) hb); have n1_ := Aside0.mk (below_step (by repeat (first | (with_reducible first | exact HB.out | apply below_alloc | apply pw_below_drewN | apply below_drew1) | exact HB.out)) hb); clear HO104; clear HB; have HO104 := n0_; have HB := n1_; clear n0_ n1_; (try clear hb); (try clear hb2); (try clear hk); (try clear hi)) | ((with_reducible refine gate_callee (f := 40) rfl ?_); refine goesL_ (some 26) rfl rfl Tryd.func40 (by kernel_rfl) rfl #[.string t108] rfl (by (try simp only [List.map_toArray, List.map_cons, List.map_nil]); first | done | rfl | (simp only [List.length_drop, List.length_take]; rfl)) ?_; (with_reducible refine (refs_Parse.calls k t108 t110 t111 _ ?side1 A4.out).mono ?_); (case side1 => exact GV.below hgv (by repeat (first | (with_reducible first | exact HB.out | apply below_alloc | apply pw_below_drewN | apply below_drew1) | exact HB.out))); rintro e w101 ⟨v112, rfl, ho0, hb⟩; refine ⟨_, rfl, ?_⟩; have n0_ := Aside0.mk (Kd.R_elder' (by (with_reducible repeat (first | apply Kd.R_alloc | apply Kd.R_drewN | apply Kd.R_drew)); exact HO104.out) (Kd.R_base ho0) hb); have n1_ := Aside0.mk (Kd.R_lower (Kd.R_new' ho0 (Kd.R_lt (by (with_reducible repeat (first | apply Kd.R_alloc | apply Kd.R_drewN | apply Kd.R_drew)); exact HO104.out))) (below_size (by repeat (first | (with_reducible first | exact HB.out | apply below_alloc | apply pw_below_drewN | apply below_drew1) | exact HB.out)))); have n2_ := Aside0.mk (below_step (by repeat (first | (with_reducible first | exact HB.out | apply below_alloc | apply pw_below_drewN | apply below_drew1) | exact HB.out)) hb); clear HO104; clear HB; have HO104 := n0_; have HO113 := n1_; have HB := n2_; clear n0_ n1_ n2_; (try clear hb); (try clear hb2); (try clear hk); (try clear hi); (try clear ho0)) | ((with_reducible refine gate_callee (f := 36) rfl ?_); refine goesL_ (some 30) rfl rfl Tryd.func36 (by kernel_rfl) rfl #[.slice Ao98 y102.length co98] rfl (by (try simp only [List.map_toArray, List.map_cons, List.map_nil]); first | done | rfl | (simp only [List.length_drop, List.length_take]; rfl)) ?_; (with_reducible refine (refs_Check.calls k _ _ y102 t114 _ ?side1 ?side2 ?side3 A5.out).mono ?_); (case side1 => repeat (first | exact (Kd.R_reads' HO104.out).2.2 | (with_reducible refine Kd.C_alloc ?_ _) | (with_reducible refine Kd.C_drewN ?_ _) | (with_reducible refine Kd.C_drew ?_))); (case side2 => exact (Kd.R_reads' HO104.out).2.1); (case side3 => exact GV.below hgv (by repeat (first | (with_reducible first | exact HB.out | apply below_alloc | apply pw_below_drewN | apply below_drew1) | exact HB.out))); rintro e w102 ⟨rfl, hb⟩; refine ⟨_, rfl, ?_⟩; have n0_ := Aside0.mk (Kd.R_below (by (with_reducible repeat (first | apply Kd.R_alloc | apply Kd.R_drewN | apply Kd.R_drew)); exact HO104.out) hb); have n1_ := Aside0.mk (Kd.R_below (by (with_reducible repeat (first | apply Kd.R_alloc | apply Kd.R_drewN | apply Kd.R_drew)); exact HO113.out) hb); have n2_ := Aside0.mk (below_step (by repeat (first | (with_reducible first | exact HB.out | apply below_alloc | apply pw_below_drewN | apply below_drew1) | exact HB.out)) hb); clear HO104; clear HO113; clear HB; have HO104 := n0_; have HO113 := n1_; have HB := n2_; clear n0_ n1_ n2_; (try clear hb); (try clear hb2); (try clear hk); (try clear hi)))
    go_ret
    exact ⟨by first | rfl | (simp [errW_none, errW_some] <;> rfl) | (simp [*, errW_none, errW_some] <;> rfl) | (simp [ne_nil_bool]; done) | (simp [*, ne_nil_bool]; done), by repeat (first | (with_reducible first | exact HB.out | apply below_alloc | apply pw_below_drewN | apply below_drew1) | exact HB.out)⟩

end Go.Proofs.YtccbpbdfihnlgaaDoor.Q


/- Contracts of Go functions as calls of plain Lean functions, written by a program of this session over the kit's print. -/
namespace Go.Proofs.YtccbpbdfihnlgaaDoor.Q
open Go.RowKit Go.Proofs.YtccbpbdfihnlgaaDoorW.PrintWords Go.Proofs.YtccbpbdfihnlgaaDoorW.PrintLast Go.Proofs.YtccbpbdfihnlgaaDoorW.PrintMore
attribute [local go_sem] max2_int min2_int max_two min_two max_three min_three max_four min_four   -- for this text's walks alone

/-! ### graftagelaw37_RefsNames: function 9 -/
def graftagelaw37_RefsNames.j0 : Nat → ByteArray → List (S55) → Bool → Option (Bool)
  | 0, _, _, _ => none
  | k + 1, x0, x1, x22 => if x22 = true then ((graftagelaw37_lives.f k).bind fun t102 => (some t102)) else ((refs_Name.f k x0).bind fun t103 => ((graftageref37_Name.f k x0).bind fun t104 => (if (t103 == t104) = true then ((refs_Check.f k x1).bind fun t105 => ((graftageref37_Check.f k x1).bind fun t106 => (if t105 = t106 then ((graftagelaw37_lives.f k).bind fun t107 => (some t107)) else (some false)))) else (some false))))
def graftagelaw37_RefsNames.f (k : Nat) (a0 : ByteArray) (l1 : List (S55)) : Option (Bool) := if (a0.size : Int) > 1000 then (graftagelaw37_RefsNames.j0 k a0 l1 true) else ((graftageref37_Few.f k l1).bind fun t101 => (if t101 = true then (graftagelaw37_RefsNames.j0 k a0 l1 false) else (if (l1.length : Int) < 1024 then (graftagelaw37_RefsNames.j0 k a0 l1 true) else (graftagelaw37_RefsNames.j0 k a0 l1 (decide ((l1.length : Int) > 1030))))))
set_option maxHeartbeats 8000000 in
set_option maxRecDepth 100000 in
theorem graftagelaw37_RefsNames.calls (k : Nat) (a0 : ByteArray) (A1 : Option Addr) (c1 : Nat) (l1 : List (S55)) (r : Bool) (w : World) (hr1 : Kd.C k55 w A1 l1.length l1) (hc1 : l1.length ≤ c1) (hgv : GV w) (h : graftagelaw37_RefsNames.f k a0 l1 = some r) :
    Calls Tryd.prog 9 #[.string a0, .slice A1 l1.length c1] w fun e w' => e = .returned (.bool r) ∧ Below w.heap.size w w' := by
  have HR1 := Aside0.mk hr1
  have HC1 := Aside0.mk hc1
  clear hr1 hc1
  have HB := Aside0.mk (Below.refl w.heap.size w)
  have H : (if (a0.size : Int) > 1000 then (graftagelaw37_RefsNames.j0 k a0 l1 true) else ((graftageref37_Few.f k l1).bind fun t101 => (if t101 = true then (graftagelaw37_RefsNames.j0 k a0 l1 false) else (if (l1.length : Int) < 1024 then (graftagelaw37_RefsNames.j0 k a0 l1 true) else (graftagelaw37_RefsNames.j0 k a0 l1 (decide ((l1.length : Int) > 1030))))))) = some r := h
  clear h
  have HC3 := Aside0.mk H
  clear H
  go_enter Tryd.func9, Tryd.ntmps9
  go_upto_region 1 with (fail)
  go_cut [22] (fun v22 wc => ∃ (kq : Nat) (x22_2 : Bool), v22 = .bool x22_2 ∧ Aside0 (graftagelaw37_RefsNames.j0 kq a0 l1 x22_2 = some r) ∧ Aside0 (kq ≤ k) ∧ Aside0 (Below w.heap.size w wc))
  case first =>
    have H := HC3.out
    clear HC3
    by_cases c4 : (a0.size : Int) > 1000
    · rw [if_pos c4] at H
      have c4b0 : decide (1000 < (a0.size : Int)) = true := decide_eq_true c4
      have c4b1 : decide (1000 < a0.size) = true := decide_eq_true (by omega)
      clear c4
      (first | rw [c4b0] | (simp only [i64_w, i32_w]; rw [c4b0]) | skip)
      have H' := Aside0.mk H
      clear H
      go_wp2
      go_meet
      case rel => exact ⟨_, (true), (by first | rfl | (simp; done) | (simp [*]; done) | (simp [ne_nil_bool]; done) | (simp [*, ne_nil_bool]; done)), H', ⟨by first | omega | exact Nat.le_refl _⟩, ⟨by repeat (first | (with_reducible first | exact HB.out | apply below_alloc | apply pw_below_drewN | apply below_drew1) | exact HB.out)⟩⟩
    · rw [if_neg c4] at H
      have c4b0 : decide (1000 < (a0.size : Int)) = false := decide_eq_false c4
      have c4b1 : decide (1000 < a0.size) = false := decide_eq_false (by omega)
      clear c4
      (first | rw [c4b0] | (simp only [i64_w, i32_w]; rw [c4b0]) | skip)
      replace H := Option.bind_eq_some_iff.mp H
      obtain ⟨t101, A50, H⟩ := H
      replace H : (if t101 = true then (graftagelaw37_RefsNames.j0 k a0 l1 false) else (if (l1.length : Int) < 1024 then (graftagelaw37_RefsNames.j0 k a0 l1 true) else (graftagelaw37_RefsNames.j0 k a0 l1 (decide ((l1.length : Int) > 1030))))) = some r := H
      have A5 := Aside0.mk A50
      clear A50
      by_cases c6 : t101 = true
      · subst c6
        have H1 : (graftagelaw37_RefsNames.j0 k a0 l1 false) = some r := by rw [if_pos rfl] at H; exact H
        clear H
        have H := H1
        clear H1
        have H' := Aside0.mk H
        clear H
        go_wp2_with (first | (go_at_call 32; (with_reducible refine (graftageref37_Few.calls k _ _ l1 true _ ?side1 ?side2 A5.out).mono ?_); (case side1 => repeat (first | exact (Kd.C_below HR1.out HB.out) | (with_reducible refine Kd.C_alloc ?_ _) | (with_reducible refine Kd.C_drewN ?_ _) | (with_reducible refine Kd.C_drew ?_))); (case side2 => exact HC1.out); rintro e w' ⟨rfl, ⟨nd, rfl⟩⟩))
        go_meet
        case rel => exact ⟨_, (false), (by first | rfl | (simp; done) | (simp [*]; done) | (simp [ne_nil_bool]; done) | (simp [*, ne_nil_bool]; done)), H', ⟨by first | omega | exact Nat.le_refl _⟩, ⟨by repeat (first | (with_reducible first | exact HB.out | apply below_alloc | apply pw_below_drewN | apply below_drew1) | exact HB.out)⟩⟩
      · replace c6 := Bool.eq_false_iff.mpr c6
        subst c6
        have H1 : (if (l1.length : Int) < 1024 then (graftagelaw37_RefsNames.j0 k a0 l1 true) else (graftagelaw37_RefsNames.j0 k a0 l1 (decide ((l1.length : Int) > 1030)))) = some r := by rw [if_neg (show ¬ (false = true) by decide)] at H; exact H
        clear H
        have H := H1
        clear H1
        by_cases c7 : (l1.length : Int) < 1024
        · rw [if_pos c7] at H
          have c7b0 : decide ((l1.length : Int) < 1024) = true := decide_eq_true c7
          have c7b1 : decide (l1.length < 1024) = true := decide_eq_true (by omega)
          clear c7
          have H' := Aside0.mk H
          clear H
          go_wp2_with (first | (go_at_call 32; (with_reducible refine (graftageref37_Few.calls k _ _ l1 false _ ?side1 ?side2 A5.out).mono ?_); (case side1 => repeat (first | exact (Kd.C_below HR1.out HB.out) | (with_reducible refine Kd.C_alloc ?_ _) | (with_reducible refine Kd.C_drewN ?_ _) | (with_reducible refine Kd.C_drew ?_))); (case side2 => exact HC1.out); rintro e w' ⟨rfl, ⟨nd, rfl⟩⟩))
          go_meet
          case rel => exact ⟨_, (true), (by first | rfl | (simp; done) | (simp [*]; done) | (simp [ne_nil_bool]; done) | (simp [*, ne_nil_bool]; done)), H', ⟨by first | omega | exact Nat.le_refl _⟩, ⟨by repeat (first | (with_reducible first | exact HB.out | apply below_alloc | apply pw_below_drewN | apply below_drew1) | exact HB.out)⟩⟩
        · rw [if_neg c7] at H
          have c7b0 : decide ((l1.length : Int) < 1024) = false := decide_eq_false c7
          have c7b1 : decide (l1.length < 1024) = false := decide_eq_false (by omega)
          clear c7
          have H' := Aside0.mk H
          clear H
          go_wp2_with (first | (go_at_call 32; (with_reducible refine (graftageref37_Few.calls k _ _ l1 false _ ?side1 ?side2 A5.out).mono ?_); (case side1 => repeat (first | exact (Kd.C_below HR1.out HB.out) | (with_reducible refine Kd.C_alloc ?_ _) | (with_reducible refine Kd.C_drewN ?_ _) | (with_reducible refine Kd.C_drew ?_))); (case side2 => exact HC1.out); rintro e w' ⟨rfl, ⟨nd, rfl⟩⟩))
          go_meet
          case rel => exact ⟨_, (decide ((l1.length : Int) > 1030)), (by first | rfl | (simp; done) | (simp [*]; done) | (simp [ne_nil_bool]; done) | (simp [*, ne_nil_bool]; done)), H', ⟨by first | omega | exact Nat.le_refl _⟩, ⟨by repeat (first | (with_reducible first | exact HB.out | apply below_alloc | apply pw_below_drewN | apply below_drew1) | exact HB.out)⟩⟩
  case rest =>
    clear HC3
    try clear c1
    try clear p2
    try clear c4
    try clear c4b0
    try clear c4b1
    try clear c6
    try clear c7
    try clear c7b0
    try clear c7b1
    obtain ⟨kq, x22_2, rfl, HA, HJ2, HB⟩ := hcut
    cases kq with
    | zero => exact absurd HA.out (by simp [graftagelaw37_RefsNames.j0])
    | succ kj2 =>
      have H := HA.out
      clear HA
      simp only [graftagelaw37_RefsNames.j0] at H
      by_cases c8 : x22_2 = true
      · subst c8
        have H1 : ((graftagelaw37_lives.f kj2).bind fun t102 => (some t102)) = some r := by rw [if_pos rfl] at H; exact H
        clear H
        have H := H1
        clear H1
        replace H := Option.bind_eq_some_iff.mp H
        obtain ⟨t102, A90, H⟩ := H
        replace H : (some t102) = some r := H
        have A9 := Aside0.mk A90
        clear A90
        obtain rfl := Option.some.inj H
        go_wp2_with (first | ((with_reducible refine gate_callee (f := 33) rfl ?_); refine goesL_ (some 23) rfl rfl Tryd.func33 (by kernel_rfl) rfl #[] rfl (by (try simp only [List.map_toArray, List.map_cons, List.map_nil]); first | done | rfl | (simp only [List.length_drop, List.length_take]; rfl)) ?_; (with_reducible refine (graftagelaw37_lives.calls kj2  t102 _ ?side1 A9.out).mono ?_); (case side1 => exact GV.below hgv (by repeat (first | (with_reducible first | exact HB.out | apply below_alloc | apply pw_below_drewN | apply below_drew1) | exact HB.out))); rintro e w10 ⟨rfl, hb⟩; refine ⟨_, rfl, ?_⟩; have n0_ := Aside0.mk (below_step (by repeat (first | (with_reducible first | exact HB.out | apply below_alloc | apply pw_below_drewN | apply below_drew1) | exact HB.out)) hb); clear HB; have HB := n0_; clear n0_; (try clear hb); (try clear hb2); (try clear hk); (try clear hi)))
        go_ret
        exact ⟨by first | rfl | (simp [errW_none, errW_some] <;> rfl) | (simp [*, errW_none, errW_some] <;> rfl) | (simp [ne_nil_bool]; done) | (simp [*, ne_nil_bool]; done), by repeat (first | (with_reducible first | exact HB.out | apply below_alloc | apply pw_below_drewN | apply below_drew1) | exact HB.out)⟩
      · replace c8 := Bool.eq_false_iff.mpr c8
        subst c8
        have H1 : ((refs_Name.f kj2 a0).bind fun t103 => ((graftageref37_Name.f kj2 a0).bind fun t104 => (if (t103 == t104) = true then ((refs_Check.f kj2 l1).bind fun t105 => ((graftageref37_Check.f kj2 l1).bind fun t106 => (if t105 = t106 then ((graftagelaw37_lives.f kj2).bind fun t107 => (some t107)) else (some false)))) else (some false)))) = some r := by rw [if_neg (show ¬ (false = true) by decide)] at H; exact H
        clear H
        have H := H1
        clear H1
        replace H := Option.bind_eq_some_iff.mp H
        obtain ⟨t103, A110, H⟩ := H
        replace H : ((graftageref37_Name.f kj2 a0).bind fun t104 => (if (t103 == t104) = true then ((refs_Check.f kj2 l1).bind fun t105 => ((graftageref37_Check.f kj2 l1).bind fun t106 => (if t105 = t106 then ((graftagelaw37_lives.f kj2).bind fun t107 => (some t107)) else (some false)))) else (some false))) = some r := H
        have A11 := Aside0.mk A110
        clear A110
        replace H := Option.bind_eq_some_iff.mp H
        obtain ⟨t104, A120, H⟩ := H
        replace H : (if (t103 == t104) = true then ((refs_Check.f kj2 l1).bind fun t105 => ((graftageref37_Check.f kj2 l1).bind fun t106 => (if t105 = t106 then ((graftagelaw37_lives.f kj2).bind fun t107 => (some t107)) else (some false)))) else (some false)) = some r := H
        have A12 := Aside0.mk A120
        clear A120
        by_cases c13 : (t103 == t104) = true
        · rw [if_pos c13] at H
          have c13b0 : (t103 == t104) = true := c13
          (try (have c13b1 : decide (t103 = t104) = true := by simpa using c13))
          (try (have c13b2 : (t103 == t104) = true := by simpa using c13))
          clear c13
          replace H := Option.bind_eq_some_iff.mp H
          obtain ⟨t105, A140, H⟩ := H
          replace H : ((graftageref37_Check.f kj2 l1).bind fun t106 => (if t105 = t106 then ((graftagelaw37_lives.f kj2).bind fun t107 => (some t107)) else (some false))) = some r := H
          have A14 := Aside0.mk A140
          clear A140
          replace H := Option.bind_eq_some_iff.mp H
          obtain ⟨t106, A150, H⟩ := H
          replace H : (if t105 = t106 then ((graftagelaw37_lives.f kj2).bind fun t107 => (some t107)) else (some false)) = some r := H
          have A15 := Aside0.mk A150
          clear A150
          by_cases c16 : t105 = t106
          · rw [if_pos c16] at H
            have c16b0 : (t105 == t106) = true := beq_iff_eq.mpr c16
            have c16b1 : (t105 != t106) = false := bne_eq_false_iff_eq.mpr c16
            clear c16
            replace H := Option.bind_eq_some_iff.mp H
            obtain ⟨t107, A170, H⟩ := H
            replace H : (some t107) = some r := H
            have A17 := Aside0.mk A170
            clear A170
            obtain rfl := Option.some.inj H
            go_wp2_with (first | ((with_reducible refine gate_callee (f := 34) rfl ?_); refine goesL_ (some 25) rfl rfl Tryd.func34 (by kernel_rfl) rfl #[.string a0] rfl (by (try simp only [List.map_toArray, List.map_cons, List.map_nil]); first | done | rfl | (simp only [List.length_drop, List.length_take]; rfl)) ?_; (with_reducible refine (refs_Name.calls kj2 a0 t103 _ ?side1 A11.out).mono ?_); (case side1 => exact GV.below hgv (by repeat (first | (with_reducible first | exact HB.out | apply below_alloc | apply pw_below_drewN | apply below_drew1) | exact HB.out))); rintro e w18 ⟨rfl, hb⟩; refine ⟨_, rfl, ?_⟩; have n0_ := Aside0.mk (below_step (by repeat (first | (with_reducible first | exact HB.out | apply below_alloc | apply pw_below_drewN | apply below_drew1) | exact HB.out)) hb); clear HB; have HB := n0_; clear n0_; (try clear hb); (try clear hb2); (try clear hk); (try clear hi)) | ((with_reducible refine gate_callee (f := 35) rfl ?_); refine goesL_ (some 27) rfl rfl Tryd.func35 (by kernel_rfl) rfl #[.string a0] rfl (by (try simp only [List.map_toArray, List.map_cons, List.map_nil]); first | done | rfl | (simp only [List.length_drop, List.length_take]; rfl)) ?_; (with_reducible refine (graftageref37_Name.calls kj2 a0 t104 _ A12.out).mono ?_); rintro e w19 ⟨rfl, hb⟩; refine ⟨_, rfl, ?_⟩; have n0_ := Aside0.mk (below_step (by repeat (first | (with_reducible first | exact HB.out | apply below_alloc | apply pw_below_drewN | apply below_drew1) | exact HB.out)) hb); clear HB; have HB := n0_; clear n0_; (try clear hb); (try clear hb2); (try clear hk); (try clear hi)) | (go_at_call 36; (with_reducible refine (refs_Check.calls kj2 _ _ l1 t105 _ ?side1 ?side2 ?side3 A14.out).mono ?_); (case side1 => repeat (first | exact (Kd.C_below HR1.out HB.out) | (with_reducible refine Kd.C_alloc ?_ _) | (with_reducible refine Kd.C_drewN ?_ _) | (with_reducible refine Kd.C_drew ?_))); (case side2 => exact HC1.out); (case side3 => exact GV.below hgv (by repeat (first | (with_reducible first | exact HB.out | apply below_alloc | apply pw_below_drewN | apply below_drew1) | exact HB.out))); rintro e w20 ⟨rfl, hb⟩; have n0_ := Aside0.mk (below_step (by repeat (first | (with_reducible first | exact HB.out | apply below_alloc | apply pw_below_drewN | apply below_drew1) | exact HB.out)) hb); clear HB; have HB := n0_; clear n0_; (try clear hb); (try clear hb2); (try clear hk); (try clear hi)) | (go_at_call 37; (with_reducible refine (graftageref37_Check.calls kj2 _ _ l1 t106 _ ?side1 ?side2 A15.out).mono ?_); (case side1 => repeat (first | exact (Kd.C_below HR1.out HB.out) | (with_reducible refine Kd.C_alloc ?_ _) | (with_reducible refine Kd.C_drewN ?_ _) | (with_reducible refine Kd.C_drew ?_))); (case side2 => exact HC1.out); rintro e w21 ⟨rfl, hb⟩; have n0_ := Aside0.mk (below_step (by repeat (first | (with_reducible first | exact HB.out | apply below_alloc | apply pw_below_drewN | apply below_drew1) | exact HB.out)) hb); clear HB; have HB := n0_; clear n0_; (try clear hb); (try clear hb2); (try clear hk); (try clear hi)) | (go_at_call 33; (with_reducible refine (graftagelaw37_lives.calls kj2  t107 _ ?side1 A17.out).mono ?_); (case side1 => exact GV.below hgv (by repeat (first | (with_reducible first | exact HB.out | apply below_alloc | apply pw_below_drewN | apply below_drew1) | exact HB.out))); rintro e w22 ⟨rfl, hb⟩; have n0_ := Aside0.mk (below_step (by repeat (first | (with_reducible first | exact HB.out | apply below_alloc | apply pw_below_drewN | apply below_drew1) | exact HB.out)) hb); clear HB; have HB := n0_; clear n0_; (try clear hb); (try clear hb2); (try clear hk); (try clear hi)))
            go_ret
            exact ⟨by first | rfl | (simp [errW_none, errW_some] <;> rfl) | (simp [*, errW_none, errW_some] <;> rfl) | (simp [ne_nil_bool]; done) | (simp [*, ne_nil_bool]; done), by repeat (first | (with_reducible first | exact HB.out | apply below_alloc | apply pw_below_drewN | apply below_drew1) | exact HB.out)⟩
          · rw [if_neg c16] at H
            have c16b0 : (t105 == t106) = false := beq_eq_false_iff_ne.mpr c16
            have c16b1 : (t105 != t106) = true := bne_iff_ne.mpr c16
            obtain rfl := Option.some.inj H
            go_wp2_with (first | ((with_reducible refine gate_callee (f := 34) rfl ?_); refine goesL_ (some 25) rfl rfl Tryd.func34 (by kernel_rfl) rfl #[.string a0] rfl (by (try simp only [List.map_toArray, List.map_cons, List.map_nil]); first | done | rfl | (simp only [List.length_drop, List.length_take]; rfl)) ?_; (with_reducible refine (refs_Name.calls kj2 a0 t103 _ ?side1 A11.out).mono ?_); (case side1 => exact GV.below hgv (by repeat (first | (with_reducible first | exact HB.out | apply below_alloc | apply pw_below_drewN | apply below_drew1) | exact HB.out))); rintro e w23 ⟨rfl, hb⟩; refine ⟨_, rfl, ?_⟩; have n0_ := Aside0.mk (below_step (by repeat (first | (with_reducible first | exact HB.out | apply below_alloc | apply pw_below_drewN | apply below_drew1) | exact HB.out)) hb); clear HB; have HB := n0_; clear n0_; (try clear hb); (try clear hb2); (try clear hk); (try clear hi)) | ((with_reducible refine gate_callee (f := 35) rfl ?_); refine goesL_ (some 27) rfl rfl Tryd.func35 (by kernel_rfl) rfl #[.string a0] rfl (by (try simp only [List.map_toArray, List.map_cons, List.map_nil]); first | done | rfl | (simp only [List.length_drop, List.length_take]; rfl)) ?_; (with_reducible refine (graftageref37_Name.calls kj2 a0 t104 _ A12.out).mono ?_); rintro e w24 ⟨rfl, hb⟩; refine ⟨_, rfl, ?_⟩; have n0_ := Aside0.mk (below_step (by repeat (first | (with_reducible first | exact HB.out | apply below_alloc | apply pw_below_drewN | apply below_drew1) | exact HB.out)) hb); clear HB; have HB := n0_; clear n0_; (try clear hb); (try clear hb2); (try clear hk); (try clear hi)) | (go_at_call 36; (with_reducible refine (refs_Check.calls kj2 _ _ l1 t105 _ ?side1 ?side2 ?side3 A14.out).mono ?_); (case side1 => repeat (first | exact (Kd.C_below HR1.out HB.out) | (with_reducible refine Kd.C_alloc ?_ _) | (with_reducible refine Kd.C_drewN ?_ _) | (with_reducible refine Kd.C_drew ?_))); (case side2 => exact HC1.out); (case side3 => exact GV.below hgv (by repeat (first | (with_reducible first | exact HB.out | apply below_alloc | apply pw_below_drewN | apply below_drew1) | exact HB.out))); rintro e w25 ⟨rfl, hb⟩; have n0_ := Aside0.mk (below_step (by repeat (first | (with_reducible first | exact HB.out | apply below_alloc | apply pw_below_drewN | apply below_drew1) | exact HB.out)) hb); clear HB; have HB := n0_; clear n0_; (try clear hb); (try clear hb2); (try clear hk); (try clear hi)) | (go_at_call 37; (with_reducible refine (graftageref37_Check.calls kj2 _ _ l1 t106 _ ?side1 ?side2 A15.out).mono ?_); (case side1 => repeat (first | exact (Kd.C_below HR1.out HB.out) | (with_reducible refine Kd.C_alloc ?_ _) | (with_reducible refine Kd.C_drewN ?_ _) | (with_reducible refine Kd.C_drew ?_))); (case side2 => exact HC1.out); rintro e w26 ⟨rfl, hb⟩; have n0_ := Aside0.mk (below_step (by repeat (first | (with_reducible first | exact HB.out | apply below_alloc | apply pw_below_drewN | apply below_drew1) | exact HB.out)) hb); clear HB; have HB := n0_; clear n0_; (try clear hb); (try clear hb2); (try clear hk); (try clear hi)))
            go_ret
            exact ⟨by first | rfl | (simp [errW_none, errW_some] <;> rfl) | (simp [*, errW_none, errW_some] <;> rfl) | (simp [ne_nil_bool]; done) | (simp [*, ne_nil_bool]; done), by repeat (first | (with_reducible first | exact HB.out | apply below_alloc | apply pw_below_drewN | apply below_drew1) | exact HB.out)⟩
        · rw [if_neg c13] at H
          have c13b0 : (t103 == t104) = false := by simpa using c13
          (try (have c13b1 : decide (t103 = t104) = false := by simpa using c13))
          (try (have c13b2 : (t103 == t104) = false := by simpa using c13))
          (try (have c13b3 : ¬ (t103 = t104) := by simpa using c13))
          clear c13
          obtain rfl := Option.some.inj H
          go_wp2_with (first | ((with_reducible refine gate_callee (f := 34) rfl ?_); refine goesL_ (some 25) rfl rfl Tryd.func34 (by kernel_rfl) rfl #[.string a0] rfl (by (try simp only [List.map_toArray, List.map_cons, List.map_nil]); first | done | rfl | (simp only [List.length_drop, List.length_take]; rfl)) ?_; (with_reducible refine (refs_Name.calls kj2 a0 t103 _ ?side1 A11.out).mono ?_); (case side1 => exact GV.below hgv (by repeat (first | (with_reducible first | exact HB.out | apply below_alloc | apply pw_below_drewN | apply below_drew1) | exact HB.out))); rintro e w27 ⟨rfl, hb⟩; refine ⟨_, rfl, ?_⟩; have n0_ := Aside0.mk (below_step (by repeat (first | (with_reducible first | exact HB.out | apply below_alloc | apply pw_below_drewN | apply below_drew1) | exact HB.out)) hb); clear HB; have HB := n0_; clear n0_; (try clear hb); (try clear hb2); (try clear hk); (try clear hi)) | ((with_reducible refine gate_callee (f := 35) rfl ?_); refine goesL_ (some 27) rfl rfl Tryd.func35 (by kernel_rfl) rfl #[.string a0] rfl (by (try simp only [List.map_toArray, List.map_cons, List.map_nil]); first | done | rfl | (simp only [List.length_drop, List.length_take]; rfl)) ?_; (with_reducible refine (graftageref37_Name.calls kj2 a0 t104 _ A12.out).mono ?_); rintro e w28 ⟨rfl, hb⟩; refine ⟨_, rfl, ?_⟩; have n0_ := Aside0.mk (below_step (by repeat (first | (with_reducible first | exact HB.out | apply below_alloc | apply pw_below_drewN | apply below_drew1) | exact HB.out)) hb); clear HB; have HB := n0_; clear n0_; (try clear hb); (try clear hb2); (try clear hk); (try clear hi)))
          go_ret
          exact ⟨by first | rfl | (simp [errW_none, errW_some] <;> rfl) | (simp [*, errW_none, errW_some] <;> rfl) | (simp [ne_nil_bool]; done) | (simp [*, ne_nil_bool]; done), by repeat (first | (with_reducible first | exact HB.out | apply below_alloc | apply pw_below_drewN | apply below_drew1) | exact HB.out)⟩

end Go.Proofs.YtccbpbdfihnlgaaDoor.Q


/- Paths: the parts between slashes, and what is a path; the program's and the reference's. -/
namespace Go.Proofs.YtccbpbdfihnlgaaDoor.Q
open Go.RowKit Go.Proofs.YtccbpbdfihnlgaaDoorW.PrintWords Go.Proofs.YtccbpbdfihnlgaaDoorW.PrintLast Go.Proofs.YtccbpbdfihnlgaaDoorW.PrintMore

theorem wrap_id {x : Int} (h0 : -9223372036854775808 ≤ x) (h1 : x ≤ 9223372036854775807) : wrap64 x = x := by unfold wrap64; omega
theorem rd_ext (l : List ByteArray) (i : Nat) (h : i < l.length) : rdOf ByteArray.empty l i = l[i] := by
  simp [rdOf, List.getD, List.getElem?_eq_getElem h]
theorem ba_ext {a b : ByteArray} (h : a.data.toList = b.data.toList) : a = b := by
  cases a; cases b; simp at h; simp [h]
/-! ### Parts -/
def consH (b : UInt8) : List (List UInt8) → List (List UInt8)
  | [] => [[b]]
  | h :: t => (b :: h) :: t
def partsL : List UInt8 → List (List UInt8)
  | [] => [[]]
  | b :: r => if b = 47 then [] :: partsL r else consH b (partsL r)
theorem partsL_ne (l : List UInt8) : partsL l ≠ [] := by
  cases l with
  | nil => simp [partsL]
  | cons b r =>
    unfold partsL
    split
    · simp
    · cases partsL r <;> simp [consH]
theorem index_cons_ne (b c : UInt8) (l : List UInt8) (h : b ≠ c) : Lib.index (b :: l) [c] = if Lib.index l [c] == -1 then -1 else Lib.index l [c] + 1 := by
  have hp : ([c] : List UInt8).isPrefixOf (b :: l) = false := by simp [List.isPrefixOf, Ne.symm h]
  rw [Lib.index, hp]; simp
theorem splitK_cons (b : UInt8) (hb : b ≠ 47) : ∀ (n : Nat) (r : List UInt8), Lib.splitK [47] 0 n (b :: r) = consH b (Lib.splitK [47] 0 n r) := by
  intro n r
  cases n with
  | zero => rfl
  | succ n =>
    have hix := index_cons_ne b 47 r hb
    by_cases hm : Lib.index r [47] = -1
    · rw [if_pos (beq_iff_eq.2 hm)] at hix
      rw [Lib.splitK, if_pos (beq_iff_eq.2 hix), Lib.splitK, if_pos (beq_iff_eq.2 hm)]
      rfl
    · have hge := Lib.index_ge r [47]
      obtain ⟨j, hj⟩ : ∃ j : Nat, Lib.index r [47] = j := ⟨(Lib.index r [47]).toNat, by omega⟩
      rw [if_neg (fun e => hm (beq_iff_eq.1 e)), hj] at hix
      rw [Lib.splitK, if_neg (fun e => by have := beq_iff_eq.1 e; omega), Lib.splitK, if_neg (fun e => hm (beq_iff_eq.1 e)), hix, hj]
      rw [show ((j : Int) + 1).toNat = j + 1 by omega, show ((j : Int)).toNat = j by omega]
      simp [consH]
theorem splitK_parts : ∀ l : List UInt8, Lib.splitK [47] 0 (Lib.count l [47]) l = partsL l
  | [] => by rw [Lib.count_miss (by simp [Lib.index])]; rfl
  | b :: r => by
    by_cases h : b = 47
    · subst h
      have hix : Lib.index (47 :: r) [47] = ((0 : Nat) : Int) := by rw [Lib.index]; simp [List.isPrefixOf]
      rw [Lib.count_cons_eq, Nat.add_comm, Lib.splitK, if_neg (by rw [hix]; decide), hix]
      simp [partsL, splitK_parts r]
    · rw [Lib.count_cons_ne b 47 r h, splitK_cons b h, splitK_parts r, partsL, if_neg h]
theorem partsL_no47 : ∀ (l : List UInt8) (p : List UInt8), p ∈ partsL l → (47 : UInt8) ∉ p
  | [], p, hp => by simp [partsL] at hp; subst hp; simp
  | b :: r, p, hp => by
    unfold partsL at hp
    split at hp
    · rcases List.mem_cons.1 hp with rfl | hp
      · simp
      · exact partsL_no47 r p hp
    · rename_i hb
      have ih := partsL_no47 r
      cases hq : partsL r with
      | nil => exact absurd hq (partsL_ne r)
      | cons h t =>
        rw [hq] at hp ih
        rcases List.mem_cons.1 hp with rfl | hp
        · have := ih h List.mem_cons_self
          intro hm
          rcases List.mem_cons.1 hm with e | hm
          · exact hb e.symm
          · exact this hm
        · exact ih p (List.mem_cons_of_mem _ hp)
theorem partsL_length_le : ∀ l : List UInt8, (partsL l).length ≤ l.length + 1
  | [] => by simp [partsL]
  | b :: r => by
    have := partsL_length_le r
    unfold partsL
    split
    · simp; omega
    · cases hq : partsL r with
      | nil => simp [consH]
      | cons h t => rw [hq] at this; simp [consH] at this ⊢; omega

def partsB (s : ByteArray) : List ByteArray := (partsL s.data.toList).map (fun x => ⟨x.toArray⟩)
theorem map_data_inj {l l' : List ByteArray} (h : l.map (·.data.toList) = l'.map (·.data.toList)) : l = l' := by
  induction l generalizing l' with
  | nil => cases l' with
           | nil => rfl
           | cons _ _ => simp at h
  | cons x r ih =>
    cases l' with
    | nil => simp at h
    | cons y r' =>
      simp only [List.map_cons, List.cons.injEq] at h
      rw [ba_ext h.1, ih h.2]
theorem partsB_data (s : ByteArray) : (partsB s).map (·.data.toList) = partsL s.data.toList := by
  simp [partsB, Function.comp_def]
theorem split_parts (s : ByteArray) : Lib.splitB ⟨#[47]⟩ 0 (Lib.countB s ⟨#[47]⟩) s = partsB s := by
  apply map_data_inj
  rw [Lib.splitB_data, partsB_data]
  exact splitK_parts s.data.toList

def cutsF : Nat → ByteArray → Nat → Nat → List ByteArray
  | 0, s, fr, _ => [s.extract fr s.size]
  | d + 1, s, fr, i => if bt s i = 47 then s.extract fr i :: cutsF d s (i + 1) (i + 1) else cutsF d s fr (i + 1)
theorem bt_get (s : ByteArray) (i : Nat) (h : i < s.size) : bt s i = ((s.data.toList[i]'(by rw [← Lib.size_eq]; exact h)).toNat : Int) := by
  unfold bt
  simp only [Int.toNat_natCast]
  rw [dif_pos h]
  rfl
def preH (a : List UInt8) : List (List UInt8) → List (List UInt8)
  | [] => []
  | h :: t => (a ++ h) :: t
theorem cutsF_data (s : ByteArray) : ∀ (d fr i : Nat), i + d = s.size → fr ≤ i → (cutsF d s fr i).map (·.data.toList) = preH ((s.data.toList.drop fr).take (i - fr)) (partsL (s.data.toList.drop i)) := by
  intro d
  induction d with
  | zero =>
    intro fr i hi hf
    have hsz := Lib.size_eq s
    rw [List.drop_of_length_le (l := s.data.toList) (i := i) (by omega)]
    simp only [cutsF, List.map_cons, List.map_nil, partsL, preH, List.append_nil]
    rw [Lib.extract_to_end, List.take_of_length_le (by rw [List.length_drop]; omega)]
  | succ d ih =>
    intro fr i hi hf
    have hsz := Lib.size_eq s
    have hlt : i < s.data.toList.length := by omega
    rw [List.drop_eq_getElem_cons hlt]
    have hb := bt_get s i (by omega)
    have htk : (s.data.toList.drop fr).take (i + 1 - fr) = (s.data.toList.drop fr).take (i - fr) ++ [s.data.toList[i]] := by
      rw [show i + 1 - fr = (i - fr) + 1 by omega, List.take_succ_eq_append_getElem (by rw [List.length_drop]; omega)]
      simp [show fr + (i - fr) = i by omega]
    by_cases h : bt s i = 47
    · have h47 : s.data.toList[i] = 47 := by
        apply UInt8.toNat_inj.1
        rw [hb] at h
        show _ = 47
        omega
      rw [cutsF, if_pos h, h47, partsL, if_pos rfl]
      simp only [List.map_cons, preH, List.append_nil]
      rw [ih (i + 1) (i + 1) (by omega) (Nat.le_refl _), Lib.extract_data]
      have hne := partsL_ne (s.data.toList.drop (i + 1))
      cases hq : partsL (s.data.toList.drop (i + 1)) with
      | nil => exact absurd hq hne
      | cons a t => simp [preH]
    · have h47 : ¬ s.data.toList[i] = 47 := by
        intro e
        rw [hb, e] at h
        exact h rfl
      rw [cutsF, if_neg h, partsL, if_neg h47, ih fr (i + 1) (by omega) (by omega), htk]
      have hne := partsL_ne (s.data.toList.drop (i + 1))
      cases hq : partsL (s.data.toList.drop (i + 1)) with
      | nil => exact absurd hq hne
      | cons a t => simp [preH, consH]
theorem cutsF_parts (s : ByteArray) : cutsF s.size s 0 0 = partsB s := by
  apply map_data_inj
  rw [cutsF_data s s.size 0 0 (by omega) (Nat.le_refl _), partsB_data]
  have hne := partsL_ne s.data.toList
  cases hq : partsL s.data.toList with
  | nil => exact absurd hq hne
  | cons a t => simp [preH, hq]
theorem ref_Parts_l0 (s : ByteArray) (hs : s.size ≤ 4294967280) : ∀ (d k i fr : Nat) (acc : List ByteArray), i + d = s.size → fr ≤ i → acc.length ≤ i → d < k →
    graftageref06_Parts.l0 k s acc fr i = some (acc ++ cutsF d s fr i) := by
  intro d
  induction d with
  | zero =>
    intro k i fr acc hi hf ha hk
    obtain ⟨k, rfl⟩ : ∃ m, k = m + 1 := ⟨k - 1, by omega⟩
    simp only [graftageref06_Parts.l0]
    rw [if_neg (by omega), if_pos (by omega), if_pos (by omega), if_pos (by omega)]
    simp [cutsF]
  | succ d ih =>
    intro k i fr acc hi hf ha hk
    obtain ⟨k, rfl⟩ : ∃ m, k = m + 1 := ⟨k - 1, by omega⟩
    simp only [graftageref06_Parts.l0]
    rw [if_pos (by omega), if_pos (by omega), wrap_id (by omega) (by omega)]
    by_cases h : bt s i = 47
    · rw [if_pos h, if_pos (by omega), if_pos (by omega), if_pos (by omega), if_pos (by omega)]
      have := ih k (i + 1) (i + 1) (acc ++ [s.extract fr i]) (by omega) (Nat.le_refl _) (by simp; omega) (by omega)
      rw [cutsF, if_pos h]
      simpa using this
    · rw [if_neg h]
      have := ih k (i + 1) fr acc (by omega) (by omega) (by omega) (by omega)
      rw [cutsF, if_neg h]
      simpa using this
def pathParts (s : ByteArray) : List ByteArray := if s.toList = [] then [] else partsB s
theorem ref_Parts_ev (s : ByteArray) (hs : s.size ≤ 4294967280) : Ev (fun k => graftageref06_Parts.f k s) (pathParts s) := by
  unfold graftageref06_Parts.f pathParts
  by_cases h : s.toList = []
  · simp only [if_pos h]
    exact Ev.now _
  · simp only [if_neg h]
    refine Ev.of (g := fun k => graftageref06_Parts.l0 k s [] 0 0) (fun k => graftageref06_Parts.mono_l k _ _ _ _) (k := s.size + 1) ?_
    have := ref_Parts_l0 s hs s.size (s.size + 1) 0 0 [] (by omega) (Nat.le_refl _) (by simp) (by omega)
    rw [cutsF_parts] at this
    simpa using this
theorem split_eq (s : ByteArray) (hs : s.size ≤ 4294967280) : strings_Split.f s ⟨#[47]⟩ = some (partsB s) := by
  unfold strings_Split.f
  rw [if_pos ⟨rfl, by omega⟩, split_parts]
theorem path_Parts_eq (s : ByteArray) (hs : s.size ≤ 4294967280) : path_Parts.f s = some (pathParts s) := by
  unfold path_Parts.f pathParts
  by_cases h : s.toList = []
  · rw [if_pos h, if_pos h]
  · rw [if_neg h, if_neg h, split_eq s hs]
    rfl

/-! ### part, Is, Same -/
/-- A path's part, as far as both texts ask alike. -/
def partOK (s : ByteArray) : Bool := decide (1 ≤ s.size) && decide (s.size ≤ 64) && (s.toList != [46]) && (s.toList != [46, 46]) && (s.toList != [46, 103, 114, 97, 102, 116]) && s.data.toList.all (fun b => decide (32 ≤ b.toNat))
theorem all_drop (p : UInt8 → Bool) (l : List UInt8) (i : Nat) (h : i < l.length) : (l.drop i).all p = (p l[i] && (l.drop (i + 1)).all p) := by
  rw [List.drop_eq_getElem_cons h, List.all_cons]
theorem path_part_l0 (s : ByteArray) (hs : s.size ≤ 140737488351232) : ∀ (d k i : Nat), i + d = s.size → d < k → path_part.l0 k s s.size i = some ((s.data.toList.drop i).all (fun b => decide (32 ≤ b.toNat))) := by
  intro d
  induction d with
  | zero =>
    intro k i hi hk
    obtain ⟨k, rfl⟩ : ∃ m, k = m + 1 := ⟨k - 1, by omega⟩
    have hsz := Lib.size_eq s
    simp only [path_part.l0]
    rw [if_neg (by omega), List.drop_of_length_le (by omega)]
    rfl
  | succ d ih =>
    intro k i hi hk
    obtain ⟨k, rfl⟩ : ∃ m, k = m + 1 := ⟨k - 1, by omega⟩
    have hsz := Lib.size_eq s
    have := ih k (i + 1) (by omega) (by omega)
    simp only [path_part.l0]
    rw [if_pos (by omega), if_pos (by omega), if_pos (by omega), wrap_id (by omega) (by omega), all_drop _ _ i (by omega), bt_get s i (by omega)]
    by_cases h : (s.data.toList[i]'(by omega)).toNat < 32
    · rw [if_pos (by omega), decide_eq_false (show ¬ 32 ≤ (s.data.toList[i]'(by omega)).toNat by omega)]
      rfl
    · rw [if_neg (by omega), decide_eq_true (show 32 ≤ (s.data.toList[i]'(by omega)).toNat by omega), Bool.true_and]
      exact_mod_cast this
theorem ref_part_l0 (s : ByteArray) (hs : s.size ≤ 140737488351232) (h47 : (47 : UInt8) ∉ s.data.toList) : ∀ (d k i : Nat), i + d = s.size → d < k → graftageref06_part.l0 k s i = some ((s.data.toList.drop i).all (fun b => decide (32 ≤ b.toNat))) := by
  intro d
  induction d with
  | zero =>
    intro k i hi hk
    obtain ⟨k, rfl⟩ : ∃ m, k = m + 1 := ⟨k - 1, by omega⟩
    have hsz := Lib.size_eq s
    simp only [graftageref06_part.l0]
    rw [if_neg (by omega), List.drop_of_length_le (by omega)]
    rfl
  | succ d ih =>
    intro k i hi hk
    obtain ⟨k, rfl⟩ : ∃ m, k = m + 1 := ⟨k - 1, by omega⟩
    have hsz := Lib.size_eq s
    have := ih k (i + 1) (by omega) (by omega)
    have hne : ¬ (bt s i = 47) := by
      rw [bt_get s i (by omega)]
      intro e
      apply h47
      have : s.data.toList[i]'(by omega) = 47 := by
        apply UInt8.toNat_inj.1
        show _ = 47
        omega
      rw [← this]
      exact List.getElem_mem _
    simp only [graftageref06_part.l0]
    rw [if_pos (by omega), if_pos (by omega), if_neg hne, wrap_id (by omega) (by omega), all_drop _ _ i (by omega), bt_get s i (by omega)]
    by_cases h : (s.data.toList[i]'(by omega)).toNat < 32
    · rw [if_pos (by omega), decide_eq_false (show ¬ 32 ≤ (s.data.toList[i]'(by omega)).toNat by omega)]
      rfl
    · rw [if_neg (by omega), decide_eq_true (show 32 ≤ (s.data.toList[i]'(by omega)).toNat by omega), Bool.true_and]
      exact_mod_cast this
theorem path_part_eq (s : ByteArray) (hs : s.size ≤ 140737488351232) (k : Nat) (hk : s.size + 1 < k) : path_part.f k s = some (partOK s) := by
  obtain ⟨k, rfl⟩ : ∃ m, k = m + 1 := ⟨k - 1, by omega⟩
  have hl := path_part_l0 s hs s.size k 0 (by omega) (by omega)
  unfold path_part.f partOK
  by_cases h1 : s.size < 1
  · rw [if_pos (by omega), path_part.j0, if_pos rfl]; simp [show ¬ (1 ≤ s.size) by omega]
  rw [if_neg (by omega)]
  by_cases h2 : s.size > 64
  · rw [if_pos (by omega), path_part.j0, if_pos rfl]; simp [show ¬ (s.size ≤ 64) by omega]
  rw [if_neg (by omega)]
  by_cases h3 : s.toList = [46]
  · rw [if_pos h3, path_part.j0, if_pos rfl]; simp [h3]
  rw [if_neg h3]
  by_cases h4 : s.toList = [46, 46]
  · rw [if_pos h4, path_part.j0, if_pos rfl]; simp [h4]
  rw [if_neg h4, path_part.j0]
  by_cases h5 : s.toList = [46, 103, 114, 97, 102, 116]
  · rw [if_pos (by simp [h5])]; simp [h5]
  · rw [if_neg (by simp [h5]), show (0 : Int) = ((0 : Nat) : Int) from rfl, hl]
    simp [h3, h4, h5, show 1 ≤ s.size by omega, show s.size ≤ 64 by omega]
theorem ref_part_eq (s : ByteArray) (hs : s.size ≤ 140737488351232) (h47 : (47 : UInt8) ∉ s.data.toList) (k : Nat) (hk : s.size + 1 < k) : graftageref06_part.f k s = some (partOK s) := by
  obtain ⟨k, rfl⟩ : ∃ m, k = m + 1 := ⟨k - 1, by omega⟩
  have hl := ref_part_l0 s hs h47 s.size k 0 (by omega) (by omega)
  unfold graftageref06_part.f partOK
  by_cases h1 : s.size < 1
  · rw [if_pos (by omega), graftageref06_part.j0, if_pos rfl]; simp [show ¬ (1 ≤ s.size) by omega]
  rw [if_neg (by omega)]
  by_cases h2 : s.size > 64
  · rw [if_pos (by omega), graftageref06_part.j0, if_pos rfl]; simp [show ¬ (s.size ≤ 64) by omega]
  rw [if_neg (by omega)]
  by_cases h3 : s.toList = [46]
  · rw [if_pos h3, graftageref06_part.j0, if_pos rfl]; simp [h3]
  rw [if_neg h3]
  by_cases h4 : s.toList = [46, 46]
  · rw [if_pos h4, graftageref06_part.j0, if_pos rfl]; simp [h4]
  rw [if_neg h4, graftageref06_part.j0]
  by_cases h5 : s.toList = [46, 103, 114, 97, 102, 116]
  · rw [if_pos (by simp [h5])]; simp [h5]
  · rw [if_neg (by simp [h5]), show (0 : Int) = ((0 : Nat) : Int) from rfl, hl]
    simp [h3, h4, h5, show 1 ≤ s.size by omega, show s.size ≤ 64 by omega]
/-- A loop that asks each element, with rounds for each. -/
theorem all_ext (p : ByteArray → Bool) (l : List ByteArray) (i : Nat) (h : i < l.length) : (l.drop i).all p = (p l[i] && (l.drop (i + 1)).all p) := by
  rw [List.drop_eq_getElem_cons h, List.all_cons]
theorem path_Is_l0 (l : List ByteArray) (B : Nat) (hB : B ≤ 140737488351232) (hl : ∀ x ∈ l, x.size ≤ B) (hn : l.length ≤ 140737488351232) : ∀ (d k i : Nat), i + d = l.length → d + B + 2 ≤ k →
    path_Is.l0 k l l l.length i = some ((l.drop i).all partOK && decide (l.length ≤ 16)) := by
  intro d
  induction d with
  | zero =>
    intro k i hi hk
    obtain ⟨k, rfl⟩ : ∃ m, k = m + 1 := ⟨k - 1, by omega⟩
    simp only [path_Is.l0]
    rw [if_neg (by omega), List.drop_of_length_le (by omega), List.all_nil, Bool.true_and, decide_eq_decide.2 (show ((l.length : Int) ≤ 16) ↔ l.length ≤ 16 by omega)]
  | succ d ih =>
    intro k i hi hk
    obtain ⟨k, rfl⟩ : ∃ m, k = m + 1 := ⟨k - 1, by omega⟩
    have hi' : i < l.length := by omega
    have := ih k (i + 1) (by omega) (by omega)
    have hsz := hl _ (List.getElem_mem hi')
    simp only [path_Is.l0]
    rw [if_pos (by omega), if_pos (by omega), if_pos (by omega), rd_ext l i hi', path_part_eq _ (by omega) k (by omega), wrap_id (by omega) (by omega), all_ext _ _ i hi']
    simp only [Option.bind_some]
    by_cases h : partOK l[i] = true
    · rw [if_pos h, h]
      simpa using this
    · rw [if_neg h]
      simp [h]
theorem partsB_size (s : ByteArray) : ∀ x ∈ partsB s, x.size ≤ s.size := by
  have key : ∀ (l : List UInt8), ∀ p ∈ partsL l, p.length ≤ l.length := by
    intro l
    induction l with
    | nil => intro p hp; simp [partsL] at hp; simp [hp]
    | cons b r ih =>
      intro p hp
      unfold partsL at hp
      split at hp
      · rcases List.mem_cons.1 hp with rfl | hp
        · simp
        · have := ih p hp; simp; omega
      · cases hq : partsL r with
        | nil => exact absurd hq (partsL_ne r)
        | cons h t =>
          rw [hq] at hp ih
          rcases List.mem_cons.1 hp with rfl | hp
          · have := ih h List.mem_cons_self; simp; omega
          · have := ih p (List.mem_cons_of_mem _ hp); simp; omega
  intro x hx
  obtain ⟨p, hp, rfl⟩ := List.mem_map.1 hx
  have := key _ p hp
  rw [Lib.size_eq s]
  show p.toArray.size ≤ _
  rw [List.size_toArray]
  exact this
theorem partsB_no47 (s : ByteArray) : ∀ x ∈ partsB s, (47 : UInt8) ∉ x.data.toList := by
  intro x hx
  obtain ⟨p, hp, rfl⟩ := List.mem_map.1 hx
  simpa using partsL_no47 _ p hp
theorem partsB_length_le (s : ByteArray) : (partsB s).length ≤ s.size + 1 := by
  have := partsL_length_le s.data.toList
  rw [Lib.size_eq s]
  simpa [partsB] using this
def isPath (s : ByteArray) : Bool := (s.toList != []) && decide (s.size ≤ 255) && ((partsB s).all partOK && decide ((partsB s).length ≤ 16))
theorem path_Is_ev (s : ByteArray) : Ev (fun k => path_Is.f k s) (isPath s) := by
  refine Ev.of (fun k => path_Is.mono s k) (k := 1000) ?_
  show path_Is.f (999 + 1) s = _
  unfold path_Is.f isPath
  by_cases h : s.toList = []
  · rw [if_pos h, path_Is.j0, if_pos rfl]; simp [h]
  · rw [if_neg h, path_Is.j0]
    by_cases h2 : s.size ≤ 255
    · rw [if_neg (by simp; omega), split_eq s (by omega)]
      simp only [Option.bind_some]
      have hn := partsB_length_le s
      rw [show (0 : Int) = ((0 : Nat) : Int) from rfl, path_Is_l0 (partsB s) 255 (by omega) (fun x hx => Nat.le_trans (partsB_size s x hx) h2) (by omega) (partsB s).length 999 0 (by omega) (by omega)]
      simp [h, h2]
    · rw [if_pos (by simp; omega)]
      simp [h2]
theorem ref_Is_l0 (l : List ByteArray) (B : Nat) (hB : B ≤ 140737488351232) (hl : ∀ x ∈ l, x.size ≤ B) (h47 : ∀ x ∈ l, (47 : UInt8) ∉ x.data.toList) (hn : l.length ≤ 140737488351232) : ∀ (d k i : Nat), i + d = l.length → d + B + 2 ≤ k →
    graftageref06_Is.l0 k l i = some ((l.drop i).all partOK) := by
  intro d
  induction d with
  | zero =>
    intro k i hi hk
    obtain ⟨k, rfl⟩ : ∃ m, k = m + 1 := ⟨k - 1, by omega⟩
    simp only [graftageref06_Is.l0]
    rw [if_neg (by omega), List.drop_of_length_le (by omega)]
    simp
  | succ d ih =>
    intro k i hi hk
    obtain ⟨k, rfl⟩ : ∃ m, k = m + 1 := ⟨k - 1, by omega⟩
    have hi' : i < l.length := by omega
    have := ih k (i + 1) (by omega) (by omega)
    have hsz := hl _ (List.getElem_mem hi')
    simp only [graftageref06_Is.l0]
    rw [if_pos (by omega), if_pos (by omega), rd_ext l i hi', ref_part_eq _ (by omega) (h47 _ (List.getElem_mem hi')) k (by omega), wrap_id (by omega) (by omega), all_ext _ _ i hi']
    simp only [Option.bind_some]
    by_cases h : partOK l[i] = true
    · rw [if_pos h, h]
      simpa using this
    · rw [if_neg h]
      simp [h]
theorem ref_Is_ev (s : ByteArray) (hs : s.size ≤ 4294967280) : Ev (fun k => graftageref06_Is.f k s) (isPath s) := by
  refine Ev.bind (ref_Parts_ev s hs) ?_
  unfold isPath pathParts
  by_cases h : s.toList = []
  · have e1 : (([] : List ByteArray).length : Int) < 1 := by simp
    simp only [if_pos h, if_pos e1]
    refine Ev.step (f := fun _ => some false) (fun k => by rw [graftageref06_Is.j0, if_pos rfl]) ?_
    simp only [h, bne_self_eq_false, Bool.false_and]
    exact Ev.now _
  · have hne : (partsB s).length ≠ 0 := by
      simp [partsB, partsL_ne]
    have e1 : ¬ ((partsB s).length : Int) < 1 := by omega
    simp only [if_neg h, if_neg e1]
    by_cases h16 : (partsB s).length > 16
    · have e2 : ((partsB s).length : Int) > 16 := by omega
      simp only [if_pos e2]
      refine Ev.step (f := fun _ => some false) (fun k => by rw [graftageref06_Is.j0, if_pos rfl]) ?_
      simp only [show decide ((partsB s).length ≤ 16) = false by simp; omega, Bool.and_false]
      exact Ev.now _
    · have e2 : ¬ ((partsB s).length : Int) > 16 := by omega
      simp only [if_neg e2]
      by_cases h2 : s.size ≤ 255
      · refine Ev.step (f := fun k => graftageref06_Is.l0 k (partsB s) 0) (fun k => by rw [graftageref06_Is.j0, if_neg (by simp; omega)]) ?_
        refine Ev.of (fun k => (graftageref06_Is.mono_l k).2 _ _) (k := (partsB s).length + 255 + 2) ?_
        have hn := partsB_length_le s
        rw [show (0 : Int) = ((0 : Nat) : Int) from rfl, ref_Is_l0 (partsB s) 255 (by omega) (fun x hx => Nat.le_trans (partsB_size s x hx) h2) (partsB_no47 s) (by omega) (partsB s).length _ 0 (by omega) (by omega)]
        have b1 : (s.toList != []) = true := by simpa using h
        rw [List.drop_zero, b1, decide_eq_true h2, decide_eq_true (show (partsB s).length ≤ 16 by omega)]
        simp
      · refine Ev.step (f := fun _ => some false) (fun k => by rw [graftageref06_Is.j0, if_pos (by simp; omega)]) ?_
        simp only [show decide (s.size ≤ 255) = false by simp; omega, Bool.and_false, Bool.false_and]
        exact Ev.now _
end Go.Proofs.YtccbpbdfihnlgaaDoor.Q


/- Contracts of Go functions as calls of plain Lean functions, written by a program of this session over the kit's print. -/
namespace Go.Proofs.YtccbpbdfihnlgaaDoor.Q
open Go.RowKit Go.Proofs.YtccbpbdfihnlgaaDoorW.PrintWords Go.Proofs.YtccbpbdfihnlgaaDoorW.PrintLast Go.Proofs.YtccbpbdfihnlgaaDoorW.PrintMore
attribute [local go_sem] max2_int min2_int max_two min_two max_three min_three max_four min_four   -- for this text's walks alone

def ident_Raw.T7 : Bool × List (List Nat × List Nat) := (true, [([], []), ([], []), ([], []), ([], []), ([3], [3]), ([2, 4], [2, 4]), ([5], [5]), ([6], [6]), ([], []), ([], []), ([9], [9]), ([10], [10]), ([8, 11], [8, 11]), ([12, 6], [12]), ([7, 13], [7, 13]), ([14], [14]), ([0, 1, 0, 1, 2, 3, 4, 5, 6, 7, 8, 9, 10, 11, 12, 13, 14, 15], [0, 1]), ([16, 15, 13, 0, 1, 2, 3, 4, 5, 6, 7, 8, 9, 10, 11, 12, 13, 14, 15], [15, 16])])
def ident_Raw.B7 : List Nat := [0, 0, 0, 0, 8, 28, 60, 124, 0, 0, 512, 1536, 3840, 8060, 16380, 32764, 65535, 131071]
theorem ident_Raw.tab7 : rtab .any (opsOf Tryd.f49 7) = ident_Raw.T7 := by kernel_rfl
theorem ident_Raw.bits7 : waitsOk ident_Raw.T7.2 ident_Raw.B7 = true := by kernel_rfl
end Go.Proofs.YtccbpbdfihnlgaaDoor.Q


/- Laws of no program: copy, clear and an insert on rows whose elements have several cells. -/
namespace Go.Proofs.YtccbpbdfihnlgaaDoor.Q
open Go.RowKit Go.Lib Go.Proofs.YtccbpbdfihnlgaaDoorW.PrintWords Go.Proofs.YtccbpbdfihnlgaaDoorW.PrintLast Go.Proofs.YtccbpbdfihnlgaaDoorW.PrintMore
section
variable {P : Program}
end
section
variable {P : Program} {ops : Array Oper} {rest : List Oper} {o : Oper} {a : Act} {Q : Exit → Act → World → Prop} {α : Type}
end
section
variable {P : Program} {ops : Array Oper} {o : Oper} {a : Act} {Q : Exit → Act → World → Prop} {Kc : Act → World → Prop}
end
end Go.Proofs.YtccbpbdfihnlgaaDoor.Q


/- Contracts of Go functions as calls of plain Lean functions, written by a program of this session over the kit's print. -/
namespace Go.Proofs.YtccbpbdfihnlgaaDoor.Q
open Go.RowKit Go.Proofs.YtccbpbdfihnlgaaDoorW.PrintWords Go.Proofs.YtccbpbdfihnlgaaDoorW.PrintLast Go.Proofs.YtccbpbdfihnlgaaDoorW.PrintMore
attribute [local go_sem] max2_int min2_int max_two min_two max_three min_three max_four min_four   -- for this text's walks alone

end Go.Proofs.YtccbpbdfihnlgaaDoor.Q


/- Contracts of Go functions as calls of plain Lean functions, written by a program of this session over the kit's print. -/
namespace Go.Proofs.YtccbpbdfihnlgaaDoor.Q
open Go.RowKit Go.Proofs.YtccbpbdfihnlgaaDoorW.PrintWords Go.Proofs.YtccbpbdfihnlgaaDoorW.PrintLast Go.Proofs.YtccbpbdfihnlgaaDoorW.PrintMore
attribute [local go_sem] max2_int min2_int max_two min_two max_three min_three max_four min_four   -- for this text's walks alone

def graftageref02_Raw.T7 : Bool × List (List Nat × List Nat) := (true, [([], []), ([], []), ([], []), ([1, 2], [1, 2]), ([3], [3]), ([4], [4]), ([], []), ([], []), ([7], [7]), ([6, 8], [6, 8]), ([9, 4], [9]), ([5, 10], [5, 10]), ([11], [11]), ([12], [12]), ([0, 13, 10], [0, 13]), ([14, 14, 0, 1, 2, 3, 4, 5, 6, 7, 8, 9, 10, 11, 12, 13, 14], [0, 14])])
def graftageref02_Raw.B7 : List Nat := [0, 0, 0, 6, 14, 30, 0, 0, 128, 448, 990, 2046, 4094, 8190, 16383, 32767]
theorem graftageref02_Raw.tab7 : rtab .any (opsOf Tryd.f53 7) = graftageref02_Raw.T7 := by kernel_rfl
theorem graftageref02_Raw.bits7 : waitsOk graftageref02_Raw.T7.2 graftageref02_Raw.B7 = true := by kernel_rfl
end Go.Proofs.YtccbpbdfihnlgaaDoor.Q


/- Contracts of Go functions as calls of plain Lean functions, written by a program of this session over the kit's print. -/
namespace Go.Proofs.YtccbpbdfihnlgaaDoor.Q
open Go.RowKit Go.Proofs.YtccbpbdfihnlgaaDoorW.PrintWords Go.Proofs.YtccbpbdfihnlgaaDoorW.PrintLast Go.Proofs.YtccbpbdfihnlgaaDoorW.PrintMore
attribute [local go_sem] max2_int min2_int max_two min_two max_three min_three max_four min_four   -- for this text's walks alone

end Go.Proofs.YtccbpbdfihnlgaaDoor.Q


