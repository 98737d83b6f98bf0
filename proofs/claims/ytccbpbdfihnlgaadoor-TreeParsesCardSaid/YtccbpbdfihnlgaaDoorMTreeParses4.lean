/- The law TreeParses holds: for every input it returns true, and each argument reads afterwards as it read before. -/
import Derived.Test.YtccbpbdfihnlgaaDoorMYTreeParses1
import Derived.Test.YtccbpbdfihnlgaaDoorMTreeParses1
import Derived.Test.YtccbpbdfihnlgaaDoorMTreeParses2
import Derived.Test.YtccbpbdfihnlgaaDoorMTreeParses3
import Derived.Laws.Cover1
import Derived.Sort.Walk0
import Derived.Deep.Slices
import Derived.Lib.SmallJoins
import Derived.ChangeArms
import Derived.SizedLaws
import Derived.WalkKit
import Derived.ProofKit
import Derived.Test.YtccbpbdfihnlgaaDoorRows
import Derived.Test.YtccbpbdfihnlgaaDoorTie
import Derived.Test.YtccbpbdfihnlgaaDoorCards
import Derived.OpenShut
import Derived.ShutString
import Derived.ChangeOld
import Derived.Below
import Derived.Lay
import Derived.LaidOnce
import Derived.SevenTiedAt
import Derived.LaidLaws
import Derived.Handed
import Derived.ChangeVars
import Derived.JoinedOf
set_option linter.unusedVariables false
set_option linter.unusedSimpArgs false
/- Contracts of Go functions as calls of plain Lean functions, written by a program of this session over the kit's print. -/
namespace Go.Proofs.YtccbpbdfihnlgaaDoor.Q
open Go.RowKit Go.Proofs.YtccbpbdfihnlgaaDoorW.PrintWords Go.Proofs.YtccbpbdfihnlgaaDoorW.PrintLast Go.Proofs.YtccbpbdfihnlgaaDoorW.PrintMore
attribute [local go_sem] max2_int min2_int max_two min_two max_three min_three max_four min_four   -- for this text's walks alone

/-! ### graftagelaw15_TreeParses: function 4 -/
def graftagelaw15_TreeParses.f (k : Nat) (a0 : ByteArray) : Option (Bool) := if (a0.size : Int) > 3000 then ((graftagelaw15_lives.f k).bind fun t120 => (some t120)) else ((tree_Parse.f k a0).bind fun bt121 => ((graftageref15_Parse.f k a0).bind fun bt125 => ((graftageref15_Same.f k bt121.1 bt125.1).bind fun t129 => (if t129 = true then (if bt121.2 = bt125.2 then ((graftagelaw15_lives.f k).bind fun t130 => (some t130)) else (some false)) else (some false)))))
set_option maxHeartbeats 8000000 in
set_option maxRecDepth 100000 in
theorem graftagelaw15_TreeParses.calls (k : Nat) (a0 : ByteArray) (r : Bool) (w : World) (h : graftagelaw15_TreeParses.f k a0 = some r) :
    Calls Tryd.prog 4 #[.string a0] w fun e w' => e = .returned (.bool r) ∧ Below w.heap.size w w' := by
  have HB := Aside0.mk (Below.refl w.heap.size w)
  have H : (if (a0.size : Int) > 3000 then ((graftagelaw15_lives.f k).bind fun t120 => (some t120)) else ((tree_Parse.f k a0).bind fun bt121 => ((graftageref15_Parse.f k a0).bind fun bt125 => ((graftageref15_Same.f k bt121.1 bt125.1).bind fun t129 => (if t129 = true then (if bt121.2 = bt125.2 then ((graftagelaw15_lives.f k).bind fun t130 => (some t130)) else (some false)) else (some false)))))) = some r := h
  clear h
  by_cases c2 : (a0.size : Int) > 3000
  · rw [if_pos c2] at H
    have c2b0 : decide (3000 < (a0.size : Int)) = true := decide_eq_true c2
    have c2b1 : decide (3000 < a0.size) = true := decide_eq_true (by omega)
    clear c2
    replace H := Option.bind_eq_some_iff.mp H
    obtain ⟨t120, A30, H⟩ := H
    replace H : (some t120) = some r := H
    have A3 := Aside0.mk A30
    clear A30
    obtain rfl := Option.some.inj H
    go_enter Tryd.func4, Tryd.ntmps4
    go_wp2_with (first | ((with_reducible refine gate_callee (f := 15) rfl ?_); refine goesL_ (some 10) rfl rfl Tryd.func15 (by kernel_rfl) rfl #[] rfl (by (try simp only [List.map_toArray, List.map_cons, List.map_nil]); first | done | rfl | (simp only [List.length_drop, List.length_take]; rfl)) ?_; (with_reducible refine (graftagelaw15_lives.calls k  t120 _ A3.out).mono ?_); rintro e w4 ⟨rfl, hb⟩; refine ⟨_, rfl, ?_⟩; have n0_ := Aside0.mk (below_step (by repeat (first | (with_reducible first | exact HB.out | apply below_alloc | apply pw_below_drewN | apply below_drew1) | exact HB.out)) hb); clear HB; have HB := n0_; clear n0_; (try clear hb); (try clear hb2); (try clear hk); (try clear hi)))
    go_ret
    exact ⟨by first | rfl | (simp [errW_none, errW_some] <;> rfl) | (simp [*, errW_none, errW_some] <;> rfl) | (simp [ne_nil_bool]; done) | (simp [*, ne_nil_bool]; done), by repeat (first | (with_reducible first | exact HB.out | apply below_alloc | apply pw_below_drewN | apply below_drew1) | exact HB.out)⟩
  · rw [if_neg c2] at H
    have c2b0 : decide (3000 < (a0.size : Int)) = false := decide_eq_false c2
    have c2b1 : decide (3000 < a0.size) = false := decide_eq_false (by omega)
    clear c2
    replace H := Option.bind_eq_some_iff.mp H
    obtain ⟨⟨t121, t122⟩, A50, H⟩ := H
    replace H : ((graftageref15_Parse.f k a0).bind fun bt125 => ((graftageref15_Same.f k t121 bt125.1).bind fun t129 => (if t129 = true then (if t122 = bt125.2 then ((graftagelaw15_lives.f k).bind fun t130 => (some t130)) else (some false)) else (some false)))) = some r := H
    have A5 := Aside0.mk A50
    clear A50
    replace H := Option.bind_eq_some_iff.mp H
    obtain ⟨⟨t125, t126⟩, A60, H⟩ := H
    replace H : ((graftageref15_Same.f k t121 t125).bind fun t129 => (if t129 = true then (if t122 = t126 then ((graftagelaw15_lives.f k).bind fun t130 => (some t130)) else (some false)) else (some false))) = some r := H
    have A6 := Aside0.mk A60
    clear A60
    replace H := Option.bind_eq_some_iff.mp H
    obtain ⟨t129, A70, H⟩ := H
    replace H : (if t129 = true then (if t122 = t126 then ((graftagelaw15_lives.f k).bind fun t130 => (some t130)) else (some false)) else (some false)) = some r := H
    have A7 := Aside0.mk A70
    clear A70
    by_cases c8 : t129 = true
    · subst c8
      have H1 : (if t122 = t126 then ((graftagelaw15_lives.f k).bind fun t130 => (some t130)) else (some false)) = some r := by rw [if_pos rfl] at H; exact H
      clear H
      have H := H1
      clear H1
      by_cases c9 : t122 = t126
      · rw [if_pos c9] at H
        have c9b0 : (t122 == t126) = true := beq_iff_eq.mpr c9
        have c9b1 : (t122 != t126) = false := bne_eq_false_iff_eq.mpr c9
        clear c9
        replace H := Option.bind_eq_some_iff.mp H
        obtain ⟨t130, A100, H⟩ := H
        replace H : (some t130) = some r := H
        have A10 := Aside0.mk A100
        clear A100
        obtain rfl := Option.some.inj H
        go_enter Tryd.func4, Tryd.ntmps4
        go_wp2_with (first | ((with_reducible refine gate_callee (f := 20) rfl ?_); refine goesL_ (some 13) rfl rfl Tryd.func20 (by kernel_rfl) rfl #[.string a0] rfl (by (try simp only [List.map_toArray, List.map_cons, List.map_nil]); first | done | rfl | (simp only [List.length_drop, List.length_take]; rfl)) ?_; (with_reducible refine (tree_Parse.calls k a0 t121 t122 _ A5.out).mono ?_); rintro e w11 ⟨v123, rfl, ho0, hb⟩; refine ⟨_, rfl, ?_⟩; have n0_ := Aside0.mk (Kd.R_lower ho0 (below_size (by repeat (first | (with_reducible first | exact HB.out | apply below_alloc | apply pw_below_drewN | apply below_drew1) | exact HB.out)))); have n1_ := Aside0.mk (below_step (by repeat (first | (with_reducible first | exact HB.out | apply below_alloc | apply pw_below_drewN | apply below_drew1) | exact HB.out)) hb); clear HB; have HO124 := n0_; have HB := n1_; clear n0_ n1_; (try clear hb); (try clear hb2); (try clear hk); (try clear hi); (try clear ho0)) | ((with_reducible refine gate_callee (f := 21) rfl ?_); refine goesL_ (some 18) rfl rfl Tryd.func21 (by kernel_rfl) rfl #[.string a0] rfl (by (try simp only [List.map_toArray, List.map_cons, List.map_nil]); first | done | rfl | (simp only [List.length_drop, List.length_take]; rfl)) ?_; (with_reducible refine (graftageref15_Parse.calls k a0 t125 t126 _ A6.out).mono ?_); rintro e w12 ⟨v127, rfl, ho0, hb⟩; refine ⟨_, rfl, ?_⟩; have n0_ := Aside0.mk (Kd.R_elder' (by (with_reducible repeat (first | apply Kd.R_alloc | apply Kd.R_drewN | apply Kd.R_drew)); exact HO124.out) (Kd.R_base ho0) hb); have n1_ := Aside0.mk (Kd.R_lower (Kd.R_new' ho0 (Kd.R_lt (by (with_reducible repeat (first | apply Kd.R_alloc | apply Kd.R_drewN | apply Kd.R_drew)); exact HO124.out))) (below_size (by repeat (first | (with_reducible first | exact HB.out | apply below_alloc | apply pw_below_drewN | apply below_drew1) | exact HB.out)))); have n2_ := Aside0.mk (below_step (by repeat (first | (with_reducible first | exact HB.out | apply below_alloc | apply pw_below_drewN | apply below_drew1) | exact HB.out)) hb); clear HO124; clear HB; have HO124 := n0_; have HO128 := n1_; have HB := n2_; clear n0_ n1_ n2_; (try clear hb); (try clear hb2); (try clear hk); (try clear hi); (try clear ho0); obtain ⟨Ao13, co13, eo13⟩ := Kd.R_slice HO124.out; subst eo13; obtain ⟨Ao14, co14, eo14⟩ := Kd.R_slice HO128.out; subst eo14) | ((with_reducible refine gate_callee (f := 22) rfl ?_); refine goesL_ (some 23) rfl rfl Tryd.func22 (by kernel_rfl) rfl #[.slice Ao13 t121.length co13, .slice Ao14 t125.length co14] rfl (by (try simp only [List.map_toArray, List.map_cons, List.map_nil]); first | done | rfl | (simp only [List.length_drop, List.length_take]; rfl)) ?_; (with_reducible refine (graftageref15_Same.calls k _ _ t121 _ _ t125 true _ ?side1 ?side2 ?side3 ?side4 A7.out).mono ?_); (case side1 => repeat (first | exact (Kd.R_reads' HO124.out).2.2 | (with_reducible refine Kd.C_alloc ?_ _) | (with_reducible refine Kd.C_drewN ?_ _) | (with_reducible refine Kd.C_drew ?_))); (case side2 => exact (Kd.R_reads' HO124.out).2.1); (case side3 => repeat (first | exact (Kd.R_reads' HO128.out).2.2 | (with_reducible refine Kd.C_alloc ?_ _) | (with_reducible refine Kd.C_drewN ?_ _) | (with_reducible refine Kd.C_drew ?_))); (case side4 => exact (Kd.R_reads' HO128.out).2.1); rintro e w' ⟨rfl, ⟨nd, rfl⟩⟩; refine ⟨_, rfl, ?_⟩) | (go_at_call 15; (with_reducible refine (graftagelaw15_lives.calls k  t130 _ A10.out).mono ?_); rintro e w15 ⟨rfl, hb⟩; have n0_ := Aside0.mk (Kd.R_below (by (with_reducible repeat (first | apply Kd.R_alloc | apply Kd.R_drewN | apply Kd.R_drew)); exact HO124.out) hb); have n1_ := Aside0.mk (Kd.R_below (by (with_reducible repeat (first | apply Kd.R_alloc | apply Kd.R_drewN | apply Kd.R_drew)); exact HO128.out) hb); have n2_ := Aside0.mk (below_step (by repeat (first | (with_reducible first | exact HB.out | apply below_alloc | apply pw_below_drewN | apply below_drew1) | exact HB.out)) hb); clear HO124; clear HO128; clear HB; have HO124 := n0_; have HO128 := n1_; have HB := n2_; clear n0_ n1_ n2_; (try clear hb); (try clear hb2); (try clear hk); (try clear hi)))
        go_ret
        exact ⟨by first | rfl | (simp [errW_none, errW_some] <;> rfl) | (simp [*, errW_none, errW_some] <;> rfl) | (simp [ne_nil_bool]; done) | (simp [*, ne_nil_bool]; done), by repeat (first | (with_reducible first | exact HB.out | apply below_alloc | apply pw_below_drewN | apply below_drew1) | exact HB.out)⟩
      · rw [if_neg c9] at H
        have c9b0 : (t122 == t126) = false := beq_eq_false_iff_ne.mpr c9
        have c9b1 : (t122 != t126) = true := bne_iff_ne.mpr c9
        obtain rfl := Option.some.inj H
        go_enter Tryd.func4, Tryd.ntmps4
        go_wp2_with (first | ((with_reducible refine gate_callee (f := 20) rfl ?_); refine goesL_ (some 13) rfl rfl Tryd.func20 (by kernel_rfl) rfl #[.string a0] rfl (by (try simp only [List.map_toArray, List.map_cons, List.map_nil]); first | done | rfl | (simp only [List.length_drop, List.length_take]; rfl)) ?_; (with_reducible refine (tree_Parse.calls k a0 t121 t122 _ A5.out).mono ?_); rintro e w16 ⟨v123, rfl, ho0, hb⟩; refine ⟨_, rfl, ?_⟩; have n0_ := Aside0.mk (Kd.R_lower ho0 (below_size (by repeat (first | (with_reducible first | exact HB.out | apply below_alloc | apply pw_below_drewN | apply below_drew1) | exact HB.out)))); have n1_ := Aside0.mk (below_step (by repeat (first | (with_reducible first | exact HB.out | apply below_alloc | apply pw_below_drewN | apply below_drew1) | exact HB.out)) hb); clear HB; have HO124 := n0_; have HB := n1_; clear n0_ n1_; (try clear hb); (try clear hb2); (try clear hk); (try clear hi); (try clear ho0)) | ((with_reducible refine gate_callee (f := 21) rfl ?_); refine goesL_ (some 18) rfl rfl Tryd.func21 (by kernel_rfl) rfl #[.string a0] rfl (by (try simp only [List.map_toArray, List.map_cons, List.map_nil]); first | done | rfl | (simp only [List.length_drop, List.length_take]; rfl)) ?_; (with_reducible refine (graftageref15_Parse.calls k a0 t125 t126 _ A6.out).mono ?_); rintro e w17 ⟨v127, rfl, ho0, hb⟩; refine ⟨_, rfl, ?_⟩; have n0_ := Aside0.mk (Kd.R_elder' (by (with_reducible repeat (first | apply Kd.R_alloc | apply Kd.R_drewN | apply Kd.R_drew)); exact HO124.out) (Kd.R_base ho0) hb); have n1_ := Aside0.mk (Kd.R_lower (Kd.R_new' ho0 (Kd.R_lt (by (with_reducible repeat (first | apply Kd.R_alloc | apply Kd.R_drewN | apply Kd.R_drew)); exact HO124.out))) (below_size (by repeat (first | (with_reducible first | exact HB.out | apply below_alloc | apply pw_below_drewN | apply below_drew1) | exact HB.out)))); have n2_ := Aside0.mk (below_step (by repeat (first | (with_reducible first | exact HB.out | apply below_alloc | apply pw_below_drewN | apply below_drew1) | exact HB.out)) hb); clear HO124; clear HB; have HO124 := n0_; have HO128 := n1_; have HB := n2_; clear n0_ n1_ n2_; (try clear hb); (try clear hb2); (try clear hk); (try clear hi); (try clear ho0); obtain ⟨Ao18, co18, eo18⟩ := Kd.R_slice HO124.out; subst eo18; obtain ⟨Ao19, co19, eo19⟩ := Kd.R_slice HO128.out; subst eo19) | ((with_reducible refine gate_callee (f := 22) rfl ?_); refine goesL_ (some 23) rfl rfl Tryd.func22 (by kernel_rfl) rfl #[.slice Ao18 t121.length co18, .slice Ao19 t125.length co19] rfl (by (try simp only [List.map_toArray, List.map_cons, List.map_nil]); first | done | rfl | (simp only [List.length_drop, List.length_take]; rfl)) ?_; (with_reducible refine (graftageref15_Same.calls k _ _ t121 _ _ t125 true _ ?side1 ?side2 ?side3 ?side4 A7.out).mono ?_); (case side1 => repeat (first | exact (Kd.R_reads' HO124.out).2.2 | (with_reducible refine Kd.C_alloc ?_ _) | (with_reducible refine Kd.C_drewN ?_ _) | (with_reducible refine Kd.C_drew ?_))); (case side2 => exact (Kd.R_reads' HO124.out).2.1); (case side3 => repeat (first | exact (Kd.R_reads' HO128.out).2.2 | (with_reducible refine Kd.C_alloc ?_ _) | (with_reducible refine Kd.C_drewN ?_ _) | (with_reducible refine Kd.C_drew ?_))); (case side4 => exact (Kd.R_reads' HO128.out).2.1); rintro e w' ⟨rfl, ⟨nd, rfl⟩⟩; refine ⟨_, rfl, ?_⟩))
        go_ret
        exact ⟨by first | rfl | (simp [errW_none, errW_some] <;> rfl) | (simp [*, errW_none, errW_some] <;> rfl) | (simp [ne_nil_bool]; done) | (simp [*, ne_nil_bool]; done), by repeat (first | (with_reducible first | exact HB.out | apply below_alloc | apply pw_below_drewN | apply below_drew1) | exact HB.out)⟩
    · replace c8 := Bool.eq_false_iff.mpr c8
      subst c8
      have H1 : (some false) = some r := by rw [if_neg (show ¬ (false = true) by decide)] at H; exact H
      clear H
      have H := H1
      clear H1
      obtain rfl := Option.some.inj H
      go_enter Tryd.func4, Tryd.ntmps4
      go_wp2_with (first | ((with_reducible refine gate_callee (f := 20) rfl ?_); refine goesL_ (some 13) rfl rfl Tryd.func20 (by kernel_rfl) rfl #[.string a0] rfl (by (try simp only [List.map_toArray, List.map_cons, List.map_nil]); first | done | rfl | (simp only [List.length_drop, List.length_take]; rfl)) ?_; (with_reducible refine (tree_Parse.calls k a0 t121 t122 _ A5.out).mono ?_); rintro e w20 ⟨v123, rfl, ho0, hb⟩; refine ⟨_, rfl, ?_⟩; have n0_ := Aside0.mk (Kd.R_lower ho0 (below_size (by repeat (first | (with_reducible first | exact HB.out | apply below_alloc | apply pw_below_drewN | apply below_drew1) | exact HB.out)))); have n1_ := Aside0.mk (below_step (by repeat (first | (with_reducible first | exact HB.out | apply below_alloc | apply pw_below_drewN | apply below_drew1) | exact HB.out)) hb); clear HB; have HO124 := n0_; have HB := n1_; clear n0_ n1_; (try clear hb); (try clear hb2); (try clear hk); (try clear hi); (try clear ho0)) | ((with_reducible refine gate_callee (f := 21) rfl ?_); refine goesL_ (some 18) rfl rfl Tryd.func21 (by kernel_rfl) rfl #[.string a0] rfl (by (try simp only [List.map_toArray, List.map_cons, List.map_nil]); first | done | rfl | (simp only [List.length_drop, List.length_take]; rfl)) ?_; (with_reducible refine (graftageref15_Parse.calls k a0 t125 t126 _ A6.out).mono ?_); rintro e w21 ⟨v127, rfl, ho0, hb⟩; refine ⟨_, rfl, ?_⟩; have n0_ := Aside0.mk (Kd.R_elder' (by (with_reducible repeat (first | apply Kd.R_alloc | apply Kd.R_drewN | apply Kd.R_drew)); exact HO124.out) (Kd.R_base ho0) hb); have n1_ := Aside0.mk (Kd.R_lower (Kd.R_new' ho0 (Kd.R_lt (by (with_reducible repeat (first | apply Kd.R_alloc | apply Kd.R_drewN | apply Kd.R_drew)); exact HO124.out))) (below_size (by repeat (first | (with_reducible first | exact HB.out | apply below_alloc | apply pw_below_drewN | apply below_drew1) | exact HB.out)))); have n2_ := Aside0.mk (below_step (by repeat (first | (with_reducible first | exact HB.out | apply below_alloc | apply pw_below_drewN | apply below_drew1) | exact HB.out)) hb); clear HO124; clear HB; have HO124 := n0_; have HO128 := n1_; have HB := n2_; clear n0_ n1_ n2_; (try clear hb); (try clear hb2); (try clear hk); (try clear hi); (try clear ho0); obtain ⟨Ao22, co22, eo22⟩ := Kd.R_slice HO124.out; subst eo22; obtain ⟨Ao23, co23, eo23⟩ := Kd.R_slice HO128.out; subst eo23) | ((with_reducible refine gate_callee (f := 22) rfl ?_); refine goesL_ (some 23) rfl rfl Tryd.func22 (by kernel_rfl) rfl #[.slice Ao22 t121.length co22, .slice Ao23 t125.length co23] rfl (by (try simp only [List.map_toArray, List.map_cons, List.map_nil]); first | done | rfl | (simp only [List.length_drop, List.length_take]; rfl)) ?_; (with_reducible refine (graftageref15_Same.calls k _ _ t121 _ _ t125 false _ ?side1 ?side2 ?side3 ?side4 A7.out).mono ?_); (case side1 => repeat (first | exact (Kd.R_reads' HO124.out).2.2 | (with_reducible refine Kd.C_alloc ?_ _) | (with_reducible refine Kd.C_drewN ?_ _) | (with_reducible refine Kd.C_drew ?_))); (case side2 => exact (Kd.R_reads' HO124.out).2.1); (case side3 => repeat (first | exact (Kd.R_reads' HO128.out).2.2 | (with_reducible refine Kd.C_alloc ?_ _) | (with_reducible refine Kd.C_drewN ?_ _) | (with_reducible refine Kd.C_drew ?_))); (case side4 => exact (Kd.R_reads' HO128.out).2.1); rintro e w' ⟨rfl, ⟨nd, rfl⟩⟩; refine ⟨_, rfl, ?_⟩))
      go_ret
      exact ⟨by first | rfl | (simp [errW_none, errW_some] <;> rfl) | (simp [*, errW_none, errW_some] <;> rfl) | (simp [ne_nil_bool]; done) | (simp [*, ne_nil_bool]; done), by repeat (first | (with_reducible first | exact HB.out | apply below_alloc | apply pw_below_drewN | apply below_drew1) | exact HB.out)⟩

end Go.Proofs.YtccbpbdfihnlgaaDoor.Q


/- Contracts of Go functions as calls of plain Lean functions, written by a program of this session over the kit's print. -/
namespace Go.Proofs.YtccbpbdfihnlgaaDoor.Q
open Go.RowKit Go.Proofs.YtccbpbdfihnlgaaDoorW.PrintWords Go.Proofs.YtccbpbdfihnlgaaDoorW.PrintLast Go.Proofs.YtccbpbdfihnlgaaDoorW.PrintMore
attribute [local go_sem] max2_int min2_int max_two min_two max_three min_three max_four min_four   -- for this text's walks alone

end Go.Proofs.YtccbpbdfihnlgaaDoor.Q


/- Paths: the parts between slashes, and what is a path; the program's and the reference's. -/
namespace Go.Proofs.YtccbpbdfihnlgaaDoor.Q
open Go.RowKit Go.Proofs.YtccbpbdfihnlgaaDoorW.PrintWords Go.Proofs.YtccbpbdfihnlgaaDoorW.PrintLast Go.Proofs.YtccbpbdfihnlgaaDoorW.PrintMore

theorem wrap_id {x : Int} (h0 : -9223372036854775808 ≤ x) (h1 : x ≤ 9223372036854775807) : wrap64 x = x := by unfold wrap64; omega
theorem rd_ext (l : List ByteArray) (i : Nat) (h : i < l.length) : rdOf ByteArray.empty l i = l[i] := by
  simp [rdOf, List.getD, List.getElem?_eq_getElem h]
theorem ba_ext {a b : ByteArray} (h : a.data.toList = b.data.toList) : a = b := by
  cases a; cases b; simp at h; simp [h]
/-! ### Parts -/
def consH (b : UInt8) : List (List UInt8) → List (List UInt8)
  | [] => [[b]]
  | h :: t => (b :: h) :: t
def partsL : List UInt8 → List (List UInt8)
  | [] => [[]]
  | b :: r => if b = 47 then [] :: partsL r else consH b (partsL r)
theorem partsL_ne (l : List UInt8) : partsL l ≠ [] := by
  cases l with
  | nil => simp [partsL]
  | cons b r =>
    unfold partsL
    split
    · simp
    · cases partsL r <;> simp [consH]
theorem index_cons_ne (b c : UInt8) (l : List UInt8) (h : b ≠ c) : Lib.index (b :: l) [c] = if Lib.index l [c] == -1 then -1 else Lib.index l [c] + 1 := by
  have hp : ([c] : List UInt8).isPrefixOf (b :: l) = false := by simp [List.isPrefixOf, Ne.symm h]
  rw [Lib.index, hp]; simp
theorem splitK_cons (b : UInt8) (hb : b ≠ 47) : ∀ (n : Nat) (r : List UInt8), Lib.splitK [47] 0 n (b :: r) = consH b (Lib.splitK [47] 0 n r) := by
  intro n r
  cases n with
  | zero => rfl
  | succ n =>
    have hix := index_cons_ne b 47 r hb
    by_cases hm : Lib.index r [47] = -1
    · rw [if_pos (beq_iff_eq.2 hm)] at hix
      rw [Lib.splitK, if_pos (beq_iff_eq.2 hix), Lib.splitK, if_pos (beq_iff_eq.2 hm)]
      rfl
    · have hge := Lib.index_ge r [47]
      obtain ⟨j, hj⟩ : ∃ j : Nat, Lib.index r [47] = j := ⟨(Lib.index r [47]).toNat, by omega⟩
      rw [if_neg (fun e => hm (beq_iff_eq.1 e)), hj] at hix
      rw [Lib.splitK, if_neg (fun e => by have := beq_iff_eq.1 e; omega), Lib.splitK, if_neg (fun e => hm (beq_iff_eq.1 e)), hix, hj]
      rw [show ((j : Int) + 1).toNat = j + 1 by omega, show ((j : Int)).toNat = j by omega]
      simp [consH]
theorem splitK_parts : ∀ l : List UInt8, Lib.splitK [47] 0 (Lib.count l [47]) l = partsL l
  | [] => by rw [Lib.count_miss (by simp [Lib.index])]; rfl
  | b :: r => by
    by_cases h : b = 47
    · subst h
      have hix : Lib.index (47 :: r) [47] = ((0 : Nat) : Int) := by rw [Lib.index]; simp [List.isPrefixOf]
      rw [Lib.count_cons_eq, Nat.add_comm, Lib.splitK, if_neg (by rw [hix]; decide), hix]
      simp [partsL, splitK_parts r]
    · rw [Lib.count_cons_ne b 47 r h, splitK_cons b h, splitK_parts r, partsL, if_neg h]
theorem partsL_no47 : ∀ (l : List UInt8) (p : List UInt8), p ∈ partsL l → (47 : UInt8) ∉ p
  | [], p, hp => by simp [partsL] at hp; subst hp; simp
  | b :: r, p, hp => by
    unfold partsL at hp
    split at hp
    · rcases List.mem_cons.1 hp with rfl | hp
      · simp
      · exact partsL_no47 r p hp
    · rename_i hb
      have ih := partsL_no47 r
      cases hq : partsL r with
      | nil => exact absurd hq (partsL_ne r)
      | cons h t =>
        rw [hq] at hp ih
        rcases List.mem_cons.1 hp with rfl | hp
        · have := ih h List.mem_cons_self
          intro hm
          rcases List.mem_cons.1 hm with e | hm
          · exact hb e.symm
          · exact this hm
        · exact ih p (List.mem_cons_of_mem _ hp)
theorem partsL_length_le : ∀ l : List UInt8, (partsL l).length ≤ l.length + 1
  | [] => by simp [partsL]
  | b :: r => by
    have := partsL_length_le r
    unfold partsL
    split
    · simp; omega
    · cases hq : partsL r with
      | nil => simp [consH]
      | cons h t => rw [hq] at this; simp [consH] at this ⊢; omega

def partsB (s : ByteArray) : List ByteArray := (partsL s.data.toList).map (fun x => ⟨x.toArray⟩)
theorem map_data_inj {l l' : List ByteArray} (h : l.map (·.data.toList) = l'.map (·.data.toList)) : l = l' := by
  induction l generalizing l' with
  | nil => cases l' with
           | nil => rfl
           | cons _ _ => simp at h
  | cons x r ih =>
    cases l' with
    | nil => simp at h
    | cons y r' =>
      simp only [List.map_cons, List.cons.injEq] at h
      rw [ba_ext h.1, ih h.2]
theorem partsB_data (s : ByteArray) : (partsB s).map (·.data.toList) = partsL s.data.toList := by
  simp [partsB, Function.comp_def]
theorem split_parts (s : ByteArray) : Lib.splitB ⟨#[47]⟩ 0 (Lib.countB s ⟨#[47]⟩) s = partsB s := by
  apply map_data_inj
  rw [Lib.splitB_data, partsB_data]
  exact splitK_parts s.data.toList

def cutsF : Nat → ByteArray → Nat → Nat → List ByteArray
  | 0, s, fr, _ => [s.extract fr s.size]
  | d + 1, s, fr, i => if bt s i = 47 then s.extract fr i :: cutsF d s (i + 1) (i + 1) else cutsF d s fr (i + 1)
theorem bt_get (s : ByteArray) (i : Nat) (h : i < s.size) : bt s i = ((s.data.toList[i]'(by rw [← Lib.size_eq]; exact h)).toNat : Int) := by
  unfold bt
  simp only [Int.toNat_natCast]
  rw [dif_pos h]
  rfl
def preH (a : List UInt8) : List (List UInt8) → List (List UInt8)
  | [] => []
  | h :: t => (a ++ h) :: t
theorem cutsF_data (s : ByteArray) : ∀ (d fr i : Nat), i + d = s.size → fr ≤ i → (cutsF d s fr i).map (·.data.toList) = preH ((s.data.toList.drop fr).take (i - fr)) (partsL (s.data.toList.drop i)) := by
  intro d
  induction d with
  | zero =>
    intro fr i hi hf
    have hsz := Lib.size_eq s
    rw [List.drop_of_length_le (l := s.data.toList) (i := i) (by omega)]
    simp only [cutsF, List.map_cons, List.map_nil, partsL, preH, List.append_nil]
    rw [Lib.extract_to_end, List.take_of_length_le (by rw [List.length_drop]; omega)]
  | succ d ih =>
    intro fr i hi hf
    have hsz := Lib.size_eq s
    have hlt : i < s.data.toList.length := by omega
    rw [List.drop_eq_getElem_cons hlt]
    have hb := bt_get s i (by omega)
    have htk : (s.data.toList.drop fr).take (i + 1 - fr) = (s.data.toList.drop fr).take (i - fr) ++ [s.data.toList[i]] := by
      rw [show i + 1 - fr = (i - fr) + 1 by omega, List.take_succ_eq_append_getElem (by rw [List.length_drop]; omega)]
      simp [show fr + (i - fr) = i by omega]
    by_cases h : bt s i = 47
    · have h47 : s.data.toList[i] = 47 := by
        apply UInt8.toNat_inj.1
        rw [hb] at h
        show _ = 47
        omega
      rw [cutsF, if_pos h, h47, partsL, if_pos rfl]
      simp only [List.map_cons, preH, List.append_nil]
      rw [ih (i + 1) (i + 1) (by omega) (Nat.le_refl _), Lib.extract_data]
      have hne := partsL_ne (s.data.toList.drop (i + 1))
      cases hq : partsL (s.data.toList.drop (i + 1)) with
      | nil => exact absurd hq hne
      | cons a t => simp [preH]
    · have h47 : ¬ s.data.toList[i] = 47 := by
        intro e
        rw [hb, e] at h
        exact h rfl
      rw [cutsF, if_neg h, partsL, if_neg h47, ih fr (i + 1) (by omega) (by omega), htk]
      have hne := partsL_ne (s.data.toList.drop (i + 1))
      cases hq : partsL (s.data.toList.drop (i + 1)) with
      | nil => exact absurd hq hne
      | cons a t => simp [preH, consH]
theorem cutsF_parts (s : ByteArray) : cutsF s.size s 0 0 = partsB s := by
  apply map_data_inj
  rw [cutsF_data s s.size 0 0 (by omega) (Nat.le_refl _), partsB_data]
  have hne := partsL_ne s.data.toList
  cases hq : partsL s.data.toList with
  | nil => exact absurd hq hne
  | cons a t => simp [preH, hq]
theorem ref_Parts_l0 (s : ByteArray) (hs : s.size ≤ 4294967280) : ∀ (d k i fr : Nat) (acc : List ByteArray), i + d = s.size → fr ≤ i → acc.length ≤ i → d < k →
    graftageref06_Parts.l0 k s acc fr i = some (acc ++ cutsF d s fr i) := by
  intro d
  induction d with
  | zero =>
    intro k i fr acc hi hf ha hk
    obtain ⟨k, rfl⟩ : ∃ m, k = m + 1 := ⟨k - 1, by omega⟩
    simp only [graftageref06_Parts.l0]
    rw [if_neg (by omega), if_pos (by omega), if_pos (by omega), if_pos (by omega)]
    simp [cutsF]
  | succ d ih =>
    intro k i fr acc hi hf ha hk
    obtain ⟨k, rfl⟩ : ∃ m, k = m + 1 := ⟨k - 1, by omega⟩
    simp only [graftageref06_Parts.l0]
    rw [if_pos (by omega), if_pos (by omega), wrap_id (by omega) (by omega)]
    by_cases h : bt s i = 47
    · rw [if_pos h, if_pos (by omega), if_pos (by omega), if_pos (by omega), if_pos (by omega)]
      have := ih k (i + 1) (i + 1) (acc ++ [s.extract fr i]) (by omega) (Nat.le_refl _) (by simp; omega) (by omega)
      rw [cutsF, if_pos h]
      simpa using this
    · rw [if_neg h]
      have := ih k (i + 1) fr acc (by omega) (by omega) (by omega) (by omega)
      rw [cutsF, if_neg h]
      simpa using this
def pathParts (s : ByteArray) : List ByteArray := if s.toList = [] then [] else partsB s
theorem ref_Parts_ev (s : ByteArray) (hs : s.size ≤ 4294967280) : Ev (fun k => graftageref06_Parts.f k s) (pathParts s) := by
  unfold graftageref06_Parts.f pathParts
  by_cases h : s.toList = []
  · simp only [if_pos h]
    exact Ev.now _
  · simp only [if_neg h]
    refine Ev.of (g := fun k => graftageref06_Parts.l0 k s [] 0 0) (fun k => graftageref06_Parts.mono_l k _ _ _ _) (k := s.size + 1) ?_
    have := ref_Parts_l0 s hs s.size (s.size + 1) 0 0 [] (by omega) (Nat.le_refl _) (by simp) (by omega)
    rw [cutsF_parts] at this
    simpa using this
theorem split_eq (s : ByteArray) (hs : s.size ≤ 4294967280) : strings_Split.f s ⟨#[47]⟩ = some (partsB s) := by
  unfold strings_Split.f
  rw [if_pos ⟨rfl, by omega⟩, split_parts]
/-! ### part, Is, Same -/
/-- A path's part, as far as both texts ask alike. -/
def partOK (s : ByteArray) : Bool := decide (1 ≤ s.size) && decide (s.size ≤ 64) && (s.toList != [46]) && (s.toList != [46, 46]) && (s.toList != [46, 103, 114, 97, 102, 116]) && s.data.toList.all (fun b => decide (32 ≤ b.toNat))
theorem all_drop (p : UInt8 → Bool) (l : List UInt8) (i : Nat) (h : i < l.length) : (l.drop i).all p = (p l[i] && (l.drop (i + 1)).all p) := by
  rw [List.drop_eq_getElem_cons h, List.all_cons]
theorem path_part_l0 (s : ByteArray) (hs : s.size ≤ 140737488351232) : ∀ (d k i : Nat), i + d = s.size → d < k → path_part.l0 k s s.size i = some ((s.data.toList.drop i).all (fun b => decide (32 ≤ b.toNat))) := by
  intro d
  induction d with
  | zero =>
    intro k i hi hk
    obtain ⟨k, rfl⟩ : ∃ m, k = m + 1 := ⟨k - 1, by omega⟩
    have hsz := Lib.size_eq s
    simp only [path_part.l0]
    rw [if_neg (by omega), List.drop_of_length_le (by omega)]
    rfl
  | succ d ih =>
    intro k i hi hk
    obtain ⟨k, rfl⟩ : ∃ m, k = m + 1 := ⟨k - 1, by omega⟩
    have hsz := Lib.size_eq s
    have := ih k (i + 1) (by omega) (by omega)
    simp only [path_part.l0]
    rw [if_pos (by omega), if_pos (by omega), if_pos (by omega), wrap_id (by omega) (by omega), all_drop _ _ i (by omega), bt_get s i (by omega)]
    by_cases h : (s.data.toList[i]'(by omega)).toNat < 32
    · rw [if_pos (by omega), decide_eq_false (show ¬ 32 ≤ (s.data.toList[i]'(by omega)).toNat by omega)]
      rfl
    · rw [if_neg (by omega), decide_eq_true (show 32 ≤ (s.data.toList[i]'(by omega)).toNat by omega), Bool.true_and]
      exact_mod_cast this
theorem ref_part_l0 (s : ByteArray) (hs : s.size ≤ 140737488351232) (h47 : (47 : UInt8) ∉ s.data.toList) : ∀ (d k i : Nat), i + d = s.size → d < k → graftageref06_part.l0 k s i = some ((s.data.toList.drop i).all (fun b => decide (32 ≤ b.toNat))) := by
  intro d
  induction d with
  | zero =>
    intro k i hi hk
    obtain ⟨k, rfl⟩ : ∃ m, k = m + 1 := ⟨k - 1, by omega⟩
    have hsz := Lib.size_eq s
    simp only [graftageref06_part.l0]
    rw [if_neg (by omega), List.drop_of_length_le (by omega)]
    rfl
  | succ d ih =>
    intro k i hi hk
    obtain ⟨k, rfl⟩ : ∃ m, k = m + 1 := ⟨k - 1, by omega⟩
    have hsz := Lib.size_eq s
    have := ih k (i + 1) (by omega) (by omega)
    have hne : ¬ (bt s i = 47) := by
      rw [bt_get s i (by omega)]
      intro e
      apply h47
      have : s.data.toList[i]'(by omega) = 47 := by
        apply UInt8.toNat_inj.1
        show _ = 47
        omega
      rw [← this]
      exact List.getElem_mem _
    simp only [graftageref06_part.l0]
    rw [if_pos (by omega), if_pos (by omega), if_neg hne, wrap_id (by omega) (by omega), all_drop _ _ i (by omega), bt_get s i (by omega)]
    by_cases h : (s.data.toList[i]'(by omega)).toNat < 32
    · rw [if_pos (by omega), decide_eq_false (show ¬ 32 ≤ (s.data.toList[i]'(by omega)).toNat by omega)]
      rfl
    · rw [if_neg (by omega), decide_eq_true (show 32 ≤ (s.data.toList[i]'(by omega)).toNat by omega), Bool.true_and]
      exact_mod_cast this
theorem path_part_eq (s : ByteArray) (hs : s.size ≤ 140737488351232) (k : Nat) (hk : s.size + 1 < k) : path_part.f k s = some (partOK s) := by
  obtain ⟨k, rfl⟩ : ∃ m, k = m + 1 := ⟨k - 1, by omega⟩
  have hl := path_part_l0 s hs s.size k 0 (by omega) (by omega)
  unfold path_part.f partOK
  by_cases h1 : s.size < 1
  · rw [if_pos (by omega), path_part.j0, if_pos rfl]; simp [show ¬ (1 ≤ s.size) by omega]
  rw [if_neg (by omega)]
  by_cases h2 : s.size > 64
  · rw [if_pos (by omega), path_part.j0, if_pos rfl]; simp [show ¬ (s.size ≤ 64) by omega]
  rw [if_neg (by omega)]
  by_cases h3 : s.toList = [46]
  · rw [if_pos h3, path_part.j0, if_pos rfl]; simp [h3]
  rw [if_neg h3]
  by_cases h4 : s.toList = [46, 46]
  · rw [if_pos h4, path_part.j0, if_pos rfl]; simp [h4]
  rw [if_neg h4, path_part.j0]
  by_cases h5 : s.toList = [46, 103, 114, 97, 102, 116]
  · rw [if_pos (by simp [h5])]; simp [h5]
  · rw [if_neg (by simp [h5]), show (0 : Int) = ((0 : Nat) : Int) from rfl, hl]
    simp [h3, h4, h5, show 1 ≤ s.size by omega, show s.size ≤ 64 by omega]
theorem ref_part_eq (s : ByteArray) (hs : s.size ≤ 140737488351232) (h47 : (47 : UInt8) ∉ s.data.toList) (k : Nat) (hk : s.size + 1 < k) : graftageref06_part.f k s = some (partOK s) := by
  obtain ⟨k, rfl⟩ : ∃ m, k = m + 1 := ⟨k - 1, by omega⟩
  have hl := ref_part_l0 s hs h47 s.size k 0 (by omega) (by omega)
  unfold graftageref06_part.f partOK
  by_cases h1 : s.size < 1
  · rw [if_pos (by omega), graftageref06_part.j0, if_pos rfl]; simp [show ¬ (1 ≤ s.size) by omega]
  rw [if_neg (by omega)]
  by_cases h2 : s.size > 64
  · rw [if_pos (by omega), graftageref06_part.j0, if_pos rfl]; simp [show ¬ (s.size ≤ 64) by omega]
  rw [if_neg (by omega)]
  by_cases h3 : s.toList = [46]
  · rw [if_pos h3, graftageref06_part.j0, if_pos rfl]; simp [h3]
  rw [if_neg h3]
  by_cases h4 : s.toList = [46, 46]
  · rw [if_pos h4, graftageref06_part.j0, if_pos rfl]; simp [h4]
  rw [if_neg h4, graftageref06_part.j0]
  by_cases h5 : s.toList = [46, 103, 114, 97, 102, 116]
  · rw [if_pos (by simp [h5])]; simp [h5]
  · rw [if_neg (by simp [h5]), show (0 : Int) = ((0 : Nat) : Int) from rfl, hl]
    simp [h3, h4, h5, show 1 ≤ s.size by omega, show s.size ≤ 64 by omega]
/-- A loop that asks each element, with rounds for each. -/
theorem all_ext (p : ByteArray → Bool) (l : List ByteArray) (i : Nat) (h : i < l.length) : (l.drop i).all p = (p l[i] && (l.drop (i + 1)).all p) := by
  rw [List.drop_eq_getElem_cons h, List.all_cons]
theorem path_Is_l0 (l : List ByteArray) (B : Nat) (hB : B ≤ 140737488351232) (hl : ∀ x ∈ l, x.size ≤ B) (hn : l.length ≤ 140737488351232) : ∀ (d k i : Nat), i + d = l.length → d + B + 2 ≤ k →
    path_Is.l0 k l l l.length i = some ((l.drop i).all partOK && decide (l.length ≤ 16)) := by
  intro d
  induction d with
  | zero =>
    intro k i hi hk
    obtain ⟨k, rfl⟩ : ∃ m, k = m + 1 := ⟨k - 1, by omega⟩
    simp only [path_Is.l0]
    rw [if_neg (by omega), List.drop_of_length_le (by omega), List.all_nil, Bool.true_and, decide_eq_decide.2 (show ((l.length : Int) ≤ 16) ↔ l.length ≤ 16 by omega)]
  | succ d ih =>
    intro k i hi hk
    obtain ⟨k, rfl⟩ : ∃ m, k = m + 1 := ⟨k - 1, by omega⟩
    have hi' : i < l.length := by omega
    have := ih k (i + 1) (by omega) (by omega)
    have hsz := hl _ (List.getElem_mem hi')
    simp only [path_Is.l0]
    rw [if_pos (by omega), if_pos (by omega), if_pos (by omega), rd_ext l i hi', path_part_eq _ (by omega) k (by omega), wrap_id (by omega) (by omega), all_ext _ _ i hi']
    simp only [Option.bind_some]
    by_cases h : partOK l[i] = true
    · rw [if_pos h, h]
      simpa using this
    · rw [if_neg h]
      simp [h]
theorem partsB_size (s : ByteArray) : ∀ x ∈ partsB s, x.size ≤ s.size := by
  have key : ∀ (l : List UInt8), ∀ p ∈ partsL l, p.length ≤ l.length := by
    intro l
    induction l with
    | nil => intro p hp; simp [partsL] at hp; simp [hp]
    | cons b r ih =>
      intro p hp
      unfold partsL at hp
      split at hp
      · rcases List.mem_cons.1 hp with rfl | hp
        · simp
        · have := ih p hp; simp; omega
      · cases hq : partsL r with
        | nil => exact absurd hq (partsL_ne r)
        | cons h t =>
          rw [hq] at hp ih
          rcases List.mem_cons.1 hp with rfl | hp
          · have := ih h List.mem_cons_self; simp; omega
          · have := ih p (List.mem_cons_of_mem _ hp); simp; omega
  intro x hx
  obtain ⟨p, hp, rfl⟩ := List.mem_map.1 hx
  have := key _ p hp
  rw [Lib.size_eq s]
  show p.toArray.size ≤ _
  rw [List.size_toArray]
  exact this
theorem partsB_no47 (s : ByteArray) : ∀ x ∈ partsB s, (47 : UInt8) ∉ x.data.toList := by
  intro x hx
  obtain ⟨p, hp, rfl⟩ := List.mem_map.1 hx
  simpa using partsL_no47 _ p hp
theorem partsB_length_le (s : ByteArray) : (partsB s).length ≤ s.size + 1 := by
  have := partsL_length_le s.data.toList
  rw [Lib.size_eq s]
  simpa [partsB] using this
def isPath (s : ByteArray) : Bool := (s.toList != []) && decide (s.size ≤ 255) && ((partsB s).all partOK && decide ((partsB s).length ≤ 16))
theorem path_Is_ev (s : ByteArray) : Ev (fun k => path_Is.f k s) (isPath s) := by
  refine Ev.of (fun k => path_Is.mono s k) (k := 1000) ?_
  show path_Is.f (999 + 1) s = _
  unfold path_Is.f isPath
  by_cases h : s.toList = []
  · rw [if_pos h, path_Is.j0, if_pos rfl]; simp [h]
  · rw [if_neg h, path_Is.j0]
    by_cases h2 : s.size ≤ 255
    · rw [if_neg (by simp; omega), split_eq s (by omega)]
      simp only [Option.bind_some]
      have hn := partsB_length_le s
      rw [show (0 : Int) = ((0 : Nat) : Int) from rfl, path_Is_l0 (partsB s) 255 (by omega) (fun x hx => Nat.le_trans (partsB_size s x hx) h2) (by omega) (partsB s).length 999 0 (by omega) (by omega)]
      simp [h, h2]
    · rw [if_pos (by simp; omega)]
      simp [h2]
theorem ref_Is_l0 (l : List ByteArray) (B : Nat) (hB : B ≤ 140737488351232) (hl : ∀ x ∈ l, x.size ≤ B) (h47 : ∀ x ∈ l, (47 : UInt8) ∉ x.data.toList) (hn : l.length ≤ 140737488351232) : ∀ (d k i : Nat), i + d = l.length → d + B + 2 ≤ k →
    graftageref06_Is.l0 k l i = some ((l.drop i).all partOK) := by
  intro d
  induction d with
  | zero =>
    intro k i hi hk
    obtain ⟨k, rfl⟩ : ∃ m, k = m + 1 := ⟨k - 1, by omega⟩
    simp only [graftageref06_Is.l0]
    rw [if_neg (by omega), List.drop_of_length_le (by omega)]
    simp
  | succ d ih =>
    intro k i hi hk
    obtain ⟨k, rfl⟩ : ∃ m, k = m + 1 := ⟨k - 1, by omega⟩
    have hi' : i < l.length := by omega
    have := ih k (i + 1) (by omega) (by omega)
    have hsz := hl _ (List.getElem_mem hi')
    simp only [graftageref06_Is.l0]
    rw [if_pos (by omega), if_pos (by omega), rd_ext l i hi', ref_part_eq _ (by omega) (h47 _ (List.getElem_mem hi')) k (by omega), wrap_id (by omega) (by omega), all_ext _ _ i hi']
    simp only [Option.bind_some]
    by_cases h : partOK l[i] = true
    · rw [if_pos h, h]
      simpa using this
    · rw [if_neg h]
      simp [h]
theorem ref_Is_ev (s : ByteArray) (hs : s.size ≤ 4294967280) : Ev (fun k => graftageref06_Is.f k s) (isPath s) := by
  refine Ev.bind (ref_Parts_ev s hs) ?_
  unfold isPath pathParts
  by_cases h : s.toList = []
  · have e1 : (([] : List ByteArray).length : Int) < 1 := by simp
    simp only [if_pos h, if_pos e1]
    refine Ev.step (f := fun _ => some false) (fun k => by rw [graftageref06_Is.j0, if_pos rfl]) ?_
    simp only [h, bne_self_eq_false, Bool.false_and]
    exact Ev.now _
  · have hne : (partsB s).length ≠ 0 := by
      simp [partsB, partsL_ne]
    have e1 : ¬ ((partsB s).length : Int) < 1 := by omega
    simp only [if_neg h, if_neg e1]
    by_cases h16 : (partsB s).length > 16
    · have e2 : ((partsB s).length : Int) > 16 := by omega
      simp only [if_pos e2]
      refine Ev.step (f := fun _ => some false) (fun k => by rw [graftageref06_Is.j0, if_pos rfl]) ?_
      simp only [show decide ((partsB s).length ≤ 16) = false by simp; omega, Bool.and_false]
      exact Ev.now _
    · have e2 : ¬ ((partsB s).length : Int) > 16 := by omega
      simp only [if_neg e2]
      by_cases h2 : s.size ≤ 255
      · refine Ev.step (f := fun k => graftageref06_Is.l0 k (partsB s) 0) (fun k => by rw [graftageref06_Is.j0, if_neg (by simp; omega)]) ?_
        refine Ev.of (fun k => (graftageref06_Is.mono_l k).2 _ _) (k := (partsB s).length + 255 + 2) ?_
        have hn := partsB_length_le s
        rw [show (0 : Int) = ((0 : Nat) : Int) from rfl, ref_Is_l0 (partsB s) 255 (by omega) (fun x hx => Nat.le_trans (partsB_size s x hx) h2) (partsB_no47 s) (by omega) (partsB s).length _ 0 (by omega) (by omega)]
        have b1 : (s.toList != []) = true := by simpa using h
        rw [List.drop_zero, b1, decide_eq_true h2, decide_eq_true (show (partsB s).length ≤ 16 by omega)]
        simp
      · refine Ev.step (f := fun _ => some false) (fun k => by rw [graftageref06_Is.j0, if_pos (by simp; omega)]) ?_
        simp only [show decide (s.size ≤ 255) = false by simp; omega, Bool.and_false, Bool.false_and]
        exact Ev.now _
end Go.Proofs.YtccbpbdfihnlgaaDoor.Q


/- Contracts of Go functions as calls of plain Lean functions, written by a program of this session over the kit's print. -/
namespace Go.Proofs.YtccbpbdfihnlgaaDoor.Q
open Go.RowKit Go.Proofs.YtccbpbdfihnlgaaDoorW.PrintWords Go.Proofs.YtccbpbdfihnlgaaDoorW.PrintLast Go.Proofs.YtccbpbdfihnlgaaDoorW.PrintMore
attribute [local go_sem] max2_int min2_int max_two min_two max_three min_three max_four min_four   -- for this text's walks alone

def graftageref02_Raw.T7 : Bool × List (List Nat × List Nat) := (true, [([], []), ([], []), ([], []), ([1, 2], [1, 2]), ([3], [3]), ([4], [4]), ([], []), ([], []), ([7], [7]), ([6, 8], [6, 8]), ([9, 4], [9]), ([5, 10], [5, 10]), ([11], [11]), ([12], [12]), ([0, 13, 10], [0, 13]), ([14, 14, 0, 1, 2, 3, 4, 5, 6, 7, 8, 9, 10, 11, 12, 13, 14], [0, 14])])
def graftageref02_Raw.B7 : List Nat := [0, 0, 0, 6, 14, 30, 0, 0, 128, 448, 990, 2046, 4094, 8190, 16383, 32767]
theorem graftageref02_Raw.tab7 : rtab .any (opsOf Tryd.f53 7) = graftageref02_Raw.T7 := by kernel_rfl
theorem graftageref02_Raw.bits7 : waitsOk graftageref02_Raw.T7.2 graftageref02_Raw.B7 = true := by kernel_rfl
end Go.Proofs.YtccbpbdfihnlgaaDoor.Q


/- Ids: digits, bytes and their digits; the program's and the reference's. -/
namespace Go.Proofs.YtccbpbdfihnlgaaDoor.Q
open Go.RowKit Go.Proofs.YtccbpbdfihnlgaaDoorW.PrintWords Go.Proofs.YtccbpbdfihnlgaaDoorW.PrintLast Go.Proofs.YtccbpbdfihnlgaaDoorW.PrintMore

def hexD : List UInt8 := [48, 49, 50, 51, 52, 53, 54, 55, 56, 57, 97, 98, 99, 100, 101, 102]
/-- A digit's value; -1. -/
def dv (b : Int) : Int := Lib.indexByte hexD b.toNat.toUInt8
theorem dv_table : ∀ n : Fin 256, graftageref02_Digit.f 2 (n.val : Int) = some (dv (n.val : Int)) ∧ -1 ≤ dv (n.val : Int) ∧ dv (n.val : Int) ≤ 15 := by decide +kernel
theorem bt_fin (s : ByteArray) (i : Int) : ∃ n : Fin 256, bt s i = (n.val : Int) := by
  obtain ⟨h0, h1⟩ := bt_range s i
  exact ⟨⟨(bt s i).toNat, by omega⟩, by simp; omega⟩
theorem value_eq (b : Int) : ident_value.f b = some (dv b) := rfl
theorem Digit_bt (s : ByteArray) (i : Int) (k : Nat) (hk : 2 ≤ k) : graftageref02_Digit.f k (bt s i) = some (dv (bt s i)) := by
  obtain ⟨n, hn⟩ := bt_fin s i
  rw [hn]
  exact at_rounds (fun k => graftageref02_Digit.mono _ k) hk (dv_table n).1
/-- Are all digits, from a place on? -/
def hexF (s : ByteArray) : Nat → Nat → Bool
  | 0, _ => true
  | d + 1, i => decide (0 ≤ dv (bt s i)) && hexF s d (i + 1)
theorem all_l0 (s : ByteArray) (hs : s.size ≤ 140737488351232) : ∀ (d k i : Nat), i + d = s.size → d < k → ident_all.l0 k s s.size i = some (hexF s d i) := by
  intro d
  induction d with
  | zero =>
    intro k i hi hk
    obtain ⟨k, rfl⟩ : ∃ m, k = m + 1 := ⟨k - 1, by omega⟩
    simp only [ident_all.l0]
    rw [if_neg (by omega)]; rfl
  | succ d ih =>
    intro k i hi hk
    obtain ⟨k, rfl⟩ : ∃ m, k = m + 1 := ⟨k - 1, by omega⟩
    have := ih k (i + 1) (by omega) (by omega)
    simp only [ident_all.l0]
    rw [if_pos (by omega), if_pos (by omega), if_pos (by omega), value_eq, wrap_id (by omega) (by omega)]
    simp only [Option.bind_some]
    rw [hexF]
    by_cases h : dv (bt s i) < 0
    · rw [if_pos h, decide_eq_false (by omega)]; rfl
    · rw [if_neg h, decide_eq_true (by omega), Bool.true_and]; exact_mod_cast this
theorem digits_l0 (s : ByteArray) (hs : s.size ≤ 140737488351232) : ∀ (d k i : Nat), i + d = s.size → d + 2 < k → graftageref02_digits.l0 k s i = some (hexF s d i) := by
  intro d
  induction d with
  | zero =>
    intro k i hi hk
    obtain ⟨k, rfl⟩ : ∃ m, k = m + 1 := ⟨k - 1, by omega⟩
    simp only [graftageref02_digits.l0]
    rw [if_neg (by omega)]; rfl
  | succ d ih =>
    intro k i hi hk
    obtain ⟨k, rfl⟩ : ∃ m, k = m + 1 := ⟨k - 1, by omega⟩
    have := ih k (i + 1) (by omega) (by omega)
    simp only [graftageref02_digits.l0]
    rw [if_pos (by omega), if_pos (by omega), Digit_bt s i k (by omega), wrap_id (by omega) (by omega)]
    simp only [Option.bind_some]
    rw [hexF]
    by_cases h : dv (bt s i) < 0
    · rw [if_pos h, decide_eq_false (by omega)]; rfl
    · rw [if_neg h, decide_eq_true (by omega), Bool.true_and]; exact_mod_cast this
def idOk (s : ByteArray) : Bool := decide (s.size = 40) && hexF s s.size 0
theorem ident_Is_ev (s : ByteArray) : Ev (fun k => ident_Is.f k s) (idOk s) := by
  unfold idOk
  by_cases h : s.size = 40
  · refine Ev.congr (f := fun k => (ident_all.f k s).bind fun t => some t) (fun k => by unfold ident_Is.f; rw [if_pos (by omega)]) ?_
    refine Ev.bind (Ev.of (fun k => ident_all.mono s k) (k := 60) (r := hexF s s.size 0) ?_) ?_
    · unfold ident_all.f
      exact_mod_cast all_l0 s (by omega) s.size 60 0 (by omega) (by omega)
    · rw [decide_eq_true h, Bool.true_and]; exact Ev.now _
  · refine Ev.congr (f := fun _ => some false) (fun k => by unfold ident_Is.f; rw [if_neg (by omega)]) ?_
    rw [decide_eq_false h, Bool.false_and]; exact Ev.now _
theorem ref_idIs_ev (s : ByteArray) : Ev (fun k => graftageref02_Is.f k s) (idOk s) := by
  unfold idOk
  by_cases h : s.size = 40
  · refine Ev.congr (f := fun k => (graftageref02_digits.f k s).bind fun t => some t) (fun k => by unfold graftageref02_Is.f; rw [if_pos (by omega)]) ?_
    refine Ev.bind (Ev.of (fun k => graftageref02_digits.mono s k) (k := 60) (r := hexF s s.size 0) ?_) ?_
    · unfold graftageref02_digits.f
      exact_mod_cast digits_l0 s (by omega) s.size 60 0 (by omega) (by omega)
    · rw [decide_eq_true h, Bool.true_and]; exact Ev.now _
  · refine Ev.congr (f := fun _ => some false) (fun k => by unfold graftageref02_Is.f; rw [if_neg (by omega)]) ?_
    rw [decide_eq_false h, Bool.false_and]; exact Ev.now _
/-! ### Hex -/
def hx (n : Int) : Int := bt (⟨#[48, 49, 50, 51, 52, 53, 54, 55, 56, 57, 97, 98, 99, 100, 101, 102]⟩ : ByteArray) n
def hexL (s : ByteArray) : Nat → List Int
  | 0 => []
  | n + 1 => hexL s n ++ [hx (bt s n / 16), hx (bt s n % 16)]
theorem hexL_len (s : ByteArray) : ∀ n, (hexL s n).length = 2 * n
  | 0 => rfl
  | n + 1 => by rw [hexL, List.length_append, hexL_len s n]; simp; omega
def hexB (s : ByteArray) : ByteArray := strOfNums (hexL s s.size)
theorem and_table : ∀ n : Fin 256, Go.bits .and .u8 (n.val : Int) 15 = (n.val : Int) % 16 := by decide +kernel
theorem and_bt (s : ByteArray) (i : Int) : Go.bits .and .u8 (bt s i) 15 = bt s i % 16 := by
  obtain ⟨n, hn⟩ := bt_fin s i
  rw [hn]; exact and_table n
theorem Hex_l0 (s : ByteArray) (hs : s.size ≤ 4294967296) : ∀ (d k i : Nat), i + d = s.size → d < k → ident_Hex.l0 k s (hexL s i) s.size i = some (hexB s) := by
  intro d
  induction d with
  | zero =>
    intro k i hi hk
    obtain ⟨k, rfl⟩ : ∃ m, k = m + 1 := ⟨k - 1, by omega⟩
    obtain rfl : i = s.size := by omega
    simp only [ident_Hex.l0]
    rw [if_neg (by omega)]; rfl
  | succ d ih =>
    intro k i hi hk
    obtain ⟨k, rfl⟩ : ∃ m, k = m + 1 := ⟨k - 1, by omega⟩
    have := ih k (i + 1) (by omega) (by omega)
    have hr := bt_range s i
    simp only [ident_Hex.l0]
    rw [if_pos (by omega), if_pos (by omega), if_pos (by omega), if_pos (by omega), if_pos (by omega), and_bt, if_pos (by omega), if_pos (by omega)]
    simp only [Option.bind_some]
    rw [if_pos (by rw [hexL_len]; simp; omega), wrap_id (by omega) (by omega)]
    exact_mod_cast this
theorem ident_Hex_ev (s : ByteArray) (hs : s.size ≤ 4294967296) : Ev (fun k => ident_Hex.f k s) (hexB s) := by
  refine Ev.of (fun k => ident_Hex.mono s k) (k := s.size + 1) ?_
  unfold ident_Hex.f
  rw [wrap_id (by omega) (by omega), if_pos (by omega), if_pos (by omega)]
  exact_mod_cast Hex_l0 s hs s.size _ 0 (by omega) (by omega)
theorem ref_Hex_l0 (s : ByteArray) (hs : s.size ≤ 4294967296) : ∀ (d k i : Nat), i + d = s.size → d < k → graftageref02_Hex.l0 k s ⟨#[48, 49, 50, 51, 52, 53, 54, 55, 56, 57, 97, 98, 99, 100, 101, 102]⟩ (hexL s i) i = some (hexB s) := by
  intro d
  induction d with
  | zero =>
    intro k i hi hk
    obtain ⟨k, rfl⟩ : ∃ m, k = m + 1 := ⟨k - 1, by omega⟩
    obtain rfl : i = s.size := by omega
    simp only [graftageref02_Hex.l0]
    rw [if_neg (by omega)]; rfl
  | succ d ih =>
    intro k i hi hk
    obtain ⟨k, rfl⟩ : ∃ m, k = m + 1 := ⟨k - 1, by omega⟩
    have := ih k (i + 1) (by omega) (by omega)
    have hr := bt_range s i
    have e1 : Int.tdiv (bt s i) 16 % 256 = bt s i / 16 := by rw [Int.tdiv_eq_ediv_of_nonneg hr.1]; omega
    have e2 : Int.tmod (bt s i) 16 = bt s i % 16 := by rw [Int.tmod_eq_emod_of_nonneg hr.1]
    have hsz : ((⟨#[48, 49, 50, 51, 52, 53, 54, 55, 56, 57, 97, 98, 99, 100, 101, 102]⟩ : ByteArray).size : Int) = 16 := rfl
    simp only [graftageref02_Hex.l0]
    rw [if_pos (by omega), if_pos (by omega), e1, e2, hsz, if_pos (by omega), if_pos (by omega), if_pos (by omega), if_pos (by omega)]
    simp only [Option.bind_some]
    rw [if_pos (by rw [hexL_len]; simp; omega), wrap_id (by omega) (by omega)]
    exact_mod_cast this
theorem ref_Hex_ev (s : ByteArray) (hs : s.size ≤ 4294967296) : Ev (fun k => graftageref02_Hex.f k s) (hexB s) := by
  refine Ev.of (fun k => graftageref02_Hex.mono s k) (k := s.size + 1) ?_
  unfold graftageref02_Hex.f
  exact_mod_cast ref_Hex_l0 s hs s.size _ 0 (by omega) (by omega)
end Go.Proofs.YtccbpbdfihnlgaaDoor.Q


/- Contracts of Go functions as calls of plain Lean functions, written by a program of this session over the kit's print. -/
namespace Go.Proofs.YtccbpbdfihnlgaaDoor.Q
open Go.RowKit Go.Proofs.YtccbpbdfihnlgaaDoorW.PrintWords Go.Proofs.YtccbpbdfihnlgaaDoorW.PrintLast Go.Proofs.YtccbpbdfihnlgaaDoorW.PrintMore
attribute [local go_sem] max2_int min2_int max_two min_two max_three min_three max_four min_four   -- for this text's walks alone

end Go.Proofs.YtccbpbdfihnlgaaDoor.Q


/- Trees: entries, their order, the test of a list; the program's and the reference's. (35: the type of an entry in this seat's translation.) -/
namespace Go.Proofs.YtccbpbdfihnlgaaDoor.Q
open Go.RowKit Go.Proofs.YtccbpbdfihnlgaaDoorW.PrintWords Go.Proofs.YtccbpbdfihnlgaaDoorW.PrintLast Go.Proofs.YtccbpbdfihnlgaaDoorW.PrintMore

theorem ev_ite {α : Type} {c : Prop} [Decidable c] {f g : Nat → Option α} {r : α} (h1 : c → Ev f r) (h2 : ¬ c → Ev g r) : Ev (fun k => if c then f k else g k) r := by
  by_cases h : c
  · simp only [if_pos h]; exact h1 h
  · simp only [if_neg h]; exact h2 h
theorem rd35_get (l : List S35) (i : Nat) (h : i < l.length) : rd_T35 l i = l[i] := by
  simp [rd_T35, List.getD, List.getElem?_eq_getElem h]
/-! ### a byte's place -/
def ixF (l : List UInt8) (c : UInt8) (i : Nat) : Int := if Lib.indexByte (l.drop i) c = -1 then -1 else Lib.indexByte (l.drop i) c + i
theorem ix_step (x c : UInt8) (q : Int) (i : Nat) (hge : -1 ≤ q) (T : Option Int) (hT : T = some (if q = -1 then -1 else q + ((i + 1 : Nat) : Int))) :
    (if (x.toNat : Int) = (c.toNat : Int) then some (i : Int) else T) = some (if (if (x == c) = true then 0 else if (q == -1) = true then -1 else q + 1) = -1 then -1 else (if (x == c) = true then 0 else if (q == -1) = true then -1 else q + 1) + (i : Int)) := by
  by_cases h : x = c
  · rw [if_pos (by rw [h])]
    simp [h]
  · rw [if_neg (fun e => h (UInt8.toNat_inj.1 (by exact_mod_cast e))), hT]
    have hb : (x == c) = false := by simpa using h
    simp only [hb, Bool.false_eq_true, if_false, beq_iff_eq]
    by_cases h2 : q = -1
    · simp [h2]
    · simp only [h2, if_false]
      rw [if_neg (by omega)]
      congr 1; omega
theorem Find_l0 (s : ByteArray) (hs : s.size ≤ 140737488351232) (c : UInt8) : ∀ (d k i : Nat), i + d = s.size → d < k → graftageref14_Find.l0 k s (c.toNat : Int) i = some (ixF s.data.toList c i) := by
  intro d
  induction d with
  | zero =>
    intro k i hi hk
    obtain ⟨k, rfl⟩ : ∃ m, k = m + 1 := ⟨k - 1, by omega⟩
    simp only [graftageref14_Find.l0]
    rw [if_neg (by omega)]
    have : s.data.toList.drop i = [] := List.drop_of_length_le (by rw [← Lib.size_eq]; omega)
    unfold ixF; rw [this]; rfl
  | succ d ih =>
    intro k i hi hk
    obtain ⟨k, rfl⟩ : ∃ m, k = m + 1 := ⟨k - 1, by omega⟩
    have := ih k (i + 1) (by omega) (by omega)
    have hl : i < s.data.toList.length := by rw [← Lib.size_eq]; omega
    have hd : s.data.toList.drop i = s.data.toList[i] :: s.data.toList.drop (i + 1) := List.drop_eq_getElem_cons hl
    have hge := Lib.indexByte_ge (s.data.toList.drop (i + 1)) c
    simp only [graftageref14_Find.l0]
    rw [if_pos (by omega), if_pos (by omega), bt_get s i (by omega), wrap_id (by omega) (by omega)]
    unfold ixF at this ⊢
    rw [hd]
    simp only [Lib.indexByte]
    exact ix_step _ _ _ i hge _ (by exact_mod_cast this)
theorem Find_ev (s : ByteArray) (hs : s.size ≤ 140737488351232) (c : UInt8) (i : Nat) (hi : i ≤ s.size) : Ev (fun k => graftageref14_Find.f k s (c.toNat : Int) i) (ixF s.data.toList c i) := by
  refine Ev.of (fun k => graftageref14_Find.mono s _ _ k) (k := s.size + 1) ?_
  exact Find_l0 s hs c (s.size - i) _ i (by omega) (by omega)
/-! ### what may be -/
def no47 (s : ByteArray) : Bool := decide (Lib.indexByte s.data.toList 47 < 0)
def mayB (e : S35) : Bool := decide (1 ≤ e.f0) && (decide (e.f0 ≤ 4) && (isPath e.f1 && (no47 e.f1 && idOk e.f2)))
theorem may_ev (e : S35) : Ev (fun k => tree_may.f k e.f0 e.f1 e.f2) (mayB e) := by
  unfold mayB
  refine ev_ite (fun h1 => ev_ite (fun h2 => ?_) (fun h2 => ?_)) (fun h1 => ?_)
  · rw [decide_eq_true (show 1 ≤ e.f0 from h1), decide_eq_true h2, Bool.true_and, Bool.true_and]
    refine Ev.bind (path_Is_ev e.f1) (ev_ite (fun h3 => ?_) (fun h3 => ?_))
    · rw [h3, Bool.true_and]
      have hc : strings_Contains.f e.f1 ⟨#[47]⟩ = some (!no47 e.f1) := by
        show some (decide (0 ≤ Lib.indexByte e.f1.data.toList 47)) = _
        unfold no47
        congr 1
        rw [← decide_not]
        apply decide_eq_decide.2
        omega
      rw [hc]
      simp only [Option.bind_some]
      by_cases h4 : no47 e.f1 = true
      · simp only [h4, Bool.not_true, Bool.false_eq_true, if_false, Bool.true_and]
        exact Ev.bind (ident_Is_ev e.f2) (Ev.now _)
      · rw [Bool.not_eq_true] at h4
        simp only [h4, Bool.not_false, if_true, Bool.false_and]
        exact Ev.now _
    · rw [Bool.not_eq_true] at h3
      rw [h3, Bool.false_and]; exact Ev.now _
  · rw [decide_eq_false (show ¬ e.f0 ≤ 4 from h2), Bool.false_and, Bool.and_false]; exact Ev.now _
  · rw [decide_eq_false (show ¬ 1 ≤ e.f0 from h1), Bool.false_and]; exact Ev.now _
theorem May_ev (e : S35) (hs : e.f1.size ≤ 4294967280) : Ev (fun k => graftageref15_May.f k e.f0 e.f1 e.f2) (mayB e) := by
  unfold mayB
  refine ev_ite (fun h1 => ev_ite (fun h2 => ?_) (fun h2 => ?_)) (fun h1 => ?_)
  · rw [decide_eq_true (show 1 ≤ e.f0 from h1), decide_eq_true h2, Bool.true_and, Bool.true_and]
    refine Ev.bind (ref_Is_ev e.f1 hs) (ev_ite (fun h3 => ?_) (fun h3 => ?_))
    · rw [h3, Bool.true_and]
      refine Ev.bind (Find_ev e.f1 (by omega) 47 0 (by omega)) ?_
      have hix : (ixF e.f1.data.toList 47 0 < 0) ↔ (no47 e.f1 = true) := by
        unfold ixF no47
        rw [List.drop_zero, decide_eq_true_eq]
        have := Lib.indexByte_ge e.f1.data.toList 47
        split
        · rename_i h; simp [h]
        · simp
      by_cases h4 : no47 e.f1 = true
      · simp only [if_pos (hix.2 h4), h4, Bool.true_and]
        exact Ev.bind (ref_idIs_ev e.f2) (Ev.now _)
      · simp only [if_neg (fun h => h4 (hix.1 h))]
        rw [Bool.not_eq_true] at h4
        rw [h4, Bool.false_and]
        exact Ev.now _
    · rw [Bool.not_eq_true] at h3
      rw [h3, Bool.false_and]; exact Ev.now _
  · rw [decide_eq_false (show ¬ e.f0 ≤ 4 from h2), Bool.false_and, Bool.and_false]; exact Ev.now _
  · rw [decide_eq_false (show ¬ 1 ≤ e.f0 from h1), Bool.false_and]; exact Ev.now _
/-! ### the order -/
def keyB (m : Int) (s : ByteArray) : ByteArray := if m = 4 then s ++ ⟨#[47]⟩ else s
def lessB (a b : S35) : Bool := Op.bytesLess (keyB a.f0 a.f1).toList (keyB b.f0 b.f1).toList
theorem key_eq (m : Int) (s i : ByteArray) (hs : s.size ≤ 140737488351232) : tree_key.f m s i = some (keyB m s) := by
  unfold tree_key.f keyB
  by_cases h : m = 4
  · rw [if_pos h, if_pos h, if_pos (by omega)]
  · rw [if_neg h, if_neg h]
theorem Less_eq (a b : S35) (ha : a.f1.size ≤ 140737488351232) (hb : b.f1.size ≤ 140737488351232) : tree_Less.f a.f0 a.f1 a.f2 b.f0 b.f1 b.f2 = some (lessB a b) := by
  unfold tree_Less.f lessB
  rw [key_eq _ _ _ ha]
  simp only [Option.bind_some]
  rw [key_eq _ _ _ hb]
  rfl
theorem ref_Less_eq (a b : S35) (ha : a.f1.size ≤ 140737488351232) (hb : b.f1.size ≤ 140737488351232) : graftageref15_Less.f a.f0 a.f1 a.f2 b.f0 b.f1 b.f2 = some (lessB a b) := Less_eq a b ha hb
/-! ### the test of a list -/
def z35' : S35 := ⟨0, ⟨#[]⟩, ⟨#[]⟩⟩
def at35 (l : List S35) (i : Nat) : S35 := rd_T35 l i
/-- How often a name stands among the first n. -/
def cnt (l : List S35) (x : List UInt8) : Nat → Int
  | 0 => 0
  | n + 1 => cnt l x n + (if (at35 l n).f1.data.toList = x then 1 else 0)
theorem cnt_ge (l : List S35) (x : List UInt8) : ∀ n, 0 ≤ cnt l x n ∧ cnt l x n ≤ n
  | 0 => by simp [cnt]
  | n + 1 => by
    have := cnt_ge l x n
    unfold cnt
    split <;> omega
def dupF (l : List S35) (x : List UInt8) : Nat → Bool
  | 0 => false
  | n + 1 => dupF l x n || decide ((at35 l n).f1.data.toList = x)
theorem cnt_dup (l : List S35) (x : List UInt8) : ∀ n, decide (0 < cnt l x n) = dupF l x n
  | 0 => by simp [cnt, dupF]
  | n + 1 => by
    have ih := cnt_dup l x n
    have := cnt_ge l x n
    rw [cnt, dupF, ← ih]
    by_cases h : (at35 l n).f1.data.toList = x
    · rw [if_pos h, decide_eq_true h, Bool.or_true, decide_eq_true (by omega)]
    · rw [if_neg h, decide_eq_false h, Bool.or_false, Int.add_zero]
def cF (l : List S35) : Nat → Nat → Int
  | 0, _ => 0
  | d + 1, i => if mayB (at35 l i) = false then 1 else if (decide (0 < i) && !lessB (at35 l (i - 1)) (at35 l i)) = true then 150 else if dupF l (at35 l i).f1.data.toList i = true then 6 else cF l d (i + 1)
def checkB (l : List S35) : Int := if l.length > 1024 then 4 else cF l l.length 0
structure MetI (l : List S35) (N : Nat) (m : MSI) : Prop where
  hn : m.n = N
  hf : ∀ x, (m.f x).getD 0 = cnt l x N
theorem MetI.put {l : List S35} {n : Nat} {m : MSI} (h : MetI l n m) (hn : n ≤ 1024) : MetI l (n + 1) (MSI.put m (at35 l n).f1 (wrap64 (MSI.get m (at35 l n).f1 + 1))) := by
  refine ⟨by simp [MSI.put, h.hn], fun x => ?_⟩
  have hc := cnt_ge l x n
  have hg : MSI.get m (at35 l n).f1 = cnt l (at35 l n).f1.data.toList n := h.hf _
  have hc2 := cnt_ge l (at35 l n).f1.data.toList n
  rw [hg, wrap_id (by omega) (by omega)]
  simp only [MSI.put]
  by_cases e : x = (at35 l n).f1.data.toList
  · rw [if_pos e, cnt, if_pos e.symm, e]; rfl
  · rw [if_neg e, cnt, if_neg (fun h => e h.symm), Int.add_zero]; exact h.hf x
theorem at_size (l : List S35) (hs : ∀ x ∈ l, x.f1.size ≤ 4294967280) (hn : l.length ≤ 1024) (i : Nat) (h : i < l.length) : (at35 l i).f1.size ≤ 4294967280 := by
  unfold at35; rw [rd35_get l i h]; exact hs _ (List.getElem_mem h)
section
variable (l : List S35) (hs : ∀ x ∈ l, x.f1.size ≤ 4294967280) (hn : l.length ≤ 1024)
include hs hn
theorem Check_l0 : ∀ (d i : Nat) (m : MSI), i + d = l.length → MetI l i m → Ev (fun k => tree_Check.l0 k l l l.length i m) (cF l d i) := by
  intro d
  induction d with
  | zero =>
    intro i m hi hm
    exact Ev.step (f := fun _ => some 0) (fun k => by rw [tree_Check.l0, if_neg (by omega)]) (Ev.now _)
  | succ d ih =>
    intro i m hi hm
    have hsz := at_size l hs hn i (by omega)
    have e0 : rd_T35 l (i : Int) = at35 l i := rfl
    refine Ev.step (f := fun k => (tree_may.f k (at35 l i).f0 (at35 l i).f1 (at35 l i).f2).bind fun t104 => (if t104 = true then (if (i : Int) > 0 then (if 0 ≤ (wrap64 ((i : Int) - 1)) then (if (wrap64 ((i : Int) - 1)) < (l.length : Int) then ((tree_Less.f ((rd_T35 l (wrap64 ((i : Int) - 1))).f0) ((rd_T35 l (wrap64 ((i : Int) - 1))).f1) ((rd_T35 l (wrap64 ((i : Int) - 1))).f2) (at35 l i).f0 (at35 l i).f1 (at35 l i).f2).bind fun t106 => (tree_Check.j1 k l l l.length i (!t106) (MSI.put m (at35 l i).f1 (wrap64 (MSI.get m (at35 l i).f1 + 1))) (at35 l i).f0 (at35 l i).f1 (at35 l i).f2)) else none) else none) else (tree_Check.j1 k l l l.length i false (MSI.put m (at35 l i).f1 (wrap64 (MSI.get m (at35 l i).f1 + 1))) (at35 l i).f0 (at35 l i).f1 (at35 l i).f2)) else (some 1))) (fun k => ?_) ?_
    · rw [tree_Check.l0, if_pos (by omega), if_pos (by omega), if_pos (by omega), e0, if_pos (by omega), if_pos (by rw [hm.hn]; omega)]
    · refine Ev.bind (may_ev (at35 l i)) ?_
      rw [cF]
      by_cases hmay : mayB (at35 l i) = true
      · simp only [hmay, if_true, Bool.true_eq_false, if_false]
        have hput := hm.put (by omega)
        have hJ : ∀ b : Bool, Ev (fun k => tree_Check.j1 k l l l.length i b (MSI.put m (at35 l i).f1 (wrap64 (MSI.get m (at35 l i).f1 + 1))) (at35 l i).f0 (at35 l i).f1 (at35 l i).f2) (if b = true then 150 else if dupF l (at35 l i).f1.data.toList i = true then 6 else cF l d (i + 1)) := by
          intro b
          refine Ev.step (f := fun k => if b = true then some 150 else (if MSI.get (MSI.put m (at35 l i).f1 (wrap64 (MSI.get m (at35 l i).f1 + 1))) (at35 l i).f1 > 1 then some 6 else tree_Check.l0 k l l l.length ((i : Int) + 1) (MSI.put m (at35 l i).f1 (wrap64 (MSI.get m (at35 l i).f1 + 1))))) (fun k => ?_) ?_
          · rw [tree_Check.j1, if_pos (show (at35 l i).f1.size ≤ 9223372036854775807 by omega), wrap_id (x := (i : Int) + 1) (by omega) (by omega)]
          · have hg : MSI.get (MSI.put m (at35 l i).f1 (wrap64 (MSI.get m (at35 l i).f1 + 1))) (at35 l i).f1 = cnt l (at35 l i).f1.data.toList (i + 1) := hput.hf _
            rw [hg, cnt, if_pos rfl, ← cnt_dup]
            refine ev_ite (fun hb => ?_) (fun hb => ?_)
            · rw [if_pos hb]; exact Ev.now _
            · rw [if_neg hb]
              refine ev_ite (fun hc => ?_) (fun hc => ?_)
              · rw [if_pos (decide_eq_true (by omega))]; exact Ev.now _
              · rw [if_neg (by rw [decide_eq_true_eq]; omega)]
                exact_mod_cast ih (i + 1) _ (by omega) hput
        refine ev_ite (fun h0 => ?_) (fun h0 => ?_)
        · have e1 : wrap64 ((i : Int) - 1) = ((i - 1 : Nat) : Int) := by rw [wrap_id (by omega) (by omega)]; omega
          have hsz1 := at_size l hs hn (i - 1) (by omega)
          rw [e1]
          refine Ev.congr (f := fun k => tree_Check.j1 k l l l.length i (!lessB (at35 l (i - 1)) (at35 l i)) (MSI.put m (at35 l i).f1 (wrap64 (MSI.get m (at35 l i).f1 + 1))) (at35 l i).f0 (at35 l i).f1 (at35 l i).f2) (fun k => ?_) ?_
          · rw [if_pos (by omega), if_pos (by omega)]
            have := Less_eq (at35 l (i - 1)) (at35 l i) (by omega) (by omega)
            unfold at35 at this ⊢
            rw [this]; rfl
          · have := hJ (!lessB (at35 l (i - 1)) (at35 l i))
            rw [decide_eq_true (show 0 < i by omega), Bool.true_and]
            exact this
        · have := hJ false
          rw [decide_eq_false (show ¬ 0 < i by omega), Bool.false_and]
          exact this
      · rw [Bool.not_eq_true] at hmay
        simp only [hmay, Bool.false_eq_true, if_false, if_true]
        exact Ev.now _
end
theorem metI0 (l : List S35) : MetI l 0 MSI.nil := ⟨rfl, fun x => rfl⟩
theorem Check_ev (l : List S35) (hs : ∀ x ∈ l, x.f1.size ≤ 4294967280) : Ev (fun k => tree_Check.f k l) (checkB l) := by
  unfold checkB
  refine ev_ite (fun h => ?_) (fun h => ?_)
  · rw [if_pos (by omega)]; exact Ev.now _
  · rw [if_neg (by omega)]
    exact_mod_cast Check_l0 l hs (by omega) l.length 0 MSI.nil (by omega) (metI0 l)
theorem refDup_l1 (l : List S35) (hs : ∀ x ∈ l, x.f1.size ≤ 4294967280) (hn : l.length ≤ 1024) (i : Nat) (hi : i < l.length) (r : Int) (hr : Ev (fun k => graftageref15_Check.l0 k l l.length ((i : Int) + 1)) r) : ∀ (d j : Nat), j + d = i → dupF l (at35 l i).f1.data.toList j = false →
    Ev (fun k => graftageref15_Check.l1 k l i l.length i i j) (if dupF l (at35 l i).f1.data.toList i = true then 6 else r) := by
  intro d
  induction d with
  | zero =>
    intro j hj hd
    obtain rfl : j = i := by omega
    rw [hd]
    refine Ev.step (f := fun k => graftageref15_Check.l0 k l l.length ((j : Int) + 1)) (fun k => by rw [graftageref15_Check.l1, if_neg (by omega), wrap_id (by omega) (by omega)]) ?_
    simpa using hr
  | succ d ih =>
    intro j hj hd
    have e0 : rd_T35 l (i : Int) = at35 l i := rfl
    have e1 : rd_T35 l (j : Int) = at35 l j := rfl
    have mono : ∀ (n m : Nat), n ≤ m → dupF l (at35 l i).f1.data.toList n = true → dupF l (at35 l i).f1.data.toList m = true := by
      intro n m hnm h
      induction m with
      | zero =>
        obtain rfl : n = 0 := by omega
        exact h
      | succ m ih2 =>
        by_cases e : n = m + 1
        · rw [← e]; exact h
        · rw [dupF, ih2 (by omega), Bool.true_or]
    refine Ev.step (f := fun k => if (at35 l j).f1.toList = (at35 l i).f1.toList then some 6 else graftageref15_Check.l1 k l i l.length i i ((j : Int) + 1)) (fun k => by rw [graftageref15_Check.l1, if_pos (by omega), if_pos (by omega), if_pos (by omega), if_pos (by omega), if_pos (by omega), e0, e1, wrap_id (by omega) (by omega)]) ?_
    refine ev_ite (fun h => ?_) (fun h => ?_)
    · rw [if_pos (mono (j + 1) i (by omega) (by rw [dupF, decide_eq_true (by rw [Lib.toList_data, Lib.toList_data] at h; exact h), Bool.or_true]))]
      exact Ev.now _
    · exact_mod_cast ih (j + 1) (by omega) (by rw [dupF, hd, decide_eq_false (by rw [Lib.toList_data, Lib.toList_data] at h; exact h)]; rfl)
section
variable (l : List S35) (hs : ∀ x ∈ l, x.f1.size ≤ 4294967280) (hn : l.length ≤ 1024)
include hs hn
theorem refCheck_l0 : ∀ (d i : Nat), i + d = l.length → Ev (fun k => graftageref15_Check.l0 k l l.length i) (cF l d i) := by
  intro d
  induction d with
  | zero =>
    intro i hi
    exact Ev.step (f := fun _ => some 0) (fun k => by rw [graftageref15_Check.l0, if_neg (by omega)]) (Ev.now _)
  | succ d ih =>
    intro i hi
    have hsz := at_size l hs hn i (by omega)
    have e0 : rd_T35 l (i : Int) = at35 l i := rfl
    refine Ev.step (f := fun k => (graftageref15_May.f k (at35 l i).f0 (at35 l i).f1 (at35 l i).f2).bind fun t104 => (if t104 = true then (if (i : Int) > 0 then (if 0 ≤ (wrap64 ((i : Int) - 1)) then (if (wrap64 ((i : Int) - 1)) < (l.length : Int) then ((graftageref15_Less.f ((rd_T35 l (wrap64 ((i : Int) - 1))).f0) ((rd_T35 l (wrap64 ((i : Int) - 1))).f1) ((rd_T35 l (wrap64 ((i : Int) - 1))).f2) (at35 l i).f0 (at35 l i).f1 (at35 l i).f2).bind fun t106 => (graftageref15_Check.j1 k l i l.length i (!t106))) else none) else none) else (graftageref15_Check.j1 k l i l.length i false)) else (some 1))) (fun k => ?_) ?_
    · rw [graftageref15_Check.l0, if_pos (by omega), if_pos (by omega), if_pos (by omega), e0]
    · refine Ev.bind (May_ev (at35 l i) hsz) ?_
      rw [cF]
      by_cases hmay : mayB (at35 l i) = true
      · simp only [hmay, if_true, Bool.true_eq_false, if_false]
        have hJ : ∀ b : Bool, Ev (fun k => graftageref15_Check.j1 k l i l.length i b) (if b = true then 150 else if dupF l (at35 l i).f1.data.toList i = true then 6 else cF l d (i + 1)) := by
          intro b
          refine Ev.step (f := fun k => if b = true then some 150 else graftageref15_Check.l1 k l i l.length i i 0) (fun k => by rw [graftageref15_Check.j1]) ?_
          refine ev_ite (fun hb => ?_) (fun hb => ?_)
          · rw [if_pos hb]; exact Ev.now _
          · rw [if_neg hb]
            exact_mod_cast refDup_l1 l hs hn i (by omega) _ (by exact_mod_cast ih (i + 1) (by omega)) i 0 (by omega) rfl
        refine ev_ite (fun h0 => ?_) (fun h0 => ?_)
        · have e1 : wrap64 ((i : Int) - 1) = ((i - 1 : Nat) : Int) := by rw [wrap_id (by omega) (by omega)]; omega
          have hsz1 := at_size l hs hn (i - 1) (by omega)
          rw [e1]
          refine Ev.congr (f := fun k => graftageref15_Check.j1 k l i l.length i (!lessB (at35 l (i - 1)) (at35 l i))) (fun k => ?_) ?_
          · rw [if_pos (by omega), if_pos (by omega)]
            have := ref_Less_eq (at35 l (i - 1)) (at35 l i) (by omega) (by omega)
            unfold at35 at this ⊢
            rw [this]; rfl
          · have := hJ (!lessB (at35 l (i - 1)) (at35 l i))
            rw [decide_eq_true (show 0 < i by omega), Bool.true_and]
            exact this
        · have := hJ false
          rw [decide_eq_false (show ¬ 0 < i by omega), Bool.false_and]
          exact this
      · rw [Bool.not_eq_true] at hmay
        simp only [hmay, Bool.false_eq_true, if_false, if_true]
        exact Ev.now _
end
theorem refCheck_ev (l : List S35) (hs : l.length ≤ 1024 → ∀ x ∈ l, x.f1.size ≤ 4294967280) : Ev (fun k => graftageref15_Check.f k l) (checkB l) := by
  unfold checkB
  refine ev_ite (fun h => ?_) (fun h => ?_)
  · rw [if_pos (by omega)]; exact Ev.now _
  · rw [if_neg (by omega)]
    exact_mod_cast refCheck_l0 l (hs (by omega)) (by omega) l.length 0 (by omega)
theorem Same35_ev (l : List S35) (hn : l.length ≤ 140737488351232) : Ev (fun k => graftageref15_Same.f k l l) true := by
  have key : ∀ (d i : Nat), i + d = l.length → Ev (fun k => graftageref15_Same.l0 k l l l.length i) true := by
    intro d
    induction d with
    | zero =>
      intro i hi
      exact Ev.step (f := fun _ => some true) (fun k => by rw [graftageref15_Same.l0, if_neg (by omega)]) (Ev.now _)
    | succ d ih =>
      intro i hi
      refine Ev.step (f := fun k => graftageref15_Same.l0 k l l l.length ((i : Int) + 1)) (fun k => by rw [graftageref15_Same.l0, if_pos (by omega), if_pos (by omega), if_pos (by omega), if_pos (by omega), if_neg (by simp), wrap_id (by omega) (by omega)]) ?_
      exact_mod_cast ih (i + 1) (by omega)
  refine Ev.congr (f := fun k => graftageref15_Same.l0 k l l l.length 0) (fun k => by unfold graftageref15_Same.f; rw [if_pos rfl]) ?_
  exact_mod_cast key l.length 0 (by omega)
end Go.Proofs.YtccbpbdfihnlgaaDoor.Q


/- Contracts of Go functions as calls of plain Lean functions, written by a program of this session over the kit's print. -/
namespace Go.Proofs.YtccbpbdfihnlgaaDoor.Q
open Go.RowKit Go.Proofs.YtccbpbdfihnlgaaDoorW.PrintWords Go.Proofs.YtccbpbdfihnlgaaDoorW.PrintLast Go.Proofs.YtccbpbdfihnlgaaDoorW.PrintMore
attribute [local go_sem] max2_int min2_int max_two min_two max_three min_three max_four min_four   -- for this text's walks alone

end Go.Proofs.YtccbpbdfihnlgaaDoor.Q


/- Contracts of Go functions as calls of plain Lean functions, written by a program of this session over the kit's print. -/
namespace Go.Proofs.YtccbpbdfihnlgaaDoor.Q
open Go.RowKit Go.Proofs.YtccbpbdfihnlgaaDoorW.PrintWords Go.Proofs.YtccbpbdfihnlgaaDoorW.PrintLast Go.Proofs.YtccbpbdfihnlgaaDoorW.PrintMore
attribute [local go_sem] max2_int min2_int max_two min_two max_three min_three max_four min_four   -- for this text's walks alone

end Go.Proofs.YtccbpbdfihnlgaaDoor.Q


/- Contracts of Go functions as calls of plain Lean functions, written by a program of this session over the kit's print. -/
namespace Go.Proofs.YtccbpbdfihnlgaaDoor.Q
open Go.RowKit Go.Proofs.YtccbpbdfihnlgaaDoorW.PrintWords Go.Proofs.YtccbpbdfihnlgaaDoorW.PrintLast Go.Proofs.YtccbpbdfihnlgaaDoorW.PrintMore
attribute [local go_sem] max2_int min2_int max_two min_two max_three min_three max_four min_four   -- for this text's walks alone

/-! ### graftagelaw15_TreeBack: function 5 -/
mutual
def graftagelaw15_TreeBack.j0 : Nat → List (S35) → ByteArray → Bool → Option (Bool)
  | 0, _, _, _ => none
  | k + 1, x0, x1, x20 => if x20 = true then ((graftagelaw15_lives.f k).bind fun t132 => (some t132)) else ((tree_Body.f k x0).bind fun bt133 => (if bt133.2 = 0 then ((tree_Parse.f k bt133.1).bind fun bt135 => (if bt135.2 = 0 then ((graftageref15_Same.f k x0 bt135.1).bind fun t139 => (if t139 = true then (graftagelaw15_TreeBack.j1 k x1) else (some false))) else (some false))) else (graftagelaw15_TreeBack.j1 k x1)))
def graftagelaw15_TreeBack.j1 : Nat → ByteArray → Option (Bool)
  | 0, _ => none
  | k + 1, x1 => (tree_Parse.f k x1).bind fun bt140 => (if bt140.2 = 0 then ((tree_Body.f k bt140.1).bind fun bt144 => (if bt144.2 = 0 then (if bt144.1.toList = x1.toList then ((graftagelaw15_lives.f k).bind fun t146 => (some t146)) else (some false)) else (some false))) else (if (bt140.1.length : Int) = 0 then ((graftagelaw15_lives.f k).bind fun t147 => (some t147)) else (some false)))
end
end Go.Proofs.YtccbpbdfihnlgaaDoor.Q


/- Trees: bodies and their entries; TreeChecks, TreeParses, TreeBack. -/
namespace Go.Proofs.YtccbpbdfihnlgaaDoor.Q
open Go.RowKit Go.Proofs.YtccbpbdfihnlgaaDoorW.PrintWords Go.Proofs.YtccbpbdfihnlgaaDoorW.PrintLast Go.Proofs.YtccbpbdfihnlgaaDoorW.PrintMore
/-! ### bodies -/
def dgB (m : Int) : ByteArray := if m = 1 then ⟨#[49, 48, 48, 54, 52, 52, 32]⟩ else if m = 2 then ⟨#[49, 48, 48, 55, 53, 53, 32]⟩ else if m = 3 then ⟨#[49, 50, 48, 48, 48, 48, 32]⟩ else if m = 4 then ⟨#[52, 48, 48, 48, 48, 32]⟩ else ⟨#[]⟩
theorem digits_eq (m : Int) : tree_digits.f m = some (dgB m) := by
  unfold tree_digits.f dgB
  by_cases h1 : m = 1
  · rw [if_pos h1, if_pos h1]
  rw [if_neg h1, if_neg h1]
  by_cases h2 : m = 2
  · rw [if_pos h2, if_pos h2]
  rw [if_neg h2, if_neg h2]
  by_cases h3 : m = 3
  · rw [if_pos h3, if_pos h3]
  rw [if_neg h3, if_neg h3]
  by_cases h4 : m = 4
  · rw [if_pos h4, if_pos h4]
  rw [if_neg h4, if_neg h4]
theorem ref_digits_eq (m : Int) (h1 : 1 ≤ m) (h4 : m ≤ 4) : graftageref15_digits.f m = some (dgB m) := by
  unfold graftageref15_digits.f dgB
  by_cases h1 : m = 1
  · rw [if_pos h1, if_pos h1]
  rw [if_neg h1, if_neg h1]
  by_cases h2 : m = 2
  · rw [if_pos h2, if_pos h2]
  rw [if_neg h2, if_neg h2]
  by_cases h3 : m = 3
  · rw [if_pos h3, if_pos h3]
  rw [if_neg h3, if_neg h3, if_pos (by omega)]
theorem dgB_size (m : Int) : (dgB m).size ≤ 7 := by
  unfold dgB
  split
  · decide
  · split
    · decide
    · split
      · decide
      · split <;> decide
theorem z1 : (⟨#[0]⟩ : ByteArray).size = 1 := rfl
section
variable (l : List S35) (hn : l.length ≤ 1024) (hm : ∀ j, j < l.length → mayB (at35 l j) = true)
include hn hm
end
/-! ### one entry's bytes -/
def pre (a b : ByteArray) : Bool := decide (b.size ≤ a.size) && ((a.extract 0 b.size).toList == b.toList)
theorem HasPrefix_eq (a b : ByteArray) : strings_HasPrefix.f a b = some (pre a b) := by
  unfold strings_HasPrefix.f stringslite_HasPrefix.f pre
  by_cases h : b.size ≤ a.size
  · rw [if_pos (by omega), if_pos (by omega), if_pos (by omega), decide_eq_true h, Bool.true_and]; rfl
  · rw [if_neg (by omega), decide_eq_false h, Bool.false_and]; rfl
theorem begins_eq (a b : ByteArray) : graftageref15_begins.f a b = some (pre a b) := by
  unfold graftageref15_begins.f pre
  by_cases h : b.size ≤ a.size
  · rw [if_pos (by omega), if_pos (by omega), if_pos (by omega), decide_eq_true h, Bool.true_and]
  · rw [if_neg (by omega), decide_eq_false h, Bool.false_and]
theorem pre_size {a b : ByteArray} (h : pre a b = true) : b.size ≤ a.size := by
  unfold pre at h
  rw [Bool.and_eq_true, decide_eq_true_eq] at h
  exact h.1
theorem CutPrefix_eq (a b : ByteArray) : strings_CutPrefix.f a b = some (if pre a b = true then (a.extract b.size a.size, true) else (a, false)) := by
  unfold strings_CutPrefix.f stringslite_CutPrefix.f
  have := HasPrefix_eq a b
  unfold strings_HasPrefix.f at this
  have h2 : stringslite_HasPrefix.f a b = some (pre a b) := by simpa using this
  rw [h2]
  simp only [Option.bind_some]
  by_cases h : pre a b = true
  · have := pre_size h
    rw [if_pos h, if_pos h, if_pos (by omega), if_pos (by omega)]; rfl
  · rw [if_neg h, if_neg h]; rfl
/-- The mode at a text's beginning, how many bytes it takes, and the error. -/
def modeB (s : ByteArray) : Int × Int :=
  if pre s (dgB 1) = true then (1, 0) else if pre s (dgB 2) = true then (2, 0) else if pre s (dgB 3) = true then (3, 0) else if pre s (dgB 4) = true then (4, 0)
  else if (pre (dgB 1) s || pre (dgB 2) s || pre (dgB 3) s || pre (dgB 4) s) = true then (0, 3) else (0, 2)
def modeR (s : ByteArray) : Int × ByteArray × Int := if (modeB s).2 = 0 then ((modeB s).1, s.extract (dgB (modeB s).1).size s.size, 0) else (0, ⟨#[]⟩, (modeB s).2)
theorem mode_ev (s : ByteArray) : Ev (fun k => tree_mode.f k s) (modeR s) := by
  refine Ev.of (fun k => tree_mode.mono s k) (k := 6) ?_
  have w1 : wrap64 (1 + 1) = 2 := wrap_id (by omega) (by omega)
  have w2 : wrap64 (2 + 1) = 3 := wrap_id (by omega) (by omega)
  have w3 : wrap64 (3 + 1) = 4 := wrap_id (by omega) (by omega)
  have w4 : wrap64 (4 + 1) = 5 := wrap_id (by omega) (by omega)
  have step : ∀ (k : Nat) (b : Bool) (m : Int), m ≤ 4 → tree_mode.l0 (k + 1) s b m = if pre s (dgB m) = true then some (m, s.extract (dgB m).size s.size, 0) else tree_mode.l0 k s (b || pre (dgB m) s) (wrap64 (m + 1)) := by
    intro k b m hm
    rw [tree_mode.l0, if_pos hm, digits_eq]
    simp only [Option.bind_some, CutPrefix_eq]
    by_cases h : pre s (dgB m) = true
    · simp only [if_pos h, if_true]
    · simp only [if_neg h, Bool.false_eq_true, if_false, HasPrefix_eq, Option.bind_some]
      cases b with
      | true => rw [if_pos rfl, Bool.true_or]
      | false => rw [if_neg (by decide), Bool.false_or]
  unfold tree_mode.f
  rw [step 5 _ 1 (by omega), w1, step 4 _ 2 (by omega), w2, step 3 _ 3 (by omega), w3, step 2 _ 4 (by omega), w4, tree_mode.l0, if_neg (show ¬ (5 : Int) ≤ 4 by omega)]
  unfold modeR modeB
  simp only [Bool.false_or]
  by_cases h1 : pre s (dgB 1) = true
  · simp only [if_pos h1, if_true]
  by_cases h2 : pre s (dgB 2) = true
  · simp only [if_neg h1, if_pos h2, if_true]
  by_cases h3 : pre s (dgB 3) = true
  · simp only [if_neg h1, if_neg h2, if_pos h3, if_true]
  by_cases h4 : pre s (dgB 4) = true
  · simp only [if_neg h1, if_neg h2, if_neg h3, if_pos h4, if_true]
  simp only [if_neg h1, if_neg h2, if_neg h3, if_neg h4]
  by_cases h5 : (pre (dgB 1) s || pre (dgB 2) s || pre (dgB 3) s || pre (dgB 4) s) = true
  · simp only [if_pos h5]; rfl
  · simp only [if_neg h5]; rfl
theorem ref_mode_ev (s : ByteArray) : Ev (fun k => graftageref15_mode.f k s) (if (modeB s).2 = 0 then (modeB s).1 else if (modeB s).2 = 3 then -1 else 0) := by
  refine Ev.of (fun k => graftageref15_mode.mono s k) (k := 12) ?_
  have w1 : wrap64 (1 + 1) = 2 := wrap_id (by omega) (by omega)
  have w2 : wrap64 (2 + 1) = 3 := wrap_id (by omega) (by omega)
  have w3 : wrap64 (3 + 1) = 4 := wrap_id (by omega) (by omega)
  have w4 : wrap64 (4 + 1) = 5 := wrap_id (by omega) (by omega)
  have step0 : ∀ (k : Nat) (m : Int), 1 ≤ m → m ≤ 4 → graftageref15_mode.l0 (k + 1) s m = if pre s (dgB m) = true then some m else graftageref15_mode.l0 k s (wrap64 (m + 1)) := by
    intro k m h1 hm
    rw [graftageref15_mode.l0, if_pos hm, ref_digits_eq _ h1 hm]
    simp only [Option.bind_some, begins_eq]
  have step1 : ∀ (k : Nat) (m : Int), 1 ≤ m → m ≤ 4 → graftageref15_mode.l1 (k + 1) s m = if pre (dgB m) s = true then some (-1) else graftageref15_mode.l1 k s (wrap64 (m + 1)) := by
    intro k m h1 hm
    rw [graftageref15_mode.l1, if_pos hm, ref_digits_eq _ h1 hm]
    simp only [Option.bind_some, begins_eq]
  unfold graftageref15_mode.f
  rw [step0 11 1 (by omega) (by omega), w1, step0 10 2 (by omega) (by omega), w2, step0 9 3 (by omega) (by omega), w3, step0 8 4 (by omega) (by omega), w4, graftageref15_mode.l0, if_neg (show ¬ (5 : Int) ≤ 4 by omega),
    step1 6 1 (by omega) (by omega), w1, step1 5 2 (by omega) (by omega), w2, step1 4 3 (by omega) (by omega), w3, step1 3 4 (by omega) (by omega), w4, graftageref15_mode.l1, if_neg (show ¬ (5 : Int) ≤ 4 by omega)]
  unfold modeB
  by_cases h1 : pre s (dgB 1) = true
  · simp only [if_pos h1, if_true]
  by_cases h2 : pre s (dgB 2) = true
  · simp only [if_neg h1, if_pos h2, if_true]
  by_cases h3 : pre s (dgB 3) = true
  · simp only [if_neg h1, if_neg h2, if_pos h3, if_true]
  by_cases h4 : pre s (dgB 4) = true
  · simp only [if_neg h1, if_neg h2, if_neg h3, if_pos h4, if_true]
  simp only [if_neg h1, if_neg h2, if_neg h3, if_neg h4]
  by_cases g1 : pre (dgB 1) s = true
  · simp [g1]
  by_cases g2 : pre (dgB 2) s = true
  · simp [g1, g2]
  by_cases g3 : pre (dgB 3) s = true
  · simp [g1, g2, g3]
  by_cases g4 : pre (dgB 4) s = true
  · simp [g1, g2, g3, g4]
  simp [g1, g2, g3, g4]
theorem modeB_ok {s : ByteArray} (h : (modeB s).2 = 0) : 1 ≤ (modeB s).1 ∧ (modeB s).1 ≤ 4 ∧ pre s (dgB (modeB s).1) = true := by
  unfold modeB at h ⊢
  by_cases h1 : pre s (dgB 1) = true
  · simp [h1]
  by_cases h2 : pre s (dgB 2) = true
  · simp [h1, h2]
  by_cases h3 : pre s (dgB 3) = true
  · simp [h1, h2, h3]
  by_cases h4 : pre s (dgB 4) = true
  · simp [h1, h2, h3, h4]
  simp only [if_neg h1, if_neg h2, if_neg h3, if_neg h4] at h
  split at h <;> simp at h
theorem modeB_bad (s : ByteArray) : (modeB s).2 = 0 ∨ (modeB s).2 = 3 ∨ (modeB s).2 = 2 := by
  unfold modeB
  repeat' split
  all_goals simp
theorem dgB_ge {m : Int} (h1 : 1 ≤ m) (h4 : m ≤ 4) : 6 ≤ (dgB m).size := by
  have : m = 1 ∨ m = 2 ∨ m = 3 ∨ m = 4 := by omega
  rcases this with rfl | rfl | rfl | rfl <;> decide
theorem ext_ext (s : ByteArray) (a b i j : Nat) (hj : j ≤ b - a) : (s.extract a b).extract i j = s.extract (a + i) (a + j) := by
  apply ba_ext
  rw [Lib.extract_data, Lib.extract_data, Lib.extract_data, List.drop_take, List.take_take, List.drop_drop]
  congr 1
  omega
theorem ext_at (s : ByteArray) (a b i j c d : Nat) (hj : j ≤ b - a) (hc : a + i = c) (hd : a + j = d) : (s.extract a b).extract i j = s.extract c d := by
  subst hc hd
  exact ext_ext s a b i j hj
theorem extract_size (s : ByteArray) (a b : Nat) (h : b ≤ s.size) : (s.extract a b).size = b - a := by
  rw [Lib.size_eq, Lib.extract_data, List.length_take, List.length_drop, ← Lib.size_eq]; omega
theorem extract_all (s : ByteArray) (a : Nat) : (s.extract a s.size).data.toList = s.data.toList.drop a := by
  rw [Lib.extract_data, List.take_of_length_le (by rw [List.length_drop, ← Lib.size_eq]; exact Nat.le_refl _)]
/-- The first entry of a text: the error, the entry, what stands behind. -/
def cutAt (s : ByteArray) : Int := Lib.indexByte (s.data.toList.drop (dgB (modeB s).1).size) 0
def stepB (s : ByteArray) : Int × S35 × ByteArray :=
  if (modeB s).2 = 0 then
    (if cutAt s = -1 ∨ s.size < (dgB (modeB s).1).size + (cutAt s).toNat + 21 then (3, z35', ⟨#[]⟩)
     else (0, ⟨(modeB s).1, s.extract (dgB (modeB s).1).size ((dgB (modeB s).1).size + (cutAt s).toNat), hexB (s.extract ((dgB (modeB s).1).size + (cutAt s).toNat + 1) ((dgB (modeB s).1).size + (cutAt s).toNat + 21))⟩, s.extract ((dgB (modeB s).1).size + (cutAt s).toNat + 21) s.size))
  else ((modeB s).2, z35', ⟨#[]⟩)
theorem indexByte_lt : ∀ (l : List UInt8) (c : UInt8), Lib.indexByte l c < l.length ∨ l = []
  | [], _ => .inr rfl
  | b :: r, c => by
    left
    rw [Lib.indexByte]
    rcases indexByte_lt r c with h | h
    · split
      · simp
      · split
        · simp; omega
        · simp; omega
    · subst h
      split
      · simp
      · simp [Lib.indexByte]
theorem cutAt_lt (s : ByteArray) (h : (modeB s).2 = 0) : -1 ≤ cutAt s ∧ cutAt s + (dgB (modeB s).1).size < s.size + 1 := by
  have h1 := pre_size (modeB_ok h).2.2
  have hge := Lib.indexByte_ge (s.data.toList.drop (dgB (modeB s).1).size) 0
  refine ⟨hge, ?_⟩
  unfold cutAt
  rcases indexByte_lt (s.data.toList.drop (dgB (modeB s).1).size) 0 with h2 | h2
  · rw [List.length_drop, ← Lib.size_eq] at h2; omega
  · rw [h2]; simp [Lib.indexByte]; omega
theorem Cut_eq (s : ByteArray) (hs : s.size ≤ 140737488351232) : strings_Cut.f s ⟨#[0]⟩ = some (if Lib.indexByte s.data.toList 0 = -1 then (s, ⟨#[]⟩, false) else (s.extract 0 (Lib.indexByte s.data.toList 0).toNat, s.extract ((Lib.indexByte s.data.toList 0).toNat + 1) s.size, true)) := by
  unfold strings_Cut.f stringslite_Cut.f
  have hI : stringslite_Index.f s ⟨#[0]⟩ = some (Lib.indexByte s.data.toList 0) := rfl
  rw [hI]
  simp only [Option.bind_some]
  have hge := Lib.indexByte_ge s.data.toList 0
  by_cases h : Lib.indexByte s.data.toList 0 = -1
  · rw [if_neg (by omega), if_pos h]; rfl
  · have hlt : Lib.indexByte s.data.toList 0 < s.size := by
      rcases indexByte_lt s.data.toList 0 with h2 | h2
      · rw [Lib.size_eq]; exact h2
      · rw [h2] at h; simp [Lib.indexByte] at h
    rw [if_pos (by omega), if_pos (by omega), if_pos (by omega), z1, wrap_id (by omega) (by omega), if_pos (by omega), if_pos (by omega), if_neg h]
    have : (Lib.indexByte s.data.toList 0 + ((1 : Nat) : Int)).toNat = (Lib.indexByte s.data.toList 0).toNat + 1 := by omega
    rw [this]; rfl
theorem one_ev (s : ByteArray) (hs : s.size ≤ 100000) : Ev (fun k => graftageref15_one.f k s) (if (stepB s).1 = 0 then ((stepB s).2.1.f0, (stepB s).2.1.f1, (stepB s).2.1.f2, (s.size : Int) - (stepB s).2.2.size, 0) else (0, ⟨#[]⟩, ⟨#[]⟩, 0, (stepB s).1)) := by
  refine Ev.bind (ref_mode_ev s) ?_
  unfold stepB
  by_cases h0 : (modeB s).2 = 0
  · obtain ⟨m1, m4, mp⟩ := modeB_ok h0
    have hd := dgB_size (modeB s).1
    have hp := pre_size mp
    obtain ⟨hc0, hc1⟩ := cutAt_lt s h0
    simp only [if_pos h0]
    refine Ev.congr (f := fun k => (graftageref14_Find.f k s (((0 : UInt8).toNat : Nat) : Int) ((dgB (modeB s).1).size : Nat)).bind fun t178 => (if t178 < 0 then (some (0, (⟨#[]⟩ : ByteArray), (⟨#[]⟩ : ByteArray), 0, 3)) else (if (wrap64 ((s.size : Int) - t178)) < 21 then (some (0, (⟨#[]⟩ : ByteArray), (⟨#[]⟩ : ByteArray), 0, 3)) else (if 0 ≤ ((dgB (modeB s).1).size : Int) then (if ((dgB (modeB s).1).size : Int) ≤ t178 then (if t178 ≤ (s.size : Int) then (if 0 ≤ (wrap64 (t178 + 1)) then (if (wrap64 (t178 + 1)) ≤ (wrap64 (t178 + 21)) then (if (wrap64 (t178 + 21)) ≤ (s.size : Int) then ((graftageref02_Hex.f k (s.extract ((wrap64 (t178 + 1)) : Int).toNat ((wrap64 (t178 + 21)) : Int).toNat)).bind fun t179 => (some ((modeB s).1, s.extract (dgB (modeB s).1).size (t178 : Int).toNat, t179, wrap64 (t178 + 21), 0))) else none) else none) else none) else none) else none) else none)))) (fun k => ?_) ?_
    · rw [if_neg (by omega), if_neg (by omega), ref_digits_eq _ m1 m4]; rfl
    · refine Ev.bind (Find_ev s (by omega) 0 _ hp) ?_
      have hix : ixF s.data.toList 0 (dgB (modeB s).1).size = if cutAt s = -1 then -1 else cutAt s + (dgB (modeB s).1).size := rfl
      rw [hix]
      by_cases hc : cutAt s = -1
      · simp only [if_pos hc, hc, true_or, if_true]
        simp
        exact Ev.now _
      · simp only [if_neg hc, hc, false_or, if_false]
        by_cases hl : s.size < (dgB (modeB s).1).size + (cutAt s).toNat + 21
        · refine Ev.congr (f := fun _ => some (0, (⟨#[]⟩ : ByteArray), (⟨#[]⟩ : ByteArray), 0, 3)) (fun k => ?_) ?_
          · rw [if_neg (by omega), wrap_id (by omega) (by omega), if_pos (by omega)]
          · simp only [if_pos hl]
            simp
            exact Ev.now _
        · simp only [if_neg hl, if_true]
          have e1 : (cutAt s + ((dgB (modeB s).1).size : Int) + 1).toNat = (dgB (modeB s).1).size + (cutAt s).toNat + 1 := by omega
          have e21 : (cutAt s + ((dgB (modeB s).1).size : Int) + 21).toNat = (dgB (modeB s).1).size + (cutAt s).toNat + 21 := by omega
          have e0 : (cutAt s + ((dgB (modeB s).1).size : Int)).toNat = (dgB (modeB s).1).size + (cutAt s).toNat := by omega
          refine Ev.congr (f := fun k => (graftageref02_Hex.f k (s.extract ((dgB (modeB s).1).size + (cutAt s).toNat + 1) ((dgB (modeB s).1).size + (cutAt s).toNat + 21))).bind fun t179 => (some ((modeB s).1, s.extract (dgB (modeB s).1).size ((dgB (modeB s).1).size + (cutAt s).toNat), t179, cutAt s + ((dgB (modeB s).1).size : Int) + 21, 0))) (fun k => ?_) ?_
          · rw [if_neg (by omega), wrap_id (x := (s.size : Int) - _) (by omega) (by omega), if_neg (by omega), if_pos (by omega), if_pos (by omega), if_pos (by omega), wrap_id (x := _ + 1) (by omega) (by omega), wrap_id (x := _ + 21) (by omega) (by omega), if_pos (by omega), if_pos (by omega), if_pos (by omega), e1, e21, e0]
          · refine Ev.bind (ref_Hex_ev _ (by rw [extract_size _ _ _ (by omega)]; omega)) ?_
            have : (s.size : Int) - ((s.extract ((dgB (modeB s).1).size + (cutAt s).toNat + 21) s.size).size : Nat) = cutAt s + ((dgB (modeB s).1).size : Int) + 21 := by rw [extract_size _ _ _ (Nat.le_refl _)]; omega
            rw [this]
            exact Ev.now _
  · have hb := modeB_bad s
    simp only [if_neg h0]
    rcases hb with hb | hb | hb
    · exact absurd hb h0
    · simp only [hb]
      simp
      exact Ev.now _
    · simp only [hb]
      simp
      exact Ev.now _
/-! ### all entries -/
def endB (acc : List S35) : List S35 × Int := if checkB acc = 0 then (acc, 0) else ([], checkB acc)
def parseF : Nat → ByteArray → List S35 → List S35 × Int
  | 0, _, acc => endB acc
  | d + 1, s, acc => if s.toList = [] then endB acc else if (stepB s).1 = 0 then parseF d (stepB s).2.2 (acc ++ [(stepB s).2.1]) else ([], (stepB s).1)
theorem step_ok {s : ByteArray} (h : (stepB s).1 = 0) : (modeB s).2 = 0 ∧ ¬ (cutAt s = -1 ∨ s.size < (dgB (modeB s).1).size + (cutAt s).toNat + 21) := by
  unfold stepB at h
  by_cases h0 : (modeB s).2 = 0
  · refine ⟨h0, fun hc => ?_⟩
    simp only [if_pos h0, if_pos hc] at h
    simp at h
  · simp only [if_neg h0] at h
    exact absurd h h0
theorem step_rest {s : ByteArray} (h : (stepB s).1 = 0) : (stepB s).2.2.size + 27 ≤ s.size ∧ (stepB s).2.1.f1.size ≤ s.size := by
  obtain ⟨h0, hc⟩ := step_ok h
  obtain ⟨m1, m4, mp⟩ := modeB_ok h0
  have hd := dgB_ge m1 m4
  have hq := cutAt_lt s h0
  unfold stepB
  simp only [if_pos h0, if_neg hc]
  rw [extract_size _ _ _ (Nat.le_refl _), extract_size _ _ _ (by omega)]
  omega
theorem size_nil {s : ByteArray} (h : s.size = 0) : s.toList = [] := by
  rw [Lib.toList_data]; rw [Lib.size_eq] at h; exact List.eq_nil_of_length_eq_zero h
theorem end_ev (acc : List S35) (ha : ∀ x ∈ acc, x.f1.size ≤ 100000) : Ev (fun k => (tree_Check.f k acc).bind fun t113 => (if t113 = 0 then (some (acc, (0 : Int))) else (some (([] : List (S35)), t113)))) (endB acc) := by
  refine Ev.bind (Check_ev acc (fun x hx => by have := ha x hx; omega)) ?_
  unfold endB
  refine ev_ite (fun h => ?_) (fun h => ?_)
  · rw [if_pos h]; exact Ev.now _
  · rw [if_neg h]; exact Ev.now _
theorem ref_end_ev (acc : List S35) (ha : ∀ x ∈ acc, x.f1.size ≤ 100000) : Ev (fun k => (graftageref15_Check.f k acc).bind fun t113 => (if t113 = 0 then (some (acc, (0 : Int))) else (some (([] : List (S35)), t113)))) (endB acc) := by
  refine Ev.bind (refCheck_ev acc (fun _ x hx => by have := ha x hx; omega)) ?_
  unfold endB
  refine ev_ite (fun h => ?_) (fun h => ?_)
  · rw [if_pos h]; exact Ev.now _
  · rw [if_neg h]; exact Ev.now _
theorem Parse_l0 : ∀ (d : Nat) (s : ByteArray) (acc : List S35), s.size ≤ d → d + acc.length ≤ 100000 → s.size ≤ 100000 → (∀ x ∈ acc, x.f1.size ≤ 100000) → Ev (fun k => tree_Parse.l0 k s acc) (parseF d s acc) := by
  intro d
  induction d with
  | zero =>
    intro s acc hd hl hs ha
    refine Ev.step (f := fun k => (tree_Check.f k acc).bind fun t113 => (if t113 = 0 then (some (acc, 0)) else (some (([] : List (S35)), t113)))) (fun k => by rw [tree_Parse.l0, if_pos (size_nil (by omega))]) (end_ev acc ha)
  | succ d ih =>
    intro s acc hd hl hs ha
    rw [parseF]
    by_cases hn : s.toList = []
    · rw [if_pos hn]
      refine Ev.step (f := fun k => (tree_Check.f k acc).bind fun t113 => (if t113 = 0 then (some (acc, 0)) else (some (([] : List (S35)), t113)))) (fun k => by rw [tree_Parse.l0, if_pos hn]) (end_ev acc ha)
    · rw [if_neg hn]
      refine Ev.step (f := fun k => (tree_mode.f k s).bind fun bt114 => (if bt114.2.2 = 0 then ((strings_Cut.f bt114.2.1 (⟨#[0]⟩ : ByteArray)).bind fun bt117 => (if bt117.2.2 = true then (if (bt117.2.1.size : Int) < 20 then (some (([] : List (S35)), 3)) else (if 0 ≤ 20 then (if 20 ≤ (bt117.2.1.size : Int) then ((ident_Hex.f k (bt117.2.1.extract 0 20)).bind fun t120 => (if acc.length < 3518437208883 then (tree_Parse.l0 k (bt117.2.1.extract 20 bt117.2.1.size) (acc ++ [(⟨bt114.1, bt117.1, t120⟩ : S35)])) else (none))) else (none)) else (none))) else (some (([] : List (S35)), 3)))) else (some (([] : List (S35)), bt114.2.2)))) (fun k => by rw [tree_Parse.l0, if_neg hn]) ?_
      refine Ev.bind (mode_ev s) ?_
      unfold modeR
      by_cases h0 : (modeB s).2 = 0
      · obtain ⟨m1, m4, mp⟩ := modeB_ok h0
        have hp := pre_size mp
        obtain ⟨hc0, hc1⟩ := cutAt_lt s h0
        have hrs : (s.extract (dgB (modeB s).1).size s.size).size = s.size - (dgB (modeB s).1).size := extract_size _ _ _ (Nat.le_refl _)
        simp only [if_pos h0, if_true]
        rw [Cut_eq _ (by omega), extract_all]
        have hcut : Lib.indexByte (s.data.toList.drop (dgB (modeB s).1).size) 0 = cutAt s := rfl
        rw [hcut]
        simp only [Option.bind_some]
        by_cases hc : cutAt s = -1
        · simp only [if_pos hc, Bool.false_eq_true, if_false]
          have : (stepB s).1 = 3 := by unfold stepB; simp only [if_pos h0, hc, true_or, if_true]
          rw [if_neg (by omega), this]
          exact Ev.now _
        · simp only [if_neg hc, if_true]
          have hes : ((s.extract (dgB (modeB s).1).size s.size).extract ((cutAt s).toNat + 1) (s.extract (dgB (modeB s).1).size s.size).size) = s.extract ((dgB (modeB s).1).size + (cutAt s).toNat + 1) s.size := by
            rw [hrs, ext_ext _ _ _ _ _ (Nat.le_refl _)]
            congr 1; omega
          rw [hes, extract_size _ _ _ (Nat.le_refl _)]
          by_cases hl2 : s.size < (dgB (modeB s).1).size + (cutAt s).toNat + 21
          · have : (stepB s).1 = 3 := by unfold stepB; simp only [if_pos h0, hc, false_or, if_pos hl2]
            rw [if_neg (show ¬ (stepB s).1 = 0 by omega), this]
            refine Ev.congr (f := fun _ => some (([] : List S35), 3)) (fun k => by rw [if_pos (by omega)]) (Ev.now _)
          · have hst : stepB s = (0, ⟨(modeB s).1, s.extract (dgB (modeB s).1).size ((dgB (modeB s).1).size + (cutAt s).toNat), hexB (s.extract ((dgB (modeB s).1).size + (cutAt s).toNat + 1) ((dgB (modeB s).1).size + (cutAt s).toNat + 21))⟩, s.extract ((dgB (modeB s).1).size + (cutAt s).toNat + 21) s.size) := by
              unfold stepB; simp only [if_pos h0, hc, false_or, if_neg hl2]
            have hr := step_rest (s := s) (by rw [hst])
            have e20 : (s.extract ((dgB (modeB s).1).size + (cutAt s).toNat + 1) s.size).extract 0 20 = s.extract ((dgB (modeB s).1).size + (cutAt s).toNat + 1) ((dgB (modeB s).1).size + (cutAt s).toNat + 21) := ext_at _ _ _ _ _ _ _ (by omega) (by omega) (by omega)
            have eR : (s.extract ((dgB (modeB s).1).size + (cutAt s).toNat + 1) s.size).extract 20 (s.size - ((dgB (modeB s).1).size + (cutAt s).toNat + 1)) = s.extract ((dgB (modeB s).1).size + (cutAt s).toNat + 21) s.size := ext_at _ _ _ _ _ _ _ (Nat.le_refl _) (by omega) (by omega)
            have eN : (s.extract (dgB (modeB s).1).size s.size).extract 0 (cutAt s).toNat = s.extract (dgB (modeB s).1).size ((dgB (modeB s).1).size + (cutAt s).toNat) := ext_at _ _ _ _ _ _ _ (by omega) (by omega) (by omega)
            refine Ev.congr (f := fun k => (ident_Hex.f k (s.extract ((dgB (modeB s).1).size + (cutAt s).toNat + 1) ((dgB (modeB s).1).size + (cutAt s).toNat + 21))).bind fun t120 => (tree_Parse.l0 k (s.extract ((dgB (modeB s).1).size + (cutAt s).toNat + 21) s.size) (acc ++ [(⟨(modeB s).1, s.extract (dgB (modeB s).1).size ((dgB (modeB s).1).size + (cutAt s).toNat), t120⟩ : S35)]))) (fun k => ?_) ?_
            · rw [if_neg (by omega), if_pos (by omega), if_pos (by omega), e20, eR, eN]
              congr 1
              funext t
              rw [if_pos (by omega)]
            · refine Ev.bind (ident_Hex_ev _ (by rw [extract_size _ _ _ (by omega)]; omega)) ?_
              rw [hst] at hr ⊢
              simp only at hr
              simp only [if_true]
              refine ih _ _ (by omega) (by rw [List.length_append, List.length_singleton]; omega) (by omega) (fun x hx => ?_)
              rcases List.mem_append.1 hx with hx | hx
              · exact ha x hx
              · rw [List.mem_singleton.1 hx]; exact Nat.le_trans hr.2 hs
      · have hst : (stepB s).1 = (modeB s).2 := by unfold stepB; simp only [if_neg h0]
        simp only [if_neg h0]
        rw [if_neg (by rw [hst]; exact h0), hst]
        exact Ev.now _
theorem ref_Parse_l0 : ∀ (d : Nat) (s : ByteArray) (acc : List S35), s.size ≤ d → d + acc.length ≤ 100000 → s.size ≤ 100000 → (∀ x ∈ acc, x.f1.size ≤ 100000) → Ev (fun k => graftageref15_Parse.l0 k s acc) (parseF d s acc) := by
  intro d
  induction d with
  | zero =>
    intro s acc hd hl hs ha
    refine Ev.step (f := fun k => (graftageref15_Check.f k acc).bind fun t113 => (if t113 = 0 then (some (acc, 0)) else (some (([] : List (S35)), t113)))) (fun k => by rw [graftageref15_Parse.l0, if_pos (size_nil (by omega))]) (ref_end_ev acc ha)
  | succ d ih =>
    intro s acc hd hl hs ha
    rw [parseF]
    by_cases hn : s.toList = []
    · rw [if_pos hn]
      refine Ev.step (f := fun k => (graftageref15_Check.f k acc).bind fun t113 => (if t113 = 0 then (some (acc, 0)) else (some (([] : List (S35)), t113)))) (fun k => by rw [graftageref15_Parse.l0, if_pos hn]) (ref_end_ev acc ha)
    · rw [if_neg hn]
      refine Ev.step (f := fun k => (graftageref15_one.f k s).bind fun bt266 => (if bt266.2.2.2.2 = 0 then (if acc.length < 3518437208883 then (if 0 ≤ bt266.2.2.2.1 then (if bt266.2.2.2.1 ≤ (s.size : Int) then (graftageref15_Parse.l0 k (s.extract (bt266.2.2.2.1 : Int).toNat s.size) (acc ++ [(⟨bt266.1, bt266.2.1, bt266.2.2.1⟩ : S35)])) else (none)) else (none)) else (none)) else (some (([] : List (S35)), bt266.2.2.2.2)))) (fun k => by rw [graftageref15_Parse.l0, if_neg hn]) ?_
      refine Ev.bind (one_ev s hs) ?_
      by_cases h : (stepB s).1 = 0
      · have hr := step_rest h
        obtain ⟨h0, hc⟩ := step_ok h
        simp only [if_pos h, if_true]
        refine Ev.congr (f := fun k => graftageref15_Parse.l0 k (stepB s).2.2 (acc ++ [(stepB s).2.1])) (fun k => ?_) ?_
        · rw [if_pos (by omega), if_pos (by omega), if_pos (by omega)]
          have e : s.extract ((s.size : Int) - ((stepB s).2.2.size : Nat)).toNat s.size = (stepB s).2.2 := by
            have h2 : (stepB s).2.2 = s.extract ((dgB (modeB s).1).size + (cutAt s).toNat + 21) s.size := by unfold stepB; simp only [if_pos h0, if_neg hc]
            rw [h2, extract_size _ _ _ (Nat.le_refl _)]
            congr 1
            omega
          rw [e]
        · refine ih _ _ (by omega) (by rw [List.length_append, List.length_singleton]; omega) (by omega) (fun x hx => ?_)
          rcases List.mem_append.1 hx with hx | hx
          · exact ha x hx
          · rw [List.mem_singleton.1 hx]; omega
      · simp only [if_neg h]
        exact Ev.now _
theorem Parse_ev (s : ByteArray) (hs : s.size ≤ 100000) : Ev (fun k => tree_Parse.f k s) (parseF s.size s []) :=
  Parse_l0 s.size s [] (Nat.le_refl _) (by simpa using hs) hs (by simp)
theorem ref_Parse_ev (s : ByteArray) (hs : s.size ≤ 100000) : Ev (fun k => graftageref15_Parse.f k s) (parseF s.size s []) :=
  ref_Parse_l0 s.size s [] (Nat.le_refl _) (by simpa using hs) hs (by simp)
theorem endB_len (acc : List S35) : (endB acc).1.length ≤ acc.length := by
  unfold endB; split <;> simp
theorem parseF_len : ∀ (d : Nat) (s : ByteArray) (acc : List S35), (parseF d s acc).1.length ≤ acc.length + d
  | 0, s, acc => by rw [parseF]; have := endB_len acc; omega
  | d + 1, s, acc => by
    rw [parseF]
    split
    · have := endB_len acc; omega
    · split
      · have := parseF_len d (stepB s).2.2 (acc ++ [(stepB s).2.1])
        rw [List.length_append, List.length_singleton] at this
        omega
      · simp
theorem TreeParses_ev (s : ByteArray) : Ev (fun k => graftagelaw15_TreeParses.f k s) true := by
  unfold graftagelaw15_TreeParses.f
  refine ev_ite (fun h => liveOr15) (fun h => ?_)
  refine Ev.bind (Parse_ev s (by omega)) (Ev.bind (ref_Parse_ev s (by omega)) (Ev.bind (Same35_ev _ ?_) ?_))
  · have := parseF_len s.size s []; simp at this; omega
  · simp only [if_true]; exact liveOr15
end Go.Proofs.YtccbpbdfihnlgaaDoor.Q


/- TreeParses, over plain lists and numbers. -/
namespace Go.Proofs.YtccbpbdfihnlgaaDoor.Pure
open Go.Proofs.YtccbpbdfihnlgaaDoor.Q Go.Proofs.YtccbpbdfihnlgaaDoorW.PrintWords

theorem TreeParses : ∀ (y0 : ByteArray), y0.size ≤ 140737488351232 → ∃ k, graftagelaw15_TreeParses.f k y0 = some true :=
  fun y0 _ => (TreeParses_ev y0).rounds

end Go.Proofs.YtccbpbdfihnlgaaDoor.Pure


/- What a law's argument reads as (numbers, bools, strings, structs, slices, nested) opens into the printed kinds, with the reach's bounds; for the rows of this seat. -/
namespace Go.Proofs.YtccbpbdfihnlgaaDoor.Ro
open Go.RowKit Go.Deep Go.Proofs.YtccbpbdfihnlgaaDoorW.PrintWords

/-- What a reading of type t by the form tells in the words of kind d; S: the bounds. -/
def Opens (P : Program) (t : TypeId) {α : Type} (d : Kd α) (S : α → Prop) : Prop :=
  ∀ {H : Type} (enc : TypeId × Value → H) (w : World) (fuel : Nat) (cs : List Value) (x : DataW H × List MemPlace),
    DataW.trod enc P w 0 (fun _ => true) true fuel t cs = some x → (∀ n ∈ DataW.weights P t x.1, n ≤ reachBytes) → ∃ y : α, d.K w y cs ∧ S y

section
variable {P : Program} {t e : TypeId}

theorem Opens.int {k : IntKind} (ht : P.underlying t = some (.int k)) : Opens P t (Kd.int k) (fun y => (Lit.int k y).wf = true) := by
  intro H enc w fuel cs x h _
  obtain ⟨n, rfl, rfl, hw⟩ := DataW.trod_int ht h
  exact ⟨n, rfl, hw⟩

theorem Opens.bool (ht : P.underlying t = some .bool) : Opens P t Kd.bool (fun _ => True) := by
  intro H enc w fuel cs x h _
  obtain ⟨b, rfl, rfl⟩ := DataW.trod_bool ht h
  exact ⟨b, rfl, trivial⟩

theorem Opens.string (ht : P.underlying t = some .string) : Opens P t Kd.string (fun y => y.size ≤ 140737488351232) := by
  intro H enc w fuel cs x h hn
  obtain ⟨s, rfl, rfl, _⟩ := DataW.trod_string ht h
  refine ⟨s, rfl, ?_⟩
  have := hn s.data.toList.length (by simp [DataW.weights])
  simpa [reachBytes] using this

theorem choose_list {α : Type} {n : Nat} {p : Nat → α → Prop} (h : ∀ i, i < n → ∃ y, p i y) : ∃ l : List α, l.length = n ∧ ∀ i y, l[i]? = some y → p i y := by
  induction n with
  | zero => exact ⟨[], rfl, fun i y hy => by simp at hy⟩
  | succ n ih =>
    obtain ⟨l, hl, hp⟩ := ih (fun i hi => h i (by omega))
    obtain ⟨y, hy⟩ := h n (by omega)
    refine ⟨l ++ [y], by simp [hl], fun i z hz => ?_⟩
    rcases Nat.lt_or_ge i l.length with hi | hi
    · rw [List.getElem?_append_left hi] at hz
      exact hp i z hz
    · rw [List.getElem?_append_right hi] at hz
      have : i - l.length = 0 := by
        have := (List.getElem?_eq_some_iff.1 hz).1
        simpa using this
      rw [this] at hz
      have h1 : i = n := by omega
      subst h1
      have : y = z := by simpa using hz
      subst this
      exact hy

theorem weightsAll_mem {H : Type} {e : TypeId} : ∀ {l : List (DataW H)} {d : DataW H}, d ∈ l → ∀ n ∈ d.weights P e, n ∈ DataW.weightsAll P e l
  | a :: l, d, hd, n, hn => by
    simp only [DataW.weightsAll, List.mem_append]
    rcases List.mem_cons.1 hd with rfl | hd
    · exact .inl hn
    · exact .inr (weightsAll_mem hd n hn)

theorem Opens.slice {α : Type} {d : Kd α} {S : α → Prop} {b : Nat} (ht : P.underlying t = some (.slice e)) (hc : P.cellsOf e = d.sz) (hb : P.bytesOf e = b) (h : Opens P e d S) :
    Opens P t (Kd.slice e d) (fun l => l.length * b ≤ 140737488351232 ∧ ∀ y ∈ l, S y) := by
  intro H enc w fuel cs x hx hn
  rcases open_slice ht hx with ⟨rfl, rfl⟩ | ⟨a, len, cap, m, n, D, Pl, rfl, _, hl, hm, hmm, rfl, hall⟩
  · exact ⟨[], ⟨none, 0, rfl, Nat.le_refl _, rfl, by simp, fun h => absurd h (by simp)⟩, by simp, by simp⟩
  · simp only [if_true] at hmm
    obtain rfl : m = cap := hmm
    have hel : ∀ i, i < len → ∃ y : α, (∃ cs', w.cells? 0 (a.add (i * P.cellsOf e)) (P.cellsOf e) = some cs' ∧ d.K w y cs') ∧ S y := by
      intro i hi
      obtain ⟨cs', h1, h2⟩ := hall i (by omega)
      obtain ⟨y, hy, hs⟩ := h enc w n cs' _ h2 (fun k hk => hn k (by
        simp only [DataW.weights, ht, List.mem_cons, List.mem_append]
        exact .inr (.inl (weightsAll_mem (List.mem_map.2 ⟨i, List.mem_range.2 hi, rfl⟩) k hk))))
      exact ⟨y, ⟨cs', h1, hy⟩, hs⟩
    obtain ⟨l, hll, hp⟩ := choose_list hel
    subst hll
    have hw : (l.length + (m - l.length)) * b ≤ reachBytes := by
      have := hn _ (by simp only [DataW.weights, ht, List.mem_cons]; exact .inl rfl)
      simpa [hb] using this
    refine ⟨l, ⟨some a, m, rfl, hl, rfl, by unfold maxLen at hm; omega, fun _ => ⟨a, rfl, fun j p hj => ?_⟩⟩, ?_, fun y hy => ?_⟩
    · obtain ⟨⟨cs', h1, hk⟩, _⟩ := hp j p hj
      obtain ⟨_, hlen, hcell⟩ := World.cells?_some h1
      refine ⟨cs', by rw [hlen, hc], hk, fun i u hu => ?_⟩
      have hi : i < P.cellsOf e := by
        have := (List.getElem?_eq_some_iff.1 hu).1
        omega
      have := hcell i hi
      rw [Go.Deep.add_add, hu, hc] at this
      exact this
    · have : l.length * b ≤ (l.length + (m - l.length)) * b := Nat.mul_le_mul_right _ (by omega)
      simp only [reachBytes] at hw
      omega
    · obtain ⟨j, hj⟩ := List.mem_iff_getElem?.1 hy
      exact (hp j y hj).2

/-- The fields from one on, in line. -/
def OpensF (P : Program) (fs : List Field) (o : Nat) {α : Type} (d : Kd α) (S : α → Prop) : Prop :=
  ∀ {H : Type} (enc : TypeId × Value → H) (w : World) (n : Nat) (cs : List Value) (ys : List (DataW H × List MemPlace)),
    (∀ (i : Nat) (f : Field), fs[i]? = some f → DataW.trod enc P w 0 (fun _ => true) true n f.type ((cs.drop f.offset).take (P.cellsOf f.type)) = ys[i]?) → ys.length = fs.length →
    (∀ k ∈ DataW.weightsEach P (fs.map (·.type)) (ys.map (·.1)), k ≤ reachBytes) → cs.length = o + d.sz → ∃ y : α, d.K w y (cs.drop o) ∧ S y

theorem OpensF.one {α : Type} {f : Field} {o : Nat} {d : Kd α} {S : α → Prop} (ho : f.offset = o) (hc : P.cellsOf f.type = d.sz) (h : Opens P f.type d S) : OpensF P [f] o d S := by
  intro H enc w n cs ys hf hl hw hlen
  match ys, hl with
  | [y], _ =>
    have h1 := hf 0 f rfl
    rw [ho, hc, List.take_of_length_le (by rw [List.length_drop]; omega)] at h1
    exact h enc w n _ y h1 (fun k hk => hw k (by simp [DataW.weightsEach, hk]))

theorem OpensF.cons {α β : Type} {f : Field} {fs : List Field} {o o' : Nat} {d : Kd α} {d' : Kd β} {S : α → Prop} {S' : β → Prop} (ho : f.offset = o) (hc : P.cellsOf f.type = d.sz) (ho' : o + d.sz = o')
    (h : Opens P f.type d S) (h' : OpensF P fs o' d' S') : OpensF P (f :: fs) o (Kd.pair d d') (fun z => S z.1 ∧ S' z.2) := by
  intro H enc w n cs ys hf hl hw hlen
  match ys, hl with
  | y :: ys, hl =>
    have h1 := hf 0 f rfl
    rw [ho, hc] at h1
    have hlen' : cs.length = o + (d.sz + d'.sz) := hlen
    obtain ⟨a, ha, hs⟩ := h enc w n _ y h1 (fun k hk => hw k (by simp only [List.map_cons, DataW.weightsEach, List.mem_append]; exact .inl hk))
    obtain ⟨b, hb, hs'⟩ := h' enc w n cs ys (fun i g hg => hf (i + 1) g (by simpa using hg)) (by simpa using hl) (fun k hk => hw k (by simp only [List.map_cons, DataW.weightsEach, List.mem_append]; exact .inr hk)) (by omega)
    refine ⟨(a, b), ⟨_, _, ?_, ha, hb⟩, hs, hs'⟩
    rw [← ho', ← List.drop_drop, List.take_append_drop]

theorem Opens.struct {α β : Type} {fs : Array Field} {d : Kd α} {S : α → Prop} {f : β → α} {g : α → β} (ht : P.underlying t = some (.struct fs)) (hc : P.cellsOf t = d.sz) (hfg : ∀ a, f (g a) = a) (h : OpensF P fs.toList 0 d S) :
    Opens P t (Kd.iso d f) (fun y => S (f y)) := by
  intro H enc w fuel cs x hx hn
  obtain ⟨xs, n, _, rfl, hl, hlen, hf⟩ := DataW.trod_struct ht hx
  obtain ⟨a, ha, hs⟩ := h enc w n cs xs (fun i q hq => hf i q (by simpa using hq)) (by simpa using hlen) (fun k hk => hn k (by simpa [DataW.weights, ht] using hk)) (by rw [hl, hc]; omega)
  refine ⟨g a, ?_, by show S (f (g a)); rw [hfg]; exact hs⟩
  show d.K w (f (g a)) cs
  rw [hfg]
  simpa using ha

theorem Opens.imp {α : Type} {d : Kd α} {S S' : α → Prop} (h : Opens P t d S) (hS : ∀ y, S y → S' y) : Opens P t d S' := by
  intro H enc w fuel cs x hx hn
  obtain ⟨y, hy, hs⟩ := h enc w fuel cs x hx hn
  exact ⟨y, hy, hS y hs⟩

/-- An argument: its cells, told. -/
theorem Opens.arg {H : Type} {enc : TypeId × Value → H} {α : Type} {d : Kd α} {S : α → Prop} {w : World} {ts : List TypeId} {ds : List (DataW H)} {j : Nat} {v : Value} {dd : DataW H} {ps : List MemPlace} (h : Opens P t d S)
    (hz : (DataW.weightsEach P ts ds).all (· ≤ reachBytes) = true) (ht : ts[j]? = some t) (hd : ds[j]? = some dd) (hv : DataW.Trod enc P w 0 (fun _ => true) true t v dd ps) : ∃ y : α, d.K w y v.cells.toList ∧ S y := by
  obtain ⟨fuel, hf⟩ := hv
  exact h enc w fuel _ (dd, ps) hf (fun n hn => by simpa using List.all_eq_true.1 hz n (DataW.weights_mem_each ht hd n hn))

theorem arg_lt {H : Type} {enc : TypeId × Value → H} {w : World} {v : Value} {dd : DataW H} {ps : List MemPlace} (hv : DataW.Trod enc P w 0 (fun _ => true) true t v dd ps) : ∀ x ∈ ps, x.block < w.heap.size := by
  obtain ⟨m, hm⟩ := hv
  exact DataW.trod_lt m _ _ _ hm
end
end Go.Proofs.YtccbpbdfihnlgaaDoor.Ro


/- The law TreeParses holds: for every input it returns true, and each argument reads afterwards as it read before. -/
namespace Go.Proofs.YtccbpbdfihnlgaaDoor.treeParses
open Go.ChangeShapes Go.WideShapes Go.ChangeAt Go.RowKit Go.Proofs.YtccbpbdfihnlgaaDoor.Ro Go.Proofs.YtccbpbdfihnlgaaDoor.Q Go.Proofs.YtccbpbdfihnlgaaDoorW.PrintWords
open Go.ChangeMaps (open_string shut_string)
theorem own : ownKnob Tryd.prog.godebug = none := by kernel_rfl
theorem laidOut : laidOutB Tryd.prog = true := by kernel_rfl
theorem opens9 : Opens Tryd.prog 9 Kd.string (fun y => y.size ≤ 140737488351232) := (Opens.string Tryd.underlying9)
set_option maxRecDepth 100000 in
theorem lifted (os : Os) (started : os.Started) (H : Type) (enc : TypeId × Value → H) :
    ReturnsInHanded {} Tryd.checked os 4 .any (fun w args => (Rows.treeParsesSpec.pre enc Tryd.prog Tryd.f4 [] false w args ∧ laidMetH Tryd.prog Rows.treeParsesRow.laid w) ∧ sizedMet enc Tryd.prog Tryd.f4 (OpenSpec.ofChange Rows.treeParsesSpec) false w args) (Rows.treeParsesSpec.post enc Tryd.prog Tryd.f4 false true false false) := by
  refine returnsInHanded_of_change_and (C := Tryd.checked) (X := fun w _ => laidMetH Tryd.prog Rows.treeParsesRow.laid w) (fun _ _ _ hh h => h.of_heap hh) own started (by kernel_rfl) Tryd.func4
    (ChangeSpec.witness_shaped (enc := enc) (C := Tryd.checked) (os := os) (X := fun w _ => laidMetH Tryd.prog Rows.treeParsesRow.laid w) false (World.laidAll Tryd.prog os Rows.treeParsesRow.laid) #[.string ByteArray.empty] 8 (World.laidAll_os _ _ _)
      (World.shaped_of_ZipB (by kernel_rfl) (by kernel_rfl)) (by kernel_rfl) (by kernel_rfl) (by kernel_rfl)
      (by rw [MakeChecks.laidMetH_plain _ _ _ (by kernel_rfl)]; exact laidMet_laidAll _ (by kernel_rfl) (by kernel_rfl))) ?_
  intro W base args ds gs before hval0 hW hcnd hsz0 _ _
  have hsz : (DataW.weightsEach Tryd.prog (Tryd.f4.params.toList ++ Rows.treeParsesSpec.plain.varTypes Tryd.prog) (ds ++ gs)).all (· ≤ reachBytes) = true := hsz0
  have hval : ∀ (j : Nat) t v, Tryd.f4.params[j]? = some t → args[j]? = some v → Value.okWide Tryd.prog W .any base t v := hval0
  have hW' := hW
  obtain ⟨p, q, hA0, hV, rfl, hfz, hnd⟩ := hW
  have hA : DataW.TrodAll enc Tryd.prog W 0 (fun _ => true) true Tryd.f4.params.toList args.toList ds p := hA0
  rw [Tryd.params4] at hA hval hsz
  obtain ⟨v0, vs0, d0, ds0, p0, q0, hargs, rfl, rfl, h0, r0⟩ := trodAll_cons hA
  obtain ⟨rfl, rfl, rfl⟩ := trodAll_nil r0
  obtain rfl : args = #[v0] := by cases args; simp_all
  obtain ⟨rfl, rfl⟩ := trodVars_none hV
  have lt0 := arg_lt h0
  obtain ⟨y0, hk0, w0⟩ := opens9.arg hsz (j := 0) rfl rfl h0
  obtain ⟨x0, rfl⟩ := okWide_string Tryd.underlying9 (hval 0 9 v0 rfl rfl)
  obtain rfl : x0 = y0 := by simpa [Kd.string, Kd.scalar, Value.cells] using hk0
  obtain ⟨k, hp⟩ := Pure.TreeParses _ w0
  clear hA0 hval0 hsz0 hsz
  refine (Q.graftagelaw15_TreeParses.calls k _ true W  hp).mono ?_
  rintro e W' ⟨rfl, bel0⟩
  have bel : Below W.heap.size W W' := bel0
  exact ⟨_, rfl, _, _, _, [], _, [], hW', trodAll_mk1 (shut_bool Tryd.underlying4 _), (trodAll_cons_mk (Below.trod laidOut (by kernel_rfl) (of_decide_eq_true (by kernel_rfl)) h0 bel lt0) trodAll_mk0), rfl, bel.frame _, fun h => by cases h⟩
theorem over : Rows.treeParsesRow.holds Tryd.pinned (OpenSpec.ofChange Rows.treeParsesSpec) :=
  OpenClaim.holds_of_wide 4 Tryd.f4 rfl rfl rfl rfl rfl rfl rfl ⟨rfl, rfl, rfl, rfl, rfl⟩ rfl rfl rfl rfl rfl (by kernel_rfl) Tryd.func4 (by kernel_rfl)
    (of_decide_eq_true (by kernel_rfl)) (by unfold Func.isWrapper; first | (rw [if_pos (by decide +kernel)]; kernel_rfl) | (rw [if_neg (by decide +kernel)]; exact ⟨rfl, rfl⟩))
    (fun os started H enc _ => lifted os started H enc)
theorem proved : Rows.TreeParsesSaid := over
theorem card_holds : Rows.TreeParsesCardSaid :=
  Claim7.holds_tied_plain_at .later [] [.data, .pinned] true (true, "f211dbb39e0f8aee4bdc9ae8c5517fa944c5333aa6a5e92b425f441664a6fa8b") false over (fun _ h => by cases h) (by kernel_rfl) (fun _ h => by cases h) treeParses_row_tie rfl ⟨rfl, rfl⟩ (by kernel_rfl) rfl
    (fun f fn hf hfn => by
      obtain rfl : f = 4 := Option.some.inj ((show Tryd.prog.funcNamed "graftage/graftagelaw15.TreeParses" = some 4 by kernel_rfl).symm.trans hf) |>.symm
      obtain rfl : fn = Tryd.f4 := (Option.some.inj (Tryd.func4.symm.trans hfn)).symm
      exact ⟨by kernel_rfl, fun j t ht => by
        rw [Tryd.params4] at ht
        have hm : t ∈ [9] := by simpa using Array.mem_of_getElem? ht
        have hall : ([9].all fun u => !Tryd.prog.wantsStandIn u) = true := by kernel_rfl
        exact (show Tryd.prog.wantsStandIn t = false by simpa using List.all_eq_true.1 hall t hm)⟩)
    (by kernel_rfl)
#print axioms card_holds
end Go.Proofs.YtccbpbdfihnlgaaDoor.treeParses
namespace Go.Proofs.YtccbpbdfihnlgaaDoor
/-- The statement, under a short name, for the claim. -/
theorem treeParses_holds : Rows.TreeParsesCardSaid := treeParses.card_holds
end Go.Proofs.YtccbpbdfihnlgaaDoor


