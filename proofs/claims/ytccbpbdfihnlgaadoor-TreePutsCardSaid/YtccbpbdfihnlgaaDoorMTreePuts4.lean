/- The law TreePuts holds: for every input it returns true, and each argument reads afterwards as it read before. -/
import Derived.Test.YtccbpbdfihnlgaaDoorMYTreePuts1
import Derived.Test.YtccbpbdfihnlgaaDoorMTreePuts1
import Derived.Test.YtccbpbdfihnlgaaDoorMTreePuts2
import Derived.Test.YtccbpbdfihnlgaaDoorMTreePuts3
import Derived.Laws.Cover1
import Derived.Sort.Walk0
import Derived.Deep.Slices
import Derived.Lib.SmallJoins
import Derived.ChangeArms
import Derived.SizedLaws
import Derived.WalkKit
import Derived.ProofKit
import Derived.Test.YtccbpbdfihnlgaaDoorRows
import Derived.Test.YtccbpbdfihnlgaaDoorTie
import Derived.Test.YtccbpbdfihnlgaaDoorCards
import Derived.OpenShut
import Derived.ShutString
import Derived.ChangeOld
import Derived.Below
import Derived.Lay
import Derived.LaidOnce
import Derived.SevenTiedAt
import Derived.LaidLaws
import Derived.Handed
import Derived.ChangeVars
import Derived.JoinedOf
set_option linter.unusedVariables false
set_option linter.unusedSimpArgs false
/- Contracts of Go functions as calls of plain Lean functions, written by a program of this session over the kit's print. -/
namespace Go.Proofs.YtccbpbdfihnlgaaDoor.Q
open Go.RowKit Go.Proofs.YtccbpbdfihnlgaaDoorW.PrintWords Go.Proofs.YtccbpbdfihnlgaaDoorW.PrintLast Go.Proofs.YtccbpbdfihnlgaaDoorW.PrintMore
attribute [local go_sem] max2_int min2_int max_two min_two max_three min_three max_four min_four   -- for this text's walks alone

attribute [local go_sem high] eqA35
/-! ### graftagelaw15_TreePuts: function 7 -/
mutual
def graftagelaw15_TreePuts.j0 : Nat → List (S35) → ByteArray → Bool → Int → ByteArray → ByteArray → Option (Bool)
  | 0, _, _, _, _, _, _ => none
  | k + 1, x0, x2, x23, x102000, x102001, x102002 => if x23 = true then ((graftagelaw15_lives.f k).bind fun t103 => (some t103)) else ((tree_Find.f k x0 x2).bind fun bt104 => ((graftageref15_Find.f k x0 x2).bind fun bt109 => (graftagelaw15_TreePuts.l0 k x0 x2 bt104.2.2.2 bt109.2.2.2 (x0.length : Int) 0 x102000 x102001 x102002 bt104.1 bt104.2.1 bt104.2.2.1 bt109.1 bt109.2.1 bt109.2.2.1)))
def graftagelaw15_TreePuts.l0 : Nat → List (S35) → ByteArray → Bool → Bool → Int → Int → Int → ByteArray → ByteArray → Int → ByteArray → ByteArray → Int → ByteArray → ByteArray → Option (Bool)
  | 0, _, _, _, _, _, _, _, _, _, _, _, _, _, _, _ => none
  | k + 1, x0, x2, x8, x10, x38, x39, x102000, x102001, x102002, x109000, x109001, x109002, x114000, x114001, x114002 => if x39 < x38 then (if 0 ≤ x39 then (if x39 < (x0.length : Int) then ((tree_Less.f ((rd_T35 x0 x39).f0) ((rd_T35 x0 x39).f1) ((rd_T35 x0 x39).f2) x102000 x102001 x102002).bind fun t115 => ((graftageref15_Less.f ((rd_T35 x0 x39).f0) ((rd_T35 x0 x39).f1) ((rd_T35 x0 x39).f2) x102000 x102001 x102002).bind fun t117 => (if (t115 != t117) = true then (some false) else ((tree_Less.f x102000 x102001 x102002 ((rd_T35 x0 x39).f0) ((rd_T35 x0 x39).f1) ((rd_T35 x0 x39).f2)).bind fun t119 => ((graftageref15_Less.f x102000 x102001 x102002 ((rd_T35 x0 x39).f0) ((rd_T35 x0 x39).f1) ((rd_T35 x0 x39).f2)).bind fun t121 => (if (t119 != t121) = true then (some false) else (graftagelaw15_TreePuts.l0 k x0 x2 x8 x10 x38 (wrap64 (x39 + 1)) x102000 x102001 x102002 x109000 x109001 x109002 x114000 x114001 x114002))))))) else (none)) else (none)) else (if (x109000 == x114000 && (x109001.toList == x114001.toList && (x109002.toList == x114002.toList))) = true then (if (x8 == x10) = true then ((tree_Put.f k x0 x102000 x102001 x102002).bind fun t122 => ((graftageref15_Put.f k x0 x102000 x102001 x102002).bind fun t125 => ((graftageref15_Same.f k t122 t125).bind fun t128 => (if t128 = true then ((tree_Drop.f k x0 x2).bind fun t129 => ((graftageref15_Drop.f k x0 x2).bind fun t132 => ((graftageref15_Same.f k t129 t132).bind fun t135 => (if t135 = true then ((graftagelaw15_lives.f k).bind fun t136 => (some t136)) else (some false))))) else (some false))))) else (some false)) else (some false))
end
def graftagelaw15_TreePuts.f (k : Nat) (l0 : List (S35)) (a1_0 : Int) (a1_1 : ByteArray) (a1_2 : ByteArray) (a2 : ByteArray) : Option (Bool) := (graftagelaw15_few.f k l0).bind fun t102 => (if t102 = true then (graftagelaw15_TreePuts.j0 k l0 a2 (decide ((wrap64 ((a1_1.size : Int) + (a2.size : Int))) > 500)) a1_0 a1_1 a1_2) else (graftagelaw15_TreePuts.j0 k l0 a2 true a1_0 a1_1 a1_2))
def graftagelaw15_TreePuts.T8 : Bool × List (List Nat × List Nat) := (true, [([], []), ([], []), ([0, 1], [0, 1]), ([2], [2]), ([], []), ([3, 4], [3, 4]), ([], []), ([], []), ([6, 7], [6, 7]), ([8], [8]), ([], []), ([9, 10, 5], [9, 10]), ([5, 11], [5, 11]), ([12, 11], [12]), ([13], [13]), ([13], [13]), ([13], [13]), ([15, 16, 13], [13, 15, 16]), ([17, 13], [13, 17]), ([14, 18, 13, 13], [13, 14, 18]), ([13], [13]), ([13], [13]), ([13], [13]), ([21, 22, 13], [13, 21, 22]), ([23, 13], [13, 23]), ([20, 24, 19, 13], [13, 20, 24]), ([19, 25, 13], [13, 19, 25]), ([13, 26], [13, 26])])
def graftagelaw15_TreePuts.B8 : List Nat := [0, 0, 3, 7, 0, 31, 0, 0, 192, 448, 0, 2047, 4095, 8191, 16383, 16383, 16383, 114687, 245759, 524287, 16383, 16383, 16383, 6307839, 14696447, 33554431, 67108863, 134217727]
theorem graftagelaw15_TreePuts.tab8 : rtab .any (opsOf Tryd.f7 8) = graftagelaw15_TreePuts.T8 := by kernel_rfl
theorem graftagelaw15_TreePuts.bits8 : waitsOk graftagelaw15_TreePuts.T8.2 graftagelaw15_TreePuts.B8 = true := by kernel_rfl
def graftagelaw15_TreePuts.T11 : Bool × List (List Nat × List Nat) := (true, [([], []), ([], []), ([0, 1], [0, 1]), ([2], [2]), ([3], [3]), ([3], [3]), ([4, 5, 3], [3, 4, 5]), ([3, 6], [3, 6]), ([7, 3], [7]), ([8], [8]), ([8], [8]), ([9, 10, 8, 8], [8, 9, 10]), ([8], [8]), ([8], [8]), ([12, 13, 11, 8], [8, 12, 13]), ([11, 14, 14, 8], [8, 11, 14]), ([8, 15], [8, 15]), ([16, 15], [16]), ([17], [17]), ([17], [17]), ([18, 19, 17, 17], [17, 18, 19]), ([17], [17]), ([17], [17]), ([21, 22, 20, 17], [17, 21, 22]), ([20, 23, 23, 17], [17, 20, 23]), ([17, 24], [17, 24]), ([25, 24], [25]), ([26, 26], [26]), ([26, 27], [26, 27]), ([28, 27, 0, 1, 2, 3, 4, 5, 6, 7, 8, 9, 10, 11, 12, 13, 14, 15, 16, 17, 18, 19, 20, 21, 22, 23, 24, 25, 26, 27, 28], [28])])
def graftagelaw15_TreePuts.B11 : List Nat := [0, 0, 3, 7, 15, 15, 63, 127, 255, 511, 511, 2047, 511, 511, 16383, 32767, 65535, 131071, 262143, 262143, 1048575, 262143, 262143, 8388607, 16777215, 33554431, 67108863, 134217727, 268435455, 536870911]
theorem graftagelaw15_TreePuts.tab11 : rtab .any (opsOf Tryd.f7 11) = graftagelaw15_TreePuts.T11 := by kernel_rfl
theorem graftagelaw15_TreePuts.bits11 : waitsOk graftagelaw15_TreePuts.T11.2 graftagelaw15_TreePuts.B11 = true := by kernel_rfl
set_option maxHeartbeats 8000000 in
set_option maxRecDepth 100000 in
theorem graftagelaw15_TreePuts.callsT (k : Nat) (A0 : Option Addr) (c0 : Nat) (l0 : List (S35)) (a1_0 : Int) (a1_1 : ByteArray) (a1_2 : ByteArray) (a2 : ByteArray) (r : Bool) (w : World) (hr0 : Kd.C k35 w A0 l0.length l0) (hc0 : l0.length ≤ c0) (hr_ : r = true) (h : graftagelaw15_TreePuts.f k l0 a1_0 a1_1 a1_2 a2 = some r) :
    Calls Tryd.prog 7 #[.slice A0 l0.length c0, .agg #[.int .i64 a1_0, .string a1_1, .string a1_2], .string a2] w fun e w' => e = .returned (.bool r) ∧ Below w.heap.size w w' := by
  have hu35 := Tryd.underlying35
  have HR0 := Aside0.mk hr0
  have HC0 := Aside0.mk hc0
  clear hr0 hc0
  have HB := Aside0.mk (Below.refl w.heap.size w)
  have H : ((graftagelaw15_few.f k l0).bind fun t102 => (if t102 = true then (graftagelaw15_TreePuts.j0 k l0 a2 (decide ((wrap64 ((a1_1.size : Int) + (a2.size : Int))) > 500)) a1_0 a1_1 a1_2) else (graftagelaw15_TreePuts.j0 k l0 a2 true a1_0 a1_1 a1_2))) = some r := h
  clear h
  have HC4 := Aside0.mk H
  clear H
  go_enter Tryd.func7, Tryd.ntmps7
  go_upto_region 1 with (first | ((with_reducible refine gate_dst (N := 4) rfl ?_); (try (refine gate_guard (by rfl) ?_; dsimp only)); refine box_event ?hg (N := 4) ?hd (cs := #[.int .i64 a1_0, .string a1_1, .string a1_2]) (t := 35) ?hr ?_; (case hd => rfl); (case hg => rfl); (case hr => first | (go_simp; done) | (go_simp; rfl)); intro gb101 hg w5 hbox hb; have n0_ := Aside0.mk (below_step (by repeat (first | (with_reducible first | exact HB.out | apply below_alloc | apply pw_below_drewN | apply below_drew1) | exact HB.out)) hb); have n1_ := Aside0.mk (hbox); have n2_ := Aside0.mk ((by rw [hg]; exact (below_size (by repeat (first | (with_reducible first | exact HB.out | apply below_alloc | apply pw_below_drewN | apply below_drew1) | exact HB.out))) : w.heap.size ≤ gb101)); have n3_ := Aside0.mk ((by rw [hg]; exact (below_size (by repeat (first | (with_reducible first | exact HB.out | apply below_alloc | apply pw_below_drewN | apply below_drew1) | exact HB.out))) : w.heap.size ≤ gb101)); clear HB; have HB := n0_; have BK101 := n1_; have GW101 := n2_; have GE101 := n3_; clear n0_ n1_ n2_ n3_; clear hb hbox hg))
  (try simp only [Act.put, List.setIfInBounds_toArray, List.set_cons_zero, List.set_cons_succ])
  go_cut [23] (fun v23 wc => ∃ (kq : Nat) (x23_3 : Bool), v23 = .bool x23_3 ∧ Aside0 (graftagelaw15_TreePuts.j0 kq l0 a2 x23_3 a1_0 a1_1 a1_2 = some r) ∧ Aside0 (kq ≤ k) ∧ Aside0 (wc.heap[gb101]? = some (.cells #[.int .i64 a1_0, .string a1_1, .string a1_2] 35 (0, 0))) ∧ Aside0 (Below w.heap.size w wc))
  case first =>
    have H := HC4.out
    clear HC4
    replace H := Option.bind_eq_some_iff.mp H
    obtain ⟨t102, A60, H⟩ := H
    replace H : (if t102 = true then (graftagelaw15_TreePuts.j0 k l0 a2 (decide ((wrap64 ((a1_1.size : Int) + (a2.size : Int))) > 500)) a1_0 a1_1 a1_2) else (graftagelaw15_TreePuts.j0 k l0 a2 true a1_0 a1_1 a1_2)) = some r := H
    have A6 := Aside0.mk A60
    clear A60
    by_cases c7 : t102 = true
    · subst c7
      have H1 : (graftagelaw15_TreePuts.j0 k l0 a2 (decide ((wrap64 ((a1_1.size : Int) + (a2.size : Int))) > 500)) a1_0 a1_1 a1_2) = some r := by rw [if_pos rfl] at H; exact H
      clear H
      have H := H1
      clear H1
      have H' := Aside0.mk H
      clear H
      go_wp2_with (first | ((with_reducible refine gate_callee (f := 14) rfl ?_); refine goesL_ (some 13) rfl rfl Tryd.func14 (by kernel_rfl) rfl #[.slice A0 l0.length c0] rfl (by (try simp only [List.map_toArray, List.map_cons, List.map_nil]); first | done | rfl | (simp only [List.length_drop, List.length_take]; rfl)) ?_; (with_reducible refine (graftagelaw15_few.calls k _ _ l0 true _ ?side1 ?side2 A6.out).mono ?_); (case side1 => repeat (first | exact (Kd.C_below HR0.out HB.out) | (with_reducible refine Kd.C_alloc ?_ _) | (with_reducible refine Kd.C_drewN ?_ _) | (with_reducible refine Kd.C_drew ?_))); (case side2 => exact HC0.out); rintro e w' ⟨rfl, ⟨nd, rfl⟩⟩; refine ⟨_, rfl, ?_⟩; have hcz8_0 : w5.cell? ⟨gb101, 0, none⟩ = some (.int .i64 a1_0) := (blk_cell BK101.out 0).trans rfl; have hcz8_1 : w5.cell? ⟨gb101, 1, none⟩ = some (.string a1_1) := (blk_cell BK101.out 1).trans rfl; have hcz8_2 : w5.cell? ⟨gb101, 2, none⟩ = some (.string a1_2) := (blk_cell BK101.out 2).trans rfl; have hfz8_0 := blk_frozen BK101.out 0; have hfz8_1 := blk_frozen BK101.out 1; have hfz8_2 := blk_frozen BK101.out 2))
      go_meet
      case rel => exact ⟨_, (decide ((wrap64 ((a1_1.size : Int) + (a2.size : Int))) > 500)), (by first | rfl | (simp; done) | (simp [*]; done) | (simp [ne_nil_bool]; done) | (simp [*, ne_nil_bool]; done)), H', ⟨by first | omega | exact Nat.le_refl _⟩, ⟨by (with_reducible repeat (first | refine blk_drewN ?_ _ | refine blk_drew ?_ | refine blk_alloc ?_ _)); exact BK101.out⟩, ⟨by repeat (first | (with_reducible first | exact HB.out | apply below_alloc | apply pw_below_drewN | apply below_drew1 | refine below_set ?_ GE101.out) | exact HB.out)⟩⟩
    · replace c7 := Bool.eq_false_iff.mpr c7
      subst c7
      have H1 : (graftagelaw15_TreePuts.j0 k l0 a2 true a1_0 a1_1 a1_2) = some r := by rw [if_neg (show ¬ (false = true) by decide)] at H; exact H
      clear H
      have H := H1
      clear H1
      have H' := Aside0.mk H
      clear H
      go_wp2_with (first | ((with_reducible refine gate_callee (f := 14) rfl ?_); refine goesL_ (some 13) rfl rfl Tryd.func14 (by kernel_rfl) rfl #[.slice A0 l0.length c0] rfl (by (try simp only [List.map_toArray, List.map_cons, List.map_nil]); first | done | rfl | (simp only [List.length_drop, List.length_take]; rfl)) ?_; (with_reducible refine (graftagelaw15_few.calls k _ _ l0 false _ ?side1 ?side2 A6.out).mono ?_); (case side1 => repeat (first | exact (Kd.C_below HR0.out HB.out) | (with_reducible refine Kd.C_alloc ?_ _) | (with_reducible refine Kd.C_drewN ?_ _) | (with_reducible refine Kd.C_drew ?_))); (case side2 => exact HC0.out); rintro e w' ⟨rfl, ⟨nd, rfl⟩⟩; refine ⟨_, rfl, ?_⟩))
      go_meet
      case rel => exact ⟨_, (true), (by first | rfl | (simp; done) | (simp [*]; done) | (simp [ne_nil_bool]; done) | (simp [*, ne_nil_bool]; done)), H', ⟨by first | omega | exact Nat.le_refl _⟩, ⟨by (with_reducible repeat (first | refine blk_drewN ?_ _ | refine blk_drew ?_ | refine blk_alloc ?_ _)); exact BK101.out⟩, ⟨by repeat (first | (with_reducible first | exact HB.out | apply below_alloc | apply pw_below_drewN | apply below_drew1 | refine below_set ?_ GE101.out) | exact HB.out)⟩⟩
  case rest =>
    clear HC4
    try clear c1
    try clear p2
    try clear p6
    try clear c7
    try clear hcz8_0
    try clear hcz8_1
    try clear hcz8_2
    try clear hfz8_0
    try clear hfz8_1
    try clear hfz8_2
    obtain ⟨kq, x23_3, rfl, HA, HJ3, BK101, HB⟩ := hcut
    cases kq with
    | zero => exact absurd HA.out (by simp [graftagelaw15_TreePuts.j0])
    | succ kj3 =>
      have H := HA.out
      clear HA
      simp only [graftagelaw15_TreePuts.j0] at H
      by_cases c9 : x23_3 = true
      · subst c9
        have H1 : ((graftagelaw15_lives.f kj3).bind fun t103 => (some t103)) = some r := by rw [if_pos rfl] at H; exact H
        clear H
        have H := H1
        clear H1
        replace H := Option.bind_eq_some_iff.mp H
        obtain ⟨t103, A100, H⟩ := H
        replace H : (some t103) = some r := H
        have A10 := Aside0.mk A100
        clear A100
        obtain rfl := Option.some.inj H
        go_wp2_with (first | ((with_reducible refine gate_callee (f := 15) rfl ?_); refine goesL_ (some 24) rfl rfl Tryd.func15 (by kernel_rfl) rfl #[] rfl (by (try simp only [List.map_toArray, List.map_cons, List.map_nil]); first | done | rfl | (simp only [List.length_drop, List.length_take]; rfl)) ?_; (with_reducible refine (graftagelaw15_lives.calls kj3  t103 _ A10.out).mono ?_); rintro e w11 ⟨rfl, hb⟩; refine ⟨_, rfl, ?_⟩; have n0_ := Aside0.mk (blk_below (g := gb101) (o := .cells #[.int .i64 a1_0, .string a1_1, .string a1_2] 35 (0, 0)) (by (with_reducible repeat (first | refine blk_drewN ?_ _ | refine blk_drew ?_ | refine blk_alloc ?_ _)); exact BK101.out) hb); have n1_ := Aside0.mk (below_step (by repeat (first | (with_reducible first | exact HB.out | apply below_alloc | apply pw_below_drewN | apply below_drew1 | refine below_set ?_ GE101.out) | exact HB.out)) hb); clear BK101; clear HB; have BK101 := n0_; have HB := n1_; clear n0_ n1_; (try clear hb); (try clear hb2); (try clear hk); (try clear hi)))
        go_ret
        exact ⟨by first | rfl | (simp [errW_none, errW_some] <;> rfl) | (simp [*, errW_none, errW_some] <;> rfl) | (simp [ne_nil_bool]; done) | (simp [*, ne_nil_bool]; done), by repeat (first | (with_reducible first | exact HB.out | apply below_alloc | apply pw_below_drewN | apply below_drew1 | refine below_set ?_ GE101.out) | exact HB.out)⟩
      · replace c9 := Bool.eq_false_iff.mpr c9
        subst c9
        have H1 : ((tree_Find.f kj3 l0 a2).bind fun bt104 => ((graftageref15_Find.f kj3 l0 a2).bind fun bt109 => (graftagelaw15_TreePuts.l0 kj3 l0 a2 bt104.2.2.2 bt109.2.2.2 (l0.length : Int) 0 a1_0 a1_1 a1_2 bt104.1 bt104.2.1 bt104.2.2.1 bt109.1 bt109.2.1 bt109.2.2.1))) = some r := by rw [if_neg (show ¬ (false = true) by decide)] at H; exact H
        clear H
        have H := H1
        clear H1
        replace H := Option.bind_eq_some_iff.mp H
        obtain ⟨⟨t104, t105, t106, t107⟩, A120, H⟩ := H
        replace H : ((graftageref15_Find.f kj3 l0 a2).bind fun bt109 => (graftagelaw15_TreePuts.l0 kj3 l0 a2 t107 bt109.2.2.2 (l0.length : Int) 0 a1_0 a1_1 a1_2 t104 t105 t106 bt109.1 bt109.2.1 bt109.2.2.1)) = some r := H
        have A12 := Aside0.mk A120
        clear A120
        replace H := Option.bind_eq_some_iff.mp H
        obtain ⟨⟨t109, t110, t111, t112⟩, A130, H⟩ := H
        replace H : (graftagelaw15_TreePuts.l0 kj3 l0 a2 t107 t112 (l0.length : Int) 0 a1_0 a1_1 a1_2 t104 t105 t106 t109 t110 t111) = some r := H
        have A13 := Aside0.mk A130
        clear A130
        have H' := Aside0.mk H
        clear H
        go_wp2_with (first | ((with_reducible refine gate_callee (f := 25) rfl ?_); refine goesL_ (some 28) rfl rfl Tryd.func25 (by kernel_rfl) rfl #[.slice A0 l0.length c0, .string a2] rfl (by (try simp only [List.map_toArray, List.map_cons, List.map_nil]); first | done | rfl | (simp only [List.length_drop, List.length_take]; rfl)) ?_; (with_reducible refine (tree_Find.calls kj3 _ _ l0 a2 t104 t105 t106 t107 _ ?side1 ?side2 A12.out).mono ?_); (case side1 => repeat (first | exact (Kd.C_below HR0.out HB.out) | (with_reducible refine Kd.C_alloc ?_ _) | (with_reducible refine Kd.C_drewN ?_ _) | (with_reducible refine Kd.C_drew ?_))); (case side2 => exact HC0.out); rintro e w14 ⟨rfl, hb⟩; refine ⟨_, rfl, ?_⟩; have n0_ := Aside0.mk (blk_below (g := gb101) (o := .cells #[.int .i64 a1_0, .string a1_1, .string a1_2] 35 (0, 0)) (by (with_reducible repeat (first | refine blk_drewN ?_ _ | refine blk_drew ?_ | refine blk_alloc ?_ _)); exact BK101.out) hb); have n1_ := Aside0.mk (below_step (by repeat (first | (with_reducible first | exact HB.out | apply below_alloc | apply pw_below_drewN | apply below_drew1 | refine below_set ?_ GE101.out) | exact HB.out)) hb); clear BK101; clear HB; have BK101 := n0_; have HB := n1_; clear n0_ n1_; (try clear hb); (try clear hb2); (try clear hk); (try clear hi)) | ((with_reducible refine gate_dst (N := 7) rfl ?_); (try (refine gate_guard (by rfl) ?_; dsimp only)); refine box_event ?hg (N := 7) ?hd (cs := #[.int .i64 0, .string (⟨#[]⟩ : ByteArray), .string (⟨#[]⟩ : ByteArray)]) (t := 35) ?hr ?_; (case hd => rfl); (case hg => rfl); (case hr => first | (go_simp; done) | (go_simp; rfl)); intro gb108 hg w15 hbox hb; have n0_ := Aside0.mk (blk_below (g := gb101) (o := .cells #[.int .i64 a1_0, .string a1_1, .string a1_2] 35 (0, 0)) (by (with_reducible repeat (first | refine blk_drewN ?_ _ | refine blk_drew ?_ | refine blk_alloc ?_ _)); exact BK101.out) hb); have n1_ := Aside0.mk (below_step (by repeat (first | (with_reducible first | exact HB.out | apply below_alloc | apply pw_below_drewN | apply below_drew1 | refine below_set ?_ GE101.out) | exact HB.out)) hb); have n2_ := Aside0.mk (hbox); have n3_ := Aside0.mk ((by rw [hg]; exact (below_size (by repeat (first | (with_reducible first | exact HB.out | apply below_alloc | apply pw_below_drewN | apply below_drew1 | refine below_set ?_ GE101.out) | exact HB.out))) : w.heap.size ≤ gb108)); have n4_ := Aside0.mk ((by rw [hg]; exact (below_size (by repeat (first | (with_reducible first | exact HB.out | apply below_alloc | apply pw_below_drewN | apply below_drew1 | refine below_set ?_ GE101.out) | exact HB.out))) : w.heap.size ≤ gb108)); have n5_ := Aside0.mk ((by rw [hg]; exact Nat.ne_of_lt (blk_lt (g := gb101) (o := .cells #[.int .i64 a1_0, .string a1_1, .string a1_2] 35 (0, 0)) (by (with_reducible repeat (first | refine blk_drewN ?_ _ | refine blk_drew ?_ | refine blk_alloc ?_ _)); exact BK101.out)) : gb101 ≠ gb108)); have n6_ := Aside0.mk ((by rw [hg]; exact Nat.ne_of_gt (blk_lt (g := gb101) (o := .cells #[.int .i64 a1_0, .string a1_1, .string a1_2] 35 (0, 0)) (by (with_reducible repeat (first | refine blk_drewN ?_ _ | refine blk_drew ?_ | refine blk_alloc ?_ _)); exact BK101.out)) : gb108 ≠ gb101)); clear BK101; clear HB; have BK101 := n0_; have HB := n1_; have BK108 := n2_; have GW108 := n3_; have GE108 := n4_; have NB101_108 := n5_; have NB108_101 := n6_; clear n0_ n1_ n2_ n3_ n4_ n5_ n6_; clear hb hbox hg; have hnb16 := NB108_101.out; have hnc16 := NB101_108.out; have hcz17_0 : w15.cell? ⟨gb108, 0, none⟩ = some (.int .i64 0) := (blk_cell BK108.out 0).trans rfl; have hcz17_1 : w15.cell? ⟨gb108, 1, none⟩ = some (.string (⟨#[]⟩ : ByteArray)) := (blk_cell BK108.out 1).trans rfl; have hcz17_2 : w15.cell? ⟨gb108, 2, none⟩ = some (.string (⟨#[]⟩ : ByteArray)) := (blk_cell BK108.out 2).trans rfl; have hfz17_0 := blk_frozen BK108.out 0; have hfz17_1 := blk_frozen BK108.out 1; have hfz17_2 := blk_frozen BK108.out 2) | ((with_reducible refine gate_callee (f := 26) rfl ?_); refine goesL_ (some 34) rfl rfl Tryd.func26 (by kernel_rfl) rfl #[.slice A0 l0.length c0, .string a2] rfl (by (try simp only [List.map_toArray, List.map_cons, List.map_nil]); first | done | rfl | (simp only [List.length_drop, List.length_take]; rfl)) ?_; (with_reducible refine (graftageref15_Find.calls kj3 _ _ l0 a2 t109 t110 t111 t112 _ ?side1 ?side2 A13.out).mono ?_); (case side1 => exact Kd.C_below HR0.out (by repeat (first | (with_reducible first | exact HB.out | apply below_alloc | apply pw_below_drewN | apply below_drew1 | refine below_set ?_ GE101.out | refine below_set ?_ GE108.out) | exact HB.out))); (case side2 => exact HC0.out); rintro e w18 ⟨rfl, hb⟩; refine ⟨_, rfl, ?_⟩; have n0_ := Aside0.mk (blk_below (g := gb101) (o := .cells #[.int .i64 a1_0, .string a1_1, .string a1_2] 35 (0, 0)) (by (with_reducible repeat (first | refine blk_drewN ?_ _ | refine blk_drew ?_ | refine blk_alloc ?_ _)); refine blk_far ?_ NB101_108.out _; (with_reducible repeat (first | refine blk_drewN ?_ _ | refine blk_drew ?_ | refine blk_alloc ?_ _)); refine blk_far ?_ NB101_108.out _; (with_reducible repeat (first | refine blk_drewN ?_ _ | refine blk_drew ?_ | refine blk_alloc ?_ _)); refine blk_far ?_ NB101_108.out _; (with_reducible repeat (first | refine blk_drewN ?_ _ | refine blk_drew ?_ | refine blk_alloc ?_ _)); exact BK101.out) hb); have n1_ := Aside0.mk (blk_below (g := gb108) (o := .cells #[.int .i64 t104, .string t105, .string t106] 35 (0, 0)) (by (with_reducible repeat (first | refine blk_drewN ?_ _ | refine blk_drew ?_ | refine blk_alloc ?_ _)); refine blk_put (cs := #[.int .i64 t104, .string t105, .string (⟨#[]⟩ : ByteArray)]) ?_ 2 _ rfl; (with_reducible repeat (first | refine blk_drewN ?_ _ | refine blk_drew ?_ | refine blk_alloc ?_ _)); refine blk_put (cs := #[.int .i64 t104, .string (⟨#[]⟩ : ByteArray), .string (⟨#[]⟩ : ByteArray)]) ?_ 1 _ rfl; (with_reducible repeat (first | refine blk_drewN ?_ _ | refine blk_drew ?_ | refine blk_alloc ?_ _)); refine blk_put (cs := #[.int .i64 0, .string (⟨#[]⟩ : ByteArray), .string (⟨#[]⟩ : ByteArray)]) ?_ 0 _ rfl; (with_reducible repeat (first | refine blk_drewN ?_ _ | refine blk_drew ?_ | refine blk_alloc ?_ _)); exact BK108.out) hb); have n2_ := Aside0.mk (below_step (by repeat (first | (with_reducible first | exact HB.out | apply below_alloc | apply pw_below_drewN | apply below_drew1 | refine below_set ?_ GE101.out | refine below_set ?_ GE108.out) | exact HB.out)) hb); clear BK101; clear BK108; clear HB; have BK101 := n0_; have BK108 := n1_; have HB := n2_; clear n0_ n1_ n2_; (try clear hb); (try clear hb2); (try clear hk); (try clear hi)) | ((with_reducible refine gate_dst (N := 9) rfl ?_); (try (refine gate_guard (by rfl) ?_; dsimp only)); refine box_event ?hg (N := 9) ?hd (cs := #[.int .i64 0, .string (⟨#[]⟩ : ByteArray), .string (⟨#[]⟩ : ByteArray)]) (t := 35) ?hr ?_; (case hd => rfl); (case hg => rfl); (case hr => first | (go_simp; done) | (go_simp; rfl)); intro gb113 hg w19 hbox hb; have n0_ := Aside0.mk (blk_below (g := gb101) (o := .cells #[.int .i64 a1_0, .string a1_1, .string a1_2] 35 (0, 0)) (by (with_reducible repeat (first | refine blk_drewN ?_ _ | refine blk_drew ?_ | refine blk_alloc ?_ _)); exact BK101.out) hb); have n1_ := Aside0.mk (blk_below (g := gb108) (o := .cells #[.int .i64 t104, .string t105, .string t106] 35 (0, 0)) (by (with_reducible repeat (first | refine blk_drewN ?_ _ | refine blk_drew ?_ | refine blk_alloc ?_ _)); exact BK108.out) hb); have n2_ := Aside0.mk (below_step (by repeat (first | (with_reducible first | exact HB.out | apply below_alloc | apply pw_below_drewN | apply below_drew1 | refine below_set ?_ GE101.out | refine below_set ?_ GE108.out) | exact HB.out)) hb); have n3_ := Aside0.mk (hbox); have n4_ := Aside0.mk ((by rw [hg]; exact (below_size (by repeat (first | (with_reducible first | exact HB.out | apply below_alloc | apply pw_below_drewN | apply below_drew1 | refine below_set ?_ GE101.out | refine below_set ?_ GE108.out) | exact HB.out))) : w.heap.size ≤ gb113)); have n5_ := Aside0.mk ((by rw [hg]; exact (below_size (by repeat (first | (with_reducible first | exact HB.out | apply below_alloc | apply pw_below_drewN | apply below_drew1 | refine below_set ?_ GE101.out | refine below_set ?_ GE108.out) | exact HB.out))) : w.heap.size ≤ gb113)); have n6_ := Aside0.mk ((by rw [hg]; exact Nat.ne_of_lt (blk_lt (g := gb101) (o := .cells #[.int .i64 a1_0, .string a1_1, .string a1_2] 35 (0, 0)) (by (with_reducible repeat (first | refine blk_drewN ?_ _ | refine blk_drew ?_ | refine blk_alloc ?_ _)); exact BK101.out)) : gb101 ≠ gb113)); have n7_ := Aside0.mk ((by rw [hg]; exact Nat.ne_of_gt (blk_lt (g := gb101) (o := .cells #[.int .i64 a1_0, .string a1_1, .string a1_2] 35 (0, 0)) (by (with_reducible repeat (first | refine blk_drewN ?_ _ | refine blk_drew ?_ | refine blk_alloc ?_ _)); exact BK101.out)) : gb113 ≠ gb101)); have n8_ := Aside0.mk ((by rw [hg]; exact Nat.ne_of_lt (blk_lt (g := gb108) (o := .cells #[.int .i64 t104, .string t105, .string t106] 35 (0, 0)) (by (with_reducible repeat (first | refine blk_drewN ?_ _ | refine blk_drew ?_ | refine blk_alloc ?_ _)); exact BK108.out)) : gb108 ≠ gb113)); have n9_ := Aside0.mk ((by rw [hg]; exact Nat.ne_of_gt (blk_lt (g := gb108) (o := .cells #[.int .i64 t104, .string t105, .string t106] 35 (0, 0)) (by (with_reducible repeat (first | refine blk_drewN ?_ _ | refine blk_drew ?_ | refine blk_alloc ?_ _)); exact BK108.out)) : gb113 ≠ gb108)); clear BK101; clear BK108; clear HB; have BK101 := n0_; have BK108 := n1_; have HB := n2_; have BK113 := n3_; have GW113 := n4_; have GE113 := n5_; have NB101_113 := n6_; have NB113_101 := n7_; have NB108_113 := n8_; have NB113_108 := n9_; clear n0_ n1_ n2_ n3_ n4_ n5_ n6_ n7_ n8_ n9_; clear hb hbox hg; have hnb20 := NB113_101.out; have hnc20 := NB101_113.out; have hnb21 := NB113_108.out; have hnc21 := NB108_113.out; have hcz22_0 : w19.cell? ⟨gb113, 0, none⟩ = some (.int .i64 0) := (blk_cell BK113.out 0).trans rfl; have hcz22_1 : w19.cell? ⟨gb113, 1, none⟩ = some (.string (⟨#[]⟩ : ByteArray)) := (blk_cell BK113.out 1).trans rfl; have hcz22_2 : w19.cell? ⟨gb113, 2, none⟩ = some (.string (⟨#[]⟩ : ByteArray)) := (blk_cell BK113.out 2).trans rfl; have hfz22_0 := blk_frozen BK113.out 0; have hfz22_1 := blk_frozen BK113.out 1; have hfz22_2 := blk_frozen BK113.out 2))
        go_loopg [39] kj3 (fun kq v39 w' => ∃ (x39_2 : Int), v39 = .int .i64 x39_2 ∧ Aside0 (graftagelaw15_TreePuts.l0 kq l0 a2 t107 t112 (l0.length : Int) x39_2 a1_0 a1_1 a1_2 t104 t105 t106 t109 t110 t111 = some r) ∧ Aside0 (kq ≤ kj3) ∧ Aside0 (w'.heap[gb101]? = some (.cells #[.int .i64 a1_0, .string a1_1, .string a1_2] 35 (0, 0))) ∧ Aside0 (w'.heap[gb108]? = some (.cells #[.int .i64 t104, .string t105, .string t106] 35 (0, 0))) ∧ Aside0 (w'.heap[gb113]? = some (.cells #[.int .i64 t109, .string t110, .string t111] 35 (0, 0))) ∧ Aside0 (Below w.heap.size w w'))
        case atStart => exact ⟨(0), (by first | rfl | (simp; done) | (simp [*]; done) | (simp [ne_nil_bool]; done) | (simp [*, ne_nil_bool]; done)), H', ⟨Nat.le_refl _⟩, ⟨by (with_reducible repeat (first | refine blk_drewN ?_ _ | refine blk_drew ?_ | refine blk_alloc ?_ _)); refine blk_far ?_ NB101_113.out _; (with_reducible repeat (first | refine blk_drewN ?_ _ | refine blk_drew ?_ | refine blk_alloc ?_ _)); refine blk_far ?_ NB101_113.out _; (with_reducible repeat (first | refine blk_drewN ?_ _ | refine blk_drew ?_ | refine blk_alloc ?_ _)); refine blk_far ?_ NB101_113.out _; (with_reducible repeat (first | refine blk_drewN ?_ _ | refine blk_drew ?_ | refine blk_alloc ?_ _)); exact BK101.out⟩, ⟨by (with_reducible repeat (first | refine blk_drewN ?_ _ | refine blk_drew ?_ | refine blk_alloc ?_ _)); refine blk_far ?_ NB108_113.out _; (with_reducible repeat (first | refine blk_drewN ?_ _ | refine blk_drew ?_ | refine blk_alloc ?_ _)); refine blk_far ?_ NB108_113.out _; (with_reducible repeat (first | refine blk_drewN ?_ _ | refine blk_drew ?_ | refine blk_alloc ?_ _)); refine blk_far ?_ NB108_113.out _; (with_reducible repeat (first | refine blk_drewN ?_ _ | refine blk_drew ?_ | refine blk_alloc ?_ _)); exact BK108.out⟩, ⟨by (with_reducible repeat (first | refine blk_drewN ?_ _ | refine blk_drew ?_ | refine blk_alloc ?_ _)); refine blk_put (cs := #[.int .i64 t109, .string t110, .string (⟨#[]⟩ : ByteArray)]) ?_ 2 _ rfl; (with_reducible repeat (first | refine blk_drewN ?_ _ | refine blk_drew ?_ | refine blk_alloc ?_ _)); refine blk_put (cs := #[.int .i64 t109, .string (⟨#[]⟩ : ByteArray), .string (⟨#[]⟩ : ByteArray)]) ?_ 1 _ rfl; (with_reducible repeat (first | refine blk_drewN ?_ _ | refine blk_drew ?_ | refine blk_alloc ?_ _)); refine blk_put (cs := #[.int .i64 0, .string (⟨#[]⟩ : ByteArray), .string (⟨#[]⟩ : ByteArray)]) ?_ 0 _ rfl; (with_reducible repeat (first | refine blk_drewN ?_ _ | refine blk_drew ?_ | refine blk_alloc ?_ _)); exact BK113.out⟩, ⟨by repeat (first | (with_reducible first | exact HB.out | apply below_alloc | apply pw_below_drewN | apply below_drew1 | refine below_set ?_ GE101.out | refine below_set ?_ GE108.out | refine below_set ?_ GE113.out) | exact HB.out)⟩⟩
        case round =>
          clear H'
          try clear c1
          try clear c2
          try clear p2
          try clear p6
          try clear c7
          try clear c9
          try clear c14
          try clear c15
          try clear c16
          try clear c20
          try clear c21
          try clear hcz17_0
          try clear hcz17_1
          try clear hcz17_2
          try clear hcz22_0
          try clear hcz22_1
          try clear hcz22_2
          try clear hcz8_0
          try clear hcz8_1
          try clear hcz8_2
          try clear hfz17_0
          try clear hfz17_1
          try clear hfz17_2
          try clear hfz22_0
          try clear hfz22_1
          try clear hfz22_2
          try clear hfz8_0
          try clear hfz8_1
          try clear hfz8_2
          try clear p2
          try clear p6
          obtain ⟨x39_2, rfl, HA, HK2, BK101, BK108, BK113, HB⟩ := hrel
          cases gk with
          | zero => exact absurd HA.out (by simp [graftagelaw15_TreePuts.l0])
          | succ k2 =>
            have H := HA.out
            clear HA
            simp only [graftagelaw15_TreePuts.l0] at H
            by_cases c23 : x39_2 < (l0.length : Int)
            · rw [if_pos c23] at H
              have c23b0 : decide (x39_2 < (l0.length : Int)) = true := decide_eq_true c23
              clear c23
              by_cases c24 : 0 ≤ x39_2
              · rw [if_pos c24] at H
                have c24b0 : decide (0 ≤ x39_2) = true := decide_eq_true c24
                clear c24
                by_cases c25 : x39_2 < (l0.length : Int)
                · rw [if_pos c25] at H
                  have c25b0 : decide (x39_2 < (l0.length : Int)) = true := decide_eq_true c25
                  clear c25
                  replace H := Option.bind_eq_some_iff.mp H
                  obtain ⟨t115, A260, H⟩ := H
                  replace H : ((graftageref15_Less.f ((rd_T35 l0 x39_2).f0) ((rd_T35 l0 x39_2).f1) ((rd_T35 l0 x39_2).f2) a1_0 a1_1 a1_2).bind fun t117 => (if (t115 != t117) = true then (some false) else ((tree_Less.f a1_0 a1_1 a1_2 ((rd_T35 l0 x39_2).f0) ((rd_T35 l0 x39_2).f1) ((rd_T35 l0 x39_2).f2)).bind fun t119 => ((graftageref15_Less.f a1_0 a1_1 a1_2 ((rd_T35 l0 x39_2).f0) ((rd_T35 l0 x39_2).f1) ((rd_T35 l0 x39_2).f2)).bind fun t121 => (if (t119 != t121) = true then (some false) else (graftagelaw15_TreePuts.l0 k2 l0 a2 t107 t112 (l0.length : Int) (wrap64 (x39_2 + 1)) a1_0 a1_1 a1_2 t104 t105 t106 t109 t110 t111)))))) = some r := H
                  have A26 := Aside0.mk A260
                  clear A260
                  replace H := Option.bind_eq_some_iff.mp H
                  obtain ⟨t117, A270, H⟩ := H
                  replace H : (if (t115 != t117) = true then (some false) else ((tree_Less.f a1_0 a1_1 a1_2 ((rd_T35 l0 x39_2).f0) ((rd_T35 l0 x39_2).f1) ((rd_T35 l0 x39_2).f2)).bind fun t119 => ((graftageref15_Less.f a1_0 a1_1 a1_2 ((rd_T35 l0 x39_2).f0) ((rd_T35 l0 x39_2).f1) ((rd_T35 l0 x39_2).f2)).bind fun t121 => (if (t119 != t121) = true then (some false) else (graftagelaw15_TreePuts.l0 k2 l0 a2 t107 t112 (l0.length : Int) (wrap64 (x39_2 + 1)) a1_0 a1_1 a1_2 t104 t105 t106 t109 t110 t111))))) = some r := H
                  have A27 := Aside0.mk A270
                  clear A270
                  by_cases c28 : (t115 != t117) = true
                  · rw [if_pos c28] at H
                    have c28b0 : (t115 != t117) = true := c28
                    (try (have c28b1 : decide (t115 = t117) = false := by simpa using c28))
                    (try (have c28b2 : (t115 == t117) = false := by simpa using c28))
                    (try (have c28b3 : ¬ (t115 = t117) := by simpa using c28))
                    clear c28
                    exact absurd ((Option.some.inj H).trans hr_) (by simp)
                  · rw [if_neg c28] at H
                    have c28b0 : (t115 != t117) = false := by simpa using c28
                    (try (have c28b1 : decide (t115 = t117) = true := by simpa using c28))
                    (try (have c28b2 : (t115 == t117) = true := by simpa using c28))
                    clear c28
                    replace H := Option.bind_eq_some_iff.mp H
                    obtain ⟨t119, A290, H⟩ := H
                    replace H : ((graftageref15_Less.f a1_0 a1_1 a1_2 ((rd_T35 l0 x39_2).f0) ((rd_T35 l0 x39_2).f1) ((rd_T35 l0 x39_2).f2)).bind fun t121 => (if (t119 != t121) = true then (some false) else (graftagelaw15_TreePuts.l0 k2 l0 a2 t107 t112 (l0.length : Int) (wrap64 (x39_2 + 1)) a1_0 a1_1 a1_2 t104 t105 t106 t109 t110 t111))) = some r := H
                    have A29 := Aside0.mk A290
                    clear A290
                    replace H := Option.bind_eq_some_iff.mp H
                    obtain ⟨t121, A300, H⟩ := H
                    replace H : (if (t119 != t121) = true then (some false) else (graftagelaw15_TreePuts.l0 k2 l0 a2 t107 t112 (l0.length : Int) (wrap64 (x39_2 + 1)) a1_0 a1_1 a1_2 t104 t105 t106 t109 t110 t111)) = some r := H
                    have A30 := Aside0.mk A300
                    clear A300
                    by_cases c31 : (t119 != t121) = true
                    · rw [if_pos c31] at H
                      have c31b0 : (t119 != t121) = true := c31
                      (try (have c31b1 : decide (t119 = t121) = false := by simpa using c31))
                      (try (have c31b2 : (t119 == t121) = false := by simpa using c31))
                      (try (have c31b3 : ¬ (t119 = t121) := by simpa using c31))
                      clear c31
                      exact absurd ((Option.some.inj H).trans hr_) (by simp)
                    · rw [if_neg c31] at H
                      have c31b0 : (t119 != t121) = false := by simpa using c31
                      (try (have c31b1 : decide (t119 = t121) = true := by simpa using c31))
                      (try (have c31b2 : (t119 == t121) = true := by simpa using c31))
                      clear c31
                      have H' := Aside0.mk H
                      clear H
                      try go_wp2
                      have n0_ := Aside0.mk (blk_drew BK101.out)
                      have n1_ := Aside0.mk (blk_drew BK108.out)
                      have n2_ := Aside0.mk (blk_drew BK113.out)
                      have n3_ := Aside0.mk (below_drew1 HB.out)
                      clear BK101
                      clear BK108
                      clear BK113
                      clear HB
                      have BK101 := n0_
                      have BK108 := n1_
                      have BK113 := n2_
                      have HB := n3_
                      clear n0_ n1_ n2_ n3_
                      have p114 : 0 ≤ (x39_2 : Int) := of_decide_eq_true (by first | (with_reducible assumption) | assumption)
                      have q114 : x39_2 < (l0.length : Int) := of_decide_eq_true (by first | (with_reducible assumption) | assumption)
                      obtain ⟨ad114, e114, hx114_0, hx114_1, hx114_2⟩ := at_T35 HR0.out x39_2 p114 q114
                      have hw114_2 := hx114_2
                      have hw114_1 := hx114_1
                      have hw114_0 := hx114_0
                      cases e114
                      replace hx114_0 := (HB.out.cell (World.block_lt_of_cell? w _ hx114_0)).trans hx114_0
                      replace hx114_1 := (HB.out.cell (World.block_lt_of_cell? w _ hx114_1)).trans hx114_1
                      replace hx114_2 := (HB.out.cell (World.block_lt_of_cell? w _ hx114_2)).trans hx114_2
                      replace p114 := eq_true p114
                      replace q114 := eq_true q114
                      have p116 : 0 ≤ (x39_2 : Int) := of_decide_eq_true (by first | (with_reducible assumption) | assumption)
                      have q116 : x39_2 < (l0.length : Int) := of_decide_eq_true (by first | (with_reducible assumption) | assumption)
                      obtain ⟨ad116, e116, hx116_0, hx116_1, hx116_2⟩ := at_T35 HR0.out x39_2 p116 q116
                      have hw116_2 := hx116_2
                      have hw116_1 := hx116_1
                      have hw116_0 := hx116_0
                      obtain rfl : ad114 = ad116 := (by injection e116)
                      replace hx116_0 := (HB.out.cell (World.block_lt_of_cell? w _ hx116_0)).trans hx116_0
                      replace hx116_1 := (HB.out.cell (World.block_lt_of_cell? w _ hx116_1)).trans hx116_1
                      replace hx116_2 := (HB.out.cell (World.block_lt_of_cell? w _ hx116_2)).trans hx116_2
                      replace p116 := eq_true p116
                      replace q116 := eq_true q116
                      have p118 : 0 ≤ (x39_2 : Int) := of_decide_eq_true (by first | (with_reducible assumption) | assumption)
                      have q118 : x39_2 < (l0.length : Int) := of_decide_eq_true (by first | (with_reducible assumption) | assumption)
                      obtain ⟨ad118, e118, hx118_0, hx118_1, hx118_2⟩ := at_T35 HR0.out x39_2 p118 q118
                      have hw118_2 := hx118_2
                      have hw118_1 := hx118_1
                      have hw118_0 := hx118_0
                      obtain rfl : ad114 = ad118 := (by injection e118)
                      replace hx118_0 := (HB.out.cell (World.block_lt_of_cell? w _ hx118_0)).trans hx118_0
                      replace hx118_1 := (HB.out.cell (World.block_lt_of_cell? w _ hx118_1)).trans hx118_1
                      replace hx118_2 := (HB.out.cell (World.block_lt_of_cell? w _ hx118_2)).trans hx118_2
                      replace p118 := eq_true p118
                      replace q118 := eq_true q118
                      have p120 : 0 ≤ (x39_2 : Int) := of_decide_eq_true (by first | (with_reducible assumption) | assumption)
                      have q120 : x39_2 < (l0.length : Int) := of_decide_eq_true (by first | (with_reducible assumption) | assumption)
                      obtain ⟨ad120, e120, hx120_0, hx120_1, hx120_2⟩ := at_T35 HR0.out x39_2 p120 q120
                      have hw120_2 := hx120_2
                      have hw120_1 := hx120_1
                      have hw120_0 := hx120_0
                      obtain rfl : ad114 = ad120 := (by injection e120)
                      replace hx120_0 := (HB.out.cell (World.block_lt_of_cell? w _ hx120_0)).trans hx120_0
                      replace hx120_1 := (HB.out.cell (World.block_lt_of_cell? w _ hx120_1)).trans hx120_1
                      replace hx120_2 := (HB.out.cell (World.block_lt_of_cell? w _ hx120_2)).trans hx120_2
                      replace p120 := eq_true p120
                      replace q120 := eq_true q120
                      refine start_ (n := 28) (S := fun w' => w'.cell? ⟨gb101, 0, none⟩ = some (.int .i64 a1_0) ∧ w'.cell? ⟨gb101, 1, none⟩ = some (.string a1_1) ∧ w'.cell? ⟨gb101, 2, none⟩ = some (.string a1_2) ∧ w'.cell? (ad114.add ((x39_2).toNat * 3)) = some (.int .i64 ((rd_T35 l0 x39_2).f0)) ∧ w'.cell? ⟨(ad114.add ((x39_2).toNat * 3)).block, (ad114.add ((x39_2).toNat * 3)).off + 1, none⟩ = some (.string ((rd_T35 l0 x39_2).f1)) ∧ w'.cell? ⟨(ad114.add ((x39_2).toNat * 3)).block, (ad114.add ((x39_2).toNat * 3)).off + 2, none⟩ = some (.string ((rd_T35 l0 x39_2).f2)) ∧ w'.cell? (ad114.add ((x39_2).toNat * 3)) = some (.int .i64 ((rd_T35 l0 x39_2).f0)) ∧ w'.cell? ⟨(ad114.add ((x39_2).toNat * 3)).block, (ad114.add ((x39_2).toNat * 3)).off + 1, none⟩ = some (.string ((rd_T35 l0 x39_2).f1)) ∧ w'.cell? ⟨(ad114.add ((x39_2).toNat * 3)).block, (ad114.add ((x39_2).toNat * 3)).off + 2, none⟩ = some (.string ((rd_T35 l0 x39_2).f2)) ∧ w'.cell? (ad114.add ((x39_2).toNat * 3)) = some (.int .i64 ((rd_T35 l0 x39_2).f0)) ∧ w'.cell? ⟨(ad114.add ((x39_2).toNat * 3)).block, (ad114.add ((x39_2).toNat * 3)).off + 1, none⟩ = some (.string ((rd_T35 l0 x39_2).f1)) ∧ w'.cell? ⟨(ad114.add ((x39_2).toNat * 3)).block, (ad114.add ((x39_2).toNat * 3)).off + 2, none⟩ = some (.string ((rd_T35 l0 x39_2).f2)) ∧ w'.cell? (ad114.add ((x39_2).toNat * 3)) = some (.int .i64 ((rd_T35 l0 x39_2).f0)) ∧ w'.cell? ⟨(ad114.add ((x39_2).toNat * 3)).block, (ad114.add ((x39_2).toNat * 3)).off + 1, none⟩ = some (.string ((rd_T35 l0 x39_2).f1)) ∧ w'.cell? ⟨(ad114.add ((x39_2).toNat * 3)).block, (ad114.add ((x39_2).toNat * 3)).off + 2, none⟩ = some (.string ((rd_T35 l0 x39_2).f2))) (ds := []) #[false, false, false, false, false, false, false, false, false, false, false, false, false, false, false, false, false, false, false, false, false, false, false, false, false, false, false, false] (by kernel_rfl) rfl rfl ⟨(blk_cell BK101.out 0).trans rfl, (blk_cell BK101.out 1).trans rfl, (blk_cell BK101.out 2).trans rfl, ((HB.out.cell (World.block_lt_of_cell? w _ hw114_0)).trans hw114_0), ((HB.out.cell (World.block_lt_of_cell? w _ hw114_1)).trans hw114_1), ((HB.out.cell (World.block_lt_of_cell? w _ hw114_2)).trans hw114_2), ((HB.out.cell (World.block_lt_of_cell? w _ hw116_0)).trans hw116_0), ((HB.out.cell (World.block_lt_of_cell? w _ hw116_1)).trans hw116_1), ((HB.out.cell (World.block_lt_of_cell? w _ hw116_2)).trans hw116_2), ((HB.out.cell (World.block_lt_of_cell? w _ hw118_0)).trans hw118_0), ((HB.out.cell (World.block_lt_of_cell? w _ hw118_1)).trans hw118_1), ((HB.out.cell (World.block_lt_of_cell? w _ hw118_2)).trans hw118_2), ((HB.out.cell (World.block_lt_of_cell? w _ hw120_0)).trans hw120_0), ((HB.out.cell (World.block_lt_of_cell? w _ hw120_1)).trans hw120_1), ((HB.out.cell (World.block_lt_of_cell? w _ hw120_2)).trans hw120_2)⟩ (fun hHeld => ?_); refine with_tabW graftagelaw15_TreePuts.tab8 graftagelaw15_TreePuts.bits8 (fun HT_ HW_ => ?_)
                      generalize wr.drew = w32 at BK101 BK108 BK113 HB hx114_0 hx114_1 hx114_2 hx116_0 hx116_1 hx116_2 hx118_0 hx118_1 hx118_2 hx120_0 hx120_1 hx120_2 hHeld ⊢
                      refine pure_ (i := 0) (N := some 42) (v := ?_) (a' := ?_) #[true, false, false, false, false, false, false, false, false, false, false, false, false, false, false, false, false, false, false, false, false, false, false, false, false, false, false, false] rfl rfl (any_of HT_.out (by kernel_rfl)) (fun _ _ _ h => h) (Or.inl ⟨by rfl, ?_⟩) ?_ ?_
                      rotate_left
                      · intro w'
                        go_simp
                        with_reducible rfl
                      rotate_left
                      · simp only [Act.put, List.setIfInBounds_toArray, List.set_cons_zero, List.set_cons_succ, i64_w, i32_w]
                        rfl
                      refine pure_ (i := 1) (N := some 43) (v := ?_) (a' := ?_) #[true, true, false, false, false, false, false, false, false, false, false, false, false, false, false, false, false, false, false, false, false, false, false, false, false, false, false, false] rfl rfl (any_of HT_.out (by kernel_rfl)) (fun _ _ _ h => h) (Or.inl ⟨by rfl, ?_⟩) ?_ ?_
                      rotate_left
                      · intro w'
                        go_simp
                        with_reducible rfl
                      rotate_left
                      · simp only [Act.put, List.setIfInBounds_toArray, List.set_cons_zero, List.set_cons_succ, i64_w, i32_w]
                        rfl
                      refine pure_ (i := 2) (N := some 44) (v := ?_) (a' := ?_) #[true, true, true, false, false, false, false, false, false, false, false, false, false, false, false, false, false, false, false, false, false, false, false, false, false, false, false, false] rfl rfl (any_of HT_.out (by kernel_rfl)) (fun _ _ _ h => h) (Or.inl ⟨by rfl, ?_⟩) ?_ ?_
                      rotate_left
                      · intro w'
                        go_simp
                        with_reducible rfl
                      rotate_left
                      · simp only [Act.put, List.setIfInBounds_toArray, List.set_cons_zero, List.set_cons_succ, i64_w, i32_w]
                        rfl
                      refine pure_ (i := 6) (N := some 48) (v := ?_) (a' := ?_) #[true, true, true, false, false, false, true, false, false, false, false, false, false, false, false, false, false, false, false, false, false, false, false, false, false, false, false, false] rfl rfl (any_of HT_.out (by kernel_rfl)) (fun _ _ _ h => h) (Or.inl ⟨by rfl, ?_⟩) ?_ ?_
                      rotate_left
                      · intro w'
                        go_simp
                        with_reducible rfl
                      rotate_left
                      · simp only [Act.put, List.setIfInBounds_toArray, List.set_cons_zero, List.set_cons_succ, i64_w, i32_w]
                        rfl
                      refine pure_ (i := 7) (N := some 49) (v := ?_) (a' := ?_) #[true, true, true, false, false, false, true, true, false, false, false, false, false, false, false, false, false, false, false, false, false, false, false, false, false, false, false, false] rfl rfl (any_of HT_.out (by kernel_rfl)) (fun _ _ _ h => h) (Or.inl ⟨by rfl, ?_⟩) ?_ ?_
                      rotate_left
                      · intro w'
                        go_simp
                        with_reducible rfl
                      rotate_left
                      · simp only [Act.put, List.setIfInBounds_toArray, List.set_cons_zero, List.set_cons_succ, i64_w, i32_w]
                        rfl
                      refine pure_ (i := 8) (N := some 50) (v := ?_) (a' := ?_) #[true, true, true, false, false, false, true, true, true, false, false, false, false, false, false, false, false, false, false, false, false, false, false, false, false, false, false, false] rfl rfl (any_of HT_.out (by kernel_rfl)) (fun _ _ _ h => h) (Or.inl ⟨by rfl, ?_⟩) ?_ ?_
                      rotate_left
                      · intro w'
                        go_simp
                        with_reducible rfl
                      rotate_left
                      · simp only [Act.put, List.setIfInBounds_toArray, List.set_cons_zero, List.set_cons_succ, i64_w, i32_w]
                        rfl
                      refine take_ (i := 3) (N := some 45) (v := ?_) (a' := ?_) #[true, true, true, true, false, false, true, true, true, false, false, false, false, false, false, false, false, false, false, false, false, false, false, false, false, false, false, false] rfl rfl (take_ofW HT_.out HW_.out (by kernel_rfl)) (fun _ _ _ h => h) (Or.inl ⟨by rfl, ?_⟩) hHeld ?_ ?_
                      rotate_left
                      · rintro w' ⟨s0, s1, s2, s3, s4, s5, s6, s7, s8, s9, s10, s11, s12, s13, s14⟩
                        go_simp
                        with_reducible rfl
                      rotate_left
                      · simp only [Act.put, List.setIfInBounds_toArray, List.set_cons_zero, List.set_cons_succ, i64_w, i32_w]
                        rfl
                      refine take_ (i := 4) (N := some 46) (v := ?_) (a' := ?_) #[true, true, true, true, true, false, true, true, true, false, false, false, false, false, false, false, false, false, false, false, false, false, false, false, false, false, false, false] rfl rfl (take_ofW HT_.out HW_.out (by kernel_rfl)) (fun _ _ _ h => h) (Or.inl ⟨by rfl, ?_⟩) hHeld ?_ ?_
                      rotate_left
                      · rintro w' ⟨s0, s1, s2, s3, s4, s5, s6, s7, s8, s9, s10, s11, s12, s13, s14⟩
                        go_simp
                        with_reducible rfl
                      rotate_left
                      · simp only [Act.put, List.setIfInBounds_toArray, List.set_cons_zero, List.set_cons_succ, i64_w, i32_w]
                        rfl
                      refine take_ (i := 9) (N := some 51) (v := ?_) (a' := ?_) #[true, true, true, true, true, false, true, true, true, true, false, false, false, false, false, false, false, false, false, false, false, false, false, false, false, false, false, false] rfl rfl (take_ofW HT_.out HW_.out (by kernel_rfl)) (fun _ _ _ h => h) (Or.inl ⟨by rfl, ?_⟩) hHeld ?_ ?_
                      rotate_left
                      · rintro w' ⟨s0, s1, s2, s3, s4, s5, s6, s7, s8, s9, s10, s11, s12, s13, s14⟩
                        go_simp
                        with_reducible rfl
                      rotate_left
                      · simp only [Act.put, List.setIfInBounds_toArray, List.set_cons_zero, List.set_cons_succ, i64_w, i32_w]
                        rfl
                      refine take_ (i := 10) (N := some 52) (v := ?_) (a' := ?_) #[true, true, true, true, true, false, true, true, true, true, true, false, false, false, false, false, false, false, false, false, false, false, false, false, false, false, false, false] rfl rfl (take_ofW HT_.out HW_.out (by kernel_rfl)) (fun _ _ _ h => h) (Or.inl ⟨by rfl, ?_⟩) hHeld ?_ ?_
                      rotate_left
                      · rintro w' ⟨s0, s1, s2, s3, s4, s5, s6, s7, s8, s9, s10, s11, s12, s13, s14⟩
                        go_simp
                        with_reducible rfl
                      rotate_left
                      · simp only [Act.put, List.setIfInBounds_toArray, List.set_cons_zero, List.set_cons_succ, i64_w, i32_w]
                        rfl
                      refine one_ (i := 5) (N := some 47) #[true, true, true, true, true, true, true, true, true, true, true, false, false, false, false, false, false, false, false, false, false, false, false, false, false, false, false, false] rfl rfl (one_of HT_.out (by kernel_rfl)) (by decide) (fun K hK => ?_)
                      refine goes_ Tryd.func24 (by kernel_rfl) rfl #[.agg #[.int .i64 ((rd_T35 l0 x39_2).f0), .string ((rd_T35 l0 x39_2).f1), .string ((rd_T35 l0 x39_2).f2)], .agg #[.int .i64 a1_0, .string a1_1, .string a1_2]] (by rfl) rfl rfl (by (try simp only [List.map_toArray, List.map_cons, List.map_nil]); first | done | rfl | (simp only [List.length_drop, List.length_take]; rfl)) ?_
                      with_reducible refine (tree_Less.calls ((rd_T35 l0 x39_2).f0) ((rd_T35 l0 x39_2).f1) ((rd_T35 l0 x39_2).f2) a1_0 a1_1 a1_2 t115 _ A26.out).mono ?_
                      rintro e w33 ⟨rfl, hb⟩
                      refine ⟨_, rfl, ?_⟩
                      have n0_ := Aside0.mk (blk_below (g := gb101) (o := .cells #[.int .i64 a1_0, .string a1_1, .string a1_2] 35 (0, 0)) (by (with_reducible repeat (first | refine blk_drewN ?_ _ | refine blk_drew ?_ | refine blk_alloc ?_ _)); exact BK101.out) hb)
                      have n1_ := Aside0.mk (blk_below (g := gb108) (o := .cells #[.int .i64 t104, .string t105, .string t106] 35 (0, 0)) (by (with_reducible repeat (first | refine blk_drewN ?_ _ | refine blk_drew ?_ | refine blk_alloc ?_ _)); exact BK108.out) hb)
                      have n2_ := Aside0.mk (blk_below (g := gb113) (o := .cells #[.int .i64 t109, .string t110, .string t111] 35 (0, 0)) (by (with_reducible repeat (first | refine blk_drewN ?_ _ | refine blk_drew ?_ | refine blk_alloc ?_ _)); exact BK113.out) hb)
                      have n3_ := Aside0.mk (below_step (by repeat (first | (with_reducible first | exact HB.out | apply below_alloc | apply pw_below_drewN | apply below_drew1 | refine below_set ?_ GE101.out | refine below_set ?_ GE108.out | refine below_set ?_ GE113.out) | exact HB.out)) hb)
                      clear BK101
                      clear BK108
                      clear BK113
                      clear HB
                      have BK101 := n0_
                      have BK108 := n1_
                      have BK113 := n2_
                      have HB := n3_
                      clear n0_ n1_ n2_ n3_
                      (try clear hb)
                      (try clear hb2)
                      (try clear hk)
                      (try clear hi)
                      refine hK.out _ _ ⟨(blk_cell BK101.out 0).trans rfl, (blk_cell BK101.out 1).trans rfl, (blk_cell BK101.out 2).trans rfl, ((HB.out.cell (World.block_lt_of_cell? w _ hw114_0)).trans hw114_0), ((HB.out.cell (World.block_lt_of_cell? w _ hw114_1)).trans hw114_1), ((HB.out.cell (World.block_lt_of_cell? w _ hw114_2)).trans hw114_2), ((HB.out.cell (World.block_lt_of_cell? w _ hw116_0)).trans hw116_0), ((HB.out.cell (World.block_lt_of_cell? w _ hw116_1)).trans hw116_1), ((HB.out.cell (World.block_lt_of_cell? w _ hw116_2)).trans hw116_2), ((HB.out.cell (World.block_lt_of_cell? w _ hw118_0)).trans hw118_0), ((HB.out.cell (World.block_lt_of_cell? w _ hw118_1)).trans hw118_1), ((HB.out.cell (World.block_lt_of_cell? w _ hw118_2)).trans hw118_2), ((HB.out.cell (World.block_lt_of_cell? w _ hw120_0)).trans hw120_0), ((HB.out.cell (World.block_lt_of_cell? w _ hw120_1)).trans hw120_1), ((HB.out.cell (World.block_lt_of_cell? w _ hw120_2)).trans hw120_2)⟩ (fun hHeld => ?_)
                      clear hK K
                      refine norm_ (a' := ?_) ?_ ?_
                      rotate_left
                      · show Act.put _ (some 47) _ = _
                        simp only [Act.put, List.setIfInBounds_toArray, List.set_cons_zero, List.set_cons_succ, i64_w, i32_w]
                        rfl
                      refine one_ (i := 11) (N := some 53) #[true, true, true, true, true, true, true, true, true, true, true, true, false, false, false, false, false, false, false, false, false, false, false, false, false, false, false, false] rfl rfl (one_of HT_.out (by kernel_rfl)) (by decide) (fun K hK => ?_)
                      refine goes_ Tryd.func27 (by kernel_rfl) rfl #[.agg #[.int .i64 ((rd_T35 l0 x39_2).f0), .string ((rd_T35 l0 x39_2).f1), .string ((rd_T35 l0 x39_2).f2)], .agg #[.int .i64 a1_0, .string a1_1, .string a1_2]] (by rfl) rfl rfl (by (try simp only [List.map_toArray, List.map_cons, List.map_nil]); first | done | rfl | (simp only [List.length_drop, List.length_take]; rfl)) ?_
                      with_reducible refine (graftageref15_Less.calls ((rd_T35 l0 x39_2).f0) ((rd_T35 l0 x39_2).f1) ((rd_T35 l0 x39_2).f2) a1_0 a1_1 a1_2 t117 _ A27.out).mono ?_
                      rintro e w34 ⟨rfl, hb⟩
                      refine ⟨_, rfl, ?_⟩
                      have n0_ := Aside0.mk (blk_below (g := gb101) (o := .cells #[.int .i64 a1_0, .string a1_1, .string a1_2] 35 (0, 0)) (by (with_reducible repeat (first | refine blk_drewN ?_ _ | refine blk_drew ?_ | refine blk_alloc ?_ _)); exact BK101.out) hb)
                      have n1_ := Aside0.mk (blk_below (g := gb108) (o := .cells #[.int .i64 t104, .string t105, .string t106] 35 (0, 0)) (by (with_reducible repeat (first | refine blk_drewN ?_ _ | refine blk_drew ?_ | refine blk_alloc ?_ _)); exact BK108.out) hb)
                      have n2_ := Aside0.mk (blk_below (g := gb113) (o := .cells #[.int .i64 t109, .string t110, .string t111] 35 (0, 0)) (by (with_reducible repeat (first | refine blk_drewN ?_ _ | refine blk_drew ?_ | refine blk_alloc ?_ _)); exact BK113.out) hb)
                      have n3_ := Aside0.mk (below_step (by repeat (first | (with_reducible first | exact HB.out | apply below_alloc | apply pw_below_drewN | apply below_drew1 | refine below_set ?_ GE101.out | refine below_set ?_ GE108.out | refine below_set ?_ GE113.out) | exact HB.out)) hb)
                      clear BK101
                      clear BK108
                      clear BK113
                      clear HB
                      have BK101 := n0_
                      have BK108 := n1_
                      have BK113 := n2_
                      have HB := n3_
                      clear n0_ n1_ n2_ n3_
                      (try clear hb)
                      (try clear hb2)
                      (try clear hk)
                      (try clear hi)
                      refine hK.out _ _ ⟨(blk_cell BK101.out 0).trans rfl, (blk_cell BK101.out 1).trans rfl, (blk_cell BK101.out 2).trans rfl, ((HB.out.cell (World.block_lt_of_cell? w _ hw114_0)).trans hw114_0), ((HB.out.cell (World.block_lt_of_cell? w _ hw114_1)).trans hw114_1), ((HB.out.cell (World.block_lt_of_cell? w _ hw114_2)).trans hw114_2), ((HB.out.cell (World.block_lt_of_cell? w _ hw116_0)).trans hw116_0), ((HB.out.cell (World.block_lt_of_cell? w _ hw116_1)).trans hw116_1), ((HB.out.cell (World.block_lt_of_cell? w _ hw116_2)).trans hw116_2), ((HB.out.cell (World.block_lt_of_cell? w _ hw118_0)).trans hw118_0), ((HB.out.cell (World.block_lt_of_cell? w _ hw118_1)).trans hw118_1), ((HB.out.cell (World.block_lt_of_cell? w _ hw118_2)).trans hw118_2), ((HB.out.cell (World.block_lt_of_cell? w _ hw120_0)).trans hw120_0), ((HB.out.cell (World.block_lt_of_cell? w _ hw120_1)).trans hw120_1), ((HB.out.cell (World.block_lt_of_cell? w _ hw120_2)).trans hw120_2)⟩ (fun hHeld => ?_)
                      clear hK K
                      refine norm_ (a' := ?_) ?_ ?_
                      rotate_left
                      · show Act.put _ (some 53) _ = _
                        simp only [Act.put, List.setIfInBounds_toArray, List.set_cons_zero, List.set_cons_succ, i64_w, i32_w]
                        rfl
                      refine pure_ (i := 12) (N := some 54) (v := ?_) (a' := ?_) #[true, true, true, true, true, true, true, true, true, true, true, true, true, false, false, false, false, false, false, false, false, false, false, false, false, false, false, false] rfl rfl (any_of HT_.out (by kernel_rfl)) (fun _ _ _ h => h) (Or.inl ⟨by rfl, ?_⟩) ?_ ?_
                      rotate_left
                      · intro w'
                        go_simp
                        with_reducible rfl
                      rotate_left
                      · simp only [Act.put, List.setIfInBounds_toArray, List.set_cons_zero, List.set_cons_succ, i64_w, i32_w]
                        rfl
                      refine pure_ (i := 13) (N := some 55) (v := ?_) (a' := ?_) #[true, true, true, true, true, true, true, true, true, true, true, true, true, true, false, false, false, false, false, false, false, false, false, false, false, false, false, false] rfl rfl (any_of HT_.out (by kernel_rfl)) (fun _ _ _ h => h) (Or.inl ⟨by rfl, ?_⟩) ?_ ?_
                      rotate_left
                      · intro w'
                        go_simp
                        with_reducible rfl
                      rotate_left
                      · simp only [Act.put, List.setIfInBounds_toArray, List.set_cons_zero, List.set_cons_succ, i64_w, i32_w]
                        rfl
                      refine pure_ (i := 15) (N := some 57) (v := ?_) (a' := ?_) #[true, true, true, true, true, true, true, true, true, true, true, true, true, true, false, true, false, false, false, false, false, false, false, false, false, false, false, false] rfl rfl (any_of HT_.out (by kernel_rfl)) (fun _ _ _ h => h) (Or.inl ⟨by rfl, ?_⟩) ?_ ?_
                      rotate_left
                      · intro w'
                        go_simp
                        with_reducible rfl
                      rotate_left
                      · simp only [Act.put, List.setIfInBounds_toArray, List.set_cons_zero, List.set_cons_succ, i64_w, i32_w]
                        rfl
                      refine pure_ (i := 16) (N := some 58) (v := ?_) (a' := ?_) #[true, true, true, true, true, true, true, true, true, true, true, true, true, true, false, true, true, false, false, false, false, false, false, false, false, false, false, false] rfl rfl (any_of HT_.out (by kernel_rfl)) (fun _ _ _ h => h) (Or.inl ⟨by rfl, ?_⟩) ?_ ?_
                      rotate_left
                      · intro w'
                        go_simp
                        with_reducible rfl
                      rotate_left
                      · simp only [Act.put, List.setIfInBounds_toArray, List.set_cons_zero, List.set_cons_succ, i64_w, i32_w]
                        rfl
                      refine pure_ (i := 17) (N := some 59) (v := ?_) (a' := ?_) #[true, true, true, true, true, true, true, true, true, true, true, true, true, true, false, true, true, true, false, false, false, false, false, false, false, false, false, false] rfl rfl (any_of HT_.out (by kernel_rfl)) (fun _ _ _ h => h) (Or.inl ⟨by rfl, ?_⟩) ?_ ?_
                      rotate_left
                      · intro w'
                        go_simp
                        with_reducible rfl
                      rotate_left
                      · simp only [Act.put, List.setIfInBounds_toArray, List.set_cons_zero, List.set_cons_succ, i64_w, i32_w]
                        rfl
                      refine pure_ (i := 21) (N := some 63) (v := ?_) (a' := ?_) #[true, true, true, true, true, true, true, true, true, true, true, true, true, true, false, true, true, true, false, false, false, true, false, false, false, false, false, false] rfl rfl (any_of HT_.out (by kernel_rfl)) (fun _ _ _ h => h) (Or.inl ⟨by rfl, ?_⟩) ?_ ?_
                      rotate_left
                      · intro w'
                        go_simp
                        with_reducible rfl
                      rotate_left
                      · simp only [Act.put, List.setIfInBounds_toArray, List.set_cons_zero, List.set_cons_succ, i64_w, i32_w]
                        rfl
                      refine pure_ (i := 22) (N := some 64) (v := ?_) (a' := ?_) #[true, true, true, true, true, true, true, true, true, true, true, true, true, true, false, true, true, true, false, false, false, true, true, false, false, false, false, false] rfl rfl (any_of HT_.out (by kernel_rfl)) (fun _ _ _ h => h) (Or.inl ⟨by rfl, ?_⟩) ?_ ?_
                      rotate_left
                      · intro w'
                        go_simp
                        with_reducible rfl
                      rotate_left
                      · simp only [Act.put, List.setIfInBounds_toArray, List.set_cons_zero, List.set_cons_succ, i64_w, i32_w]
                        rfl
                      refine pure_ (i := 23) (N := some 65) (v := ?_) (a' := ?_) #[true, true, true, true, true, true, true, true, true, true, true, true, true, true, false, true, true, true, false, false, false, true, true, true, false, false, false, false] rfl rfl (any_of HT_.out (by kernel_rfl)) (fun _ _ _ h => h) (Or.inl ⟨by rfl, ?_⟩) ?_ ?_
                      rotate_left
                      · intro w'
                        go_simp
                        with_reducible rfl
                      rotate_left
                      · simp only [Act.put, List.setIfInBounds_toArray, List.set_cons_zero, List.set_cons_succ, i64_w, i32_w]
                        rfl
                      refine take_ (i := 14) (N := some 56) (v := ?_) (a' := ?_) #[true, true, true, true, true, true, true, true, true, true, true, true, true, true, true, true, true, true, false, false, false, true, true, true, false, false, false, false] rfl rfl (take_ofW HT_.out HW_.out (by kernel_rfl)) (fun _ _ _ h => h) (Or.inl ⟨by rfl, ?_⟩) hHeld ?_ ?_
                      rotate_left
                      · rintro w' ⟨s0, s1, s2, s3, s4, s5, s6, s7, s8, s9, s10, s11, s12, s13, s14⟩
                        go_simp
                        with_reducible rfl
                      rotate_left
                      · simp only [Act.put, List.setIfInBounds_toArray, List.set_cons_zero, List.set_cons_succ, i64_w, i32_w]
                        rfl
                      refine take_ (i := 18) (N := some 60) (v := ?_) (a' := ?_) #[true, true, true, true, true, true, true, true, true, true, true, true, true, true, true, true, true, true, true, false, false, true, true, true, false, false, false, false] rfl rfl (take_ofW HT_.out HW_.out (by kernel_rfl)) (fun _ _ _ h => h) (Or.inl ⟨by rfl, ?_⟩) hHeld ?_ ?_
                      rotate_left
                      · rintro w' ⟨s0, s1, s2, s3, s4, s5, s6, s7, s8, s9, s10, s11, s12, s13, s14⟩
                        go_simp
                        with_reducible rfl
                      rotate_left
                      · simp only [Act.put, List.setIfInBounds_toArray, List.set_cons_zero, List.set_cons_succ, i64_w, i32_w]
                        rfl
                      refine take_ (i := 20) (N := some 62) (v := ?_) (a' := ?_) #[true, true, true, true, true, true, true, true, true, true, true, true, true, true, true, true, true, true, true, false, true, true, true, true, false, false, false, false] rfl rfl (take_ofW HT_.out HW_.out (by kernel_rfl)) (fun _ _ _ h => h) (Or.inl ⟨by rfl, ?_⟩) hHeld ?_ ?_
                      rotate_left
                      · rintro w' ⟨s0, s1, s2, s3, s4, s5, s6, s7, s8, s9, s10, s11, s12, s13, s14⟩
                        go_simp
                        with_reducible rfl
                      rotate_left
                      · simp only [Act.put, List.setIfInBounds_toArray, List.set_cons_zero, List.set_cons_succ, i64_w, i32_w]
                        rfl
                      refine take_ (i := 24) (N := some 66) (v := ?_) (a' := ?_) #[true, true, true, true, true, true, true, true, true, true, true, true, true, true, true, true, true, true, true, false, true, true, true, true, true, false, false, false] rfl rfl (take_ofW HT_.out HW_.out (by kernel_rfl)) (fun _ _ _ h => h) (Or.inl ⟨by rfl, ?_⟩) hHeld ?_ ?_
                      rotate_left
                      · rintro w' ⟨s0, s1, s2, s3, s4, s5, s6, s7, s8, s9, s10, s11, s12, s13, s14⟩
                        go_simp
                        with_reducible rfl
                      rotate_left
                      · simp only [Act.put, List.setIfInBounds_toArray, List.set_cons_zero, List.set_cons_succ, i64_w, i32_w]
                        rfl
                      refine one_ (i := 19) (N := some 61) #[true, true, true, true, true, true, true, true, true, true, true, true, true, true, true, true, true, true, true, true, true, true, true, true, true, false, false, false] rfl rfl (one_of HT_.out (by kernel_rfl)) (by decide) (fun K hK => ?_)
                      refine goes_ Tryd.func24 (by kernel_rfl) rfl #[.agg #[.int .i64 a1_0, .string a1_1, .string a1_2], .agg #[.int .i64 ((rd_T35 l0 x39_2).f0), .string ((rd_T35 l0 x39_2).f1), .string ((rd_T35 l0 x39_2).f2)]] (by rfl) rfl rfl (by (try simp only [List.map_toArray, List.map_cons, List.map_nil]); first | done | rfl | (simp only [List.length_drop, List.length_take]; rfl)) ?_
                      with_reducible refine (tree_Less.calls a1_0 a1_1 a1_2 ((rd_T35 l0 x39_2).f0) ((rd_T35 l0 x39_2).f1) ((rd_T35 l0 x39_2).f2) t119 _ A29.out).mono ?_
                      rintro e w35 ⟨rfl, hb⟩
                      refine ⟨_, rfl, ?_⟩
                      have n0_ := Aside0.mk (blk_below (g := gb101) (o := .cells #[.int .i64 a1_0, .string a1_1, .string a1_2] 35 (0, 0)) (by (with_reducible repeat (first | refine blk_drewN ?_ _ | refine blk_drew ?_ | refine blk_alloc ?_ _)); exact BK101.out) hb)
                      have n1_ := Aside0.mk (blk_below (g := gb108) (o := .cells #[.int .i64 t104, .string t105, .string t106] 35 (0, 0)) (by (with_reducible repeat (first | refine blk_drewN ?_ _ | refine blk_drew ?_ | refine blk_alloc ?_ _)); exact BK108.out) hb)
                      have n2_ := Aside0.mk (blk_below (g := gb113) (o := .cells #[.int .i64 t109, .string t110, .string t111] 35 (0, 0)) (by (with_reducible repeat (first | refine blk_drewN ?_ _ | refine blk_drew ?_ | refine blk_alloc ?_ _)); exact BK113.out) hb)
                      have n3_ := Aside0.mk (below_step (by repeat (first | (with_reducible first | exact HB.out | apply below_alloc | apply pw_below_drewN | apply below_drew1 | refine below_set ?_ GE101.out | refine below_set ?_ GE108.out | refine below_set ?_ GE113.out) | exact HB.out)) hb)
                      clear BK101
                      clear BK108
                      clear BK113
                      clear HB
                      have BK101 := n0_
                      have BK108 := n1_
                      have BK113 := n2_
                      have HB := n3_
                      clear n0_ n1_ n2_ n3_
                      (try clear hb)
                      (try clear hb2)
                      (try clear hk)
                      (try clear hi)
                      refine hK.out _ _ ⟨(blk_cell BK101.out 0).trans rfl, (blk_cell BK101.out 1).trans rfl, (blk_cell BK101.out 2).trans rfl, ((HB.out.cell (World.block_lt_of_cell? w _ hw114_0)).trans hw114_0), ((HB.out.cell (World.block_lt_of_cell? w _ hw114_1)).trans hw114_1), ((HB.out.cell (World.block_lt_of_cell? w _ hw114_2)).trans hw114_2), ((HB.out.cell (World.block_lt_of_cell? w _ hw116_0)).trans hw116_0), ((HB.out.cell (World.block_lt_of_cell? w _ hw116_1)).trans hw116_1), ((HB.out.cell (World.block_lt_of_cell? w _ hw116_2)).trans hw116_2), ((HB.out.cell (World.block_lt_of_cell? w _ hw118_0)).trans hw118_0), ((HB.out.cell (World.block_lt_of_cell? w _ hw118_1)).trans hw118_1), ((HB.out.cell (World.block_lt_of_cell? w _ hw118_2)).trans hw118_2), ((HB.out.cell (World.block_lt_of_cell? w _ hw120_0)).trans hw120_0), ((HB.out.cell (World.block_lt_of_cell? w _ hw120_1)).trans hw120_1), ((HB.out.cell (World.block_lt_of_cell? w _ hw120_2)).trans hw120_2)⟩ (fun hHeld => ?_)
                      clear hK K
                      refine norm_ (a' := ?_) ?_ ?_
                      rotate_left
                      · show Act.put _ (some 61) _ = _
                        simp only [Act.put, List.setIfInBounds_toArray, List.set_cons_zero, List.set_cons_succ, i64_w, i32_w]
                        rfl
                      refine one_ (i := 25) (N := some 67) #[true, true, true, true, true, true, true, true, true, true, true, true, true, true, true, true, true, true, true, true, true, true, true, true, true, true, false, false] rfl rfl (one_of HT_.out (by kernel_rfl)) (by decide) (fun K hK => ?_)
                      refine goes_ Tryd.func27 (by kernel_rfl) rfl #[.agg #[.int .i64 a1_0, .string a1_1, .string a1_2], .agg #[.int .i64 ((rd_T35 l0 x39_2).f0), .string ((rd_T35 l0 x39_2).f1), .string ((rd_T35 l0 x39_2).f2)]] (by rfl) rfl rfl (by (try simp only [List.map_toArray, List.map_cons, List.map_nil]); first | done | rfl | (simp only [List.length_drop, List.length_take]; rfl)) ?_
                      with_reducible refine (graftageref15_Less.calls a1_0 a1_1 a1_2 ((rd_T35 l0 x39_2).f0) ((rd_T35 l0 x39_2).f1) ((rd_T35 l0 x39_2).f2) t121 _ A30.out).mono ?_
                      rintro e w36 ⟨rfl, hb⟩
                      refine ⟨_, rfl, ?_⟩
                      have n0_ := Aside0.mk (blk_below (g := gb101) (o := .cells #[.int .i64 a1_0, .string a1_1, .string a1_2] 35 (0, 0)) (by (with_reducible repeat (first | refine blk_drewN ?_ _ | refine blk_drew ?_ | refine blk_alloc ?_ _)); exact BK101.out) hb)
                      have n1_ := Aside0.mk (blk_below (g := gb108) (o := .cells #[.int .i64 t104, .string t105, .string t106] 35 (0, 0)) (by (with_reducible repeat (first | refine blk_drewN ?_ _ | refine blk_drew ?_ | refine blk_alloc ?_ _)); exact BK108.out) hb)
                      have n2_ := Aside0.mk (blk_below (g := gb113) (o := .cells #[.int .i64 t109, .string t110, .string t111] 35 (0, 0)) (by (with_reducible repeat (first | refine blk_drewN ?_ _ | refine blk_drew ?_ | refine blk_alloc ?_ _)); exact BK113.out) hb)
                      have n3_ := Aside0.mk (below_step (by repeat (first | (with_reducible first | exact HB.out | apply below_alloc | apply pw_below_drewN | apply below_drew1 | refine below_set ?_ GE101.out | refine below_set ?_ GE108.out | refine below_set ?_ GE113.out) | exact HB.out)) hb)
                      clear BK101
                      clear BK108
                      clear BK113
                      clear HB
                      have BK101 := n0_
                      have BK108 := n1_
                      have BK113 := n2_
                      have HB := n3_
                      clear n0_ n1_ n2_ n3_
                      (try clear hb)
                      (try clear hb2)
                      (try clear hk)
                      (try clear hi)
                      refine hK.out _ _ ⟨(blk_cell BK101.out 0).trans rfl, (blk_cell BK101.out 1).trans rfl, (blk_cell BK101.out 2).trans rfl, ((HB.out.cell (World.block_lt_of_cell? w _ hw114_0)).trans hw114_0), ((HB.out.cell (World.block_lt_of_cell? w _ hw114_1)).trans hw114_1), ((HB.out.cell (World.block_lt_of_cell? w _ hw114_2)).trans hw114_2), ((HB.out.cell (World.block_lt_of_cell? w _ hw116_0)).trans hw116_0), ((HB.out.cell (World.block_lt_of_cell? w _ hw116_1)).trans hw116_1), ((HB.out.cell (World.block_lt_of_cell? w _ hw116_2)).trans hw116_2), ((HB.out.cell (World.block_lt_of_cell? w _ hw118_0)).trans hw118_0), ((HB.out.cell (World.block_lt_of_cell? w _ hw118_1)).trans hw118_1), ((HB.out.cell (World.block_lt_of_cell? w _ hw118_2)).trans hw118_2), ((HB.out.cell (World.block_lt_of_cell? w _ hw120_0)).trans hw120_0), ((HB.out.cell (World.block_lt_of_cell? w _ hw120_1)).trans hw120_1), ((HB.out.cell (World.block_lt_of_cell? w _ hw120_2)).trans hw120_2)⟩ (fun hHeld => ?_)
                      clear hK K
                      refine norm_ (a' := ?_) ?_ ?_
                      rotate_left
                      · show Act.put _ (some 67) _ = _
                        simp only [Act.put, List.setIfInBounds_toArray, List.set_cons_zero, List.set_cons_succ, i64_w, i32_w]
                        rfl
                      refine pure_ (i := 26) (N := some 68) (v := ?_) (a' := ?_) #[true, true, true, true, true, true, true, true, true, true, true, true, true, true, true, true, true, true, true, true, true, true, true, true, true, true, true, false] rfl rfl (any_of HT_.out (by kernel_rfl)) (fun _ _ _ h => h) (Or.inl ⟨by rfl, ?_⟩) ?_ ?_
                      rotate_left
                      · intro w'
                        go_simp
                        with_reducible rfl
                      rotate_left
                      · simp only [Act.put, List.setIfInBounds_toArray, List.set_cons_zero, List.set_cons_succ, i64_w, i32_w]
                        rfl
                      refine pure_ (i := 27) (N := some 69) (v := ?_) (a' := ?_) #[true, true, true, true, true, true, true, true, true, true, true, true, true, true, true, true, true, true, true, true, true, true, true, true, true, true, true, true] rfl rfl (any_of HT_.out (by kernel_rfl)) (fun _ _ _ h => h) (Or.inl ⟨by rfl, ?_⟩) ?_ ?_
                      rotate_left
                      · intro w'
                        go_simp
                        with_reducible rfl
                      rotate_left
                      · simp only [Act.put, List.setIfInBounds_toArray, List.set_cons_zero, List.set_cons_succ, i64_w, i32_w]
                        rfl
                      refine done_ (done_of HT_.out (by kernel_rfl)) ?_
                      try go_wp2
                      go_roundg k2
                      case measure => have := HJ3.out; have := HK2.out; omega
                      case rel => exact ⟨(wrap64 (x39_2 + 1)), (by first | rfl | (simp; done) | (simp [*]; done) | (simp [ne_nil_bool]; done) | (simp [*, ne_nil_bool]; done)), H', ⟨by have := HJ3.out; have := HK2.out; omega⟩, ⟨by (with_reducible repeat (first | refine blk_drewN ?_ _ | refine blk_drew ?_ | refine blk_alloc ?_ _)); exact BK101.out⟩, ⟨by (with_reducible repeat (first | refine blk_drewN ?_ _ | refine blk_drew ?_ | refine blk_alloc ?_ _)); exact BK108.out⟩, ⟨by (with_reducible repeat (first | refine blk_drewN ?_ _ | refine blk_drew ?_ | refine blk_alloc ?_ _)); exact BK113.out⟩, ⟨by repeat (first | (with_reducible first | exact HB.out | apply below_alloc | apply pw_below_drewN | apply below_drew1 | refine below_set ?_ GE101.out | refine below_set ?_ GE108.out | refine below_set ?_ GE113.out) | exact HB.out)⟩⟩
                · rw [if_neg c25] at H
                  exact absurd H (by simp)
              · rw [if_neg c24] at H
                exact absurd H (by simp)
            · rw [if_neg c23] at H
              have c23b0 : decide (x39_2 < (l0.length : Int)) = false := decide_eq_false c23
              clear c23
              by_cases c37 : (t104 == t109 && (t105.toList == t110.toList && (t106.toList == t111.toList))) = true
              · rw [if_pos c37] at H
                have c37b0 : (t104 == t109 && (t105.toList == t110.toList && (t106.toList == t111.toList))) = true := c37
                (try (have c37b1 : decide (t104 = t109 && (t105.toList == t110.toList && (t106.toList == t111.toList))) = true := by simpa using c37))
                (try (have c37b2 : (t104 == t109 && (t105.toList == t110.toList && (t106.toList == t111.toList))) = true := by simpa using c37))
                clear c37
                by_cases c38 : (t107 == t112) = true
                · rw [if_pos c38] at H
                  have c38b0 : (t107 == t112) = true := c38
                  (try (have c38b1 : decide (t107 = t112) = true := by simpa using c38))
                  (try (have c38b2 : (t107 == t112) = true := by simpa using c38))
                  clear c38
                  replace H := Option.bind_eq_some_iff.mp H
                  obtain ⟨t122, A390, H⟩ := H
                  replace H : ((graftageref15_Put.f k2 l0 a1_0 a1_1 a1_2).bind fun t125 => ((graftageref15_Same.f k2 t122 t125).bind fun t128 => (if t128 = true then ((tree_Drop.f k2 l0 a2).bind fun t129 => ((graftageref15_Drop.f k2 l0 a2).bind fun t132 => ((graftageref15_Same.f k2 t129 t132).bind fun t135 => (if t135 = true then ((graftagelaw15_lives.f k2).bind fun t136 => (some t136)) else (some false))))) else (some false)))) = some r := H
                  have A39 := Aside0.mk A390
                  clear A390
                  replace H := Option.bind_eq_some_iff.mp H
                  obtain ⟨t125, A400, H⟩ := H
                  replace H : ((graftageref15_Same.f k2 t122 t125).bind fun t128 => (if t128 = true then ((tree_Drop.f k2 l0 a2).bind fun t129 => ((graftageref15_Drop.f k2 l0 a2).bind fun t132 => ((graftageref15_Same.f k2 t129 t132).bind fun t135 => (if t135 = true then ((graftagelaw15_lives.f k2).bind fun t136 => (some t136)) else (some false))))) else (some false))) = some r := H
                  have A40 := Aside0.mk A400
                  clear A400
                  replace H := Option.bind_eq_some_iff.mp H
                  obtain ⟨t128, A410, H⟩ := H
                  replace H : (if t128 = true then ((tree_Drop.f k2 l0 a2).bind fun t129 => ((graftageref15_Drop.f k2 l0 a2).bind fun t132 => ((graftageref15_Same.f k2 t129 t132).bind fun t135 => (if t135 = true then ((graftagelaw15_lives.f k2).bind fun t136 => (some t136)) else (some false))))) else (some false)) = some r := H
                  have A41 := Aside0.mk A410
                  clear A410
                  by_cases c42 : t128 = true
                  · subst c42
                    have H1 : ((tree_Drop.f k2 l0 a2).bind fun t129 => ((graftageref15_Drop.f k2 l0 a2).bind fun t132 => ((graftageref15_Same.f k2 t129 t132).bind fun t135 => (if t135 = true then ((graftagelaw15_lives.f k2).bind fun t136 => (some t136)) else (some false))))) = some r := by rw [if_pos rfl] at H; exact H
                    clear H
                    have H := H1
                    clear H1
                    replace H := Option.bind_eq_some_iff.mp H
                    obtain ⟨t129, A430, H⟩ := H
                    replace H : ((graftageref15_Drop.f k2 l0 a2).bind fun t132 => ((graftageref15_Same.f k2 t129 t132).bind fun t135 => (if t135 = true then ((graftagelaw15_lives.f k2).bind fun t136 => (some t136)) else (some false)))) = some r := H
                    have A43 := Aside0.mk A430
                    clear A430
                    replace H := Option.bind_eq_some_iff.mp H
                    obtain ⟨t132, A440, H⟩ := H
                    replace H : ((graftageref15_Same.f k2 t129 t132).bind fun t135 => (if t135 = true then ((graftagelaw15_lives.f k2).bind fun t136 => (some t136)) else (some false))) = some r := H
                    have A44 := Aside0.mk A440
                    clear A440
                    replace H := Option.bind_eq_some_iff.mp H
                    obtain ⟨t135, A450, H⟩ := H
                    replace H : (if t135 = true then ((graftagelaw15_lives.f k2).bind fun t136 => (some t136)) else (some false)) = some r := H
                    have A45 := Aside0.mk A450
                    clear A450
                    by_cases c46 : t135 = true
                    · subst c46
                      have H1 : ((graftagelaw15_lives.f k2).bind fun t136 => (some t136)) = some r := by rw [if_pos rfl] at H; exact H
                      clear H
                      have H := H1
                      clear H1
                      replace H := Option.bind_eq_some_iff.mp H
                      obtain ⟨t136, A470, H⟩ := H
                      replace H : (some t136) = some r := H
                      have A47 := Aside0.mk A470
                      clear A470
                      obtain rfl := Option.some.inj H
                      try go_wp2
                      have n0_ := Aside0.mk (blk_drew BK101.out)
                      have n1_ := Aside0.mk (blk_drew BK108.out)
                      have n2_ := Aside0.mk (blk_drew BK113.out)
                      have n3_ := Aside0.mk (below_drew1 HB.out)
                      clear BK101
                      clear BK108
                      clear BK113
                      clear HB
                      have BK101 := n0_
                      have BK108 := n1_
                      have BK113 := n2_
                      have HB := n3_
                      clear n0_ n1_ n2_ n3_
                      refine start_ (n := 30) (S := fun w' => w'.cell? ⟨gb108, 0, none⟩ = some (.int .i64 t104) ∧ w'.cell? ⟨gb108, 1, none⟩ = some (.string t105) ∧ w'.cell? ⟨gb108, 2, none⟩ = some (.string t106) ∧ w'.cell? ⟨gb113, 0, none⟩ = some (.int .i64 t109) ∧ w'.cell? ⟨gb113, 1, none⟩ = some (.string t110) ∧ w'.cell? ⟨gb113, 2, none⟩ = some (.string t111) ∧ w'.cell? ⟨gb101, 0, none⟩ = some (.int .i64 a1_0) ∧ w'.cell? ⟨gb101, 1, none⟩ = some (.string a1_1) ∧ w'.cell? ⟨gb101, 2, none⟩ = some (.string a1_2)) (ds := []) #[false, false, false, false, false, false, false, false, false, false, false, false, false, false, false, false, false, false, false, false, false, false, false, false, false, false, false, false, false, false] (by kernel_rfl) rfl rfl ⟨(blk_cell BK108.out 0).trans rfl, (blk_cell BK108.out 1).trans rfl, (blk_cell BK108.out 2).trans rfl, (blk_cell BK113.out 0).trans rfl, (blk_cell BK113.out 1).trans rfl, (blk_cell BK113.out 2).trans rfl, (blk_cell BK101.out 0).trans rfl, (blk_cell BK101.out 1).trans rfl, (blk_cell BK101.out 2).trans rfl⟩ (fun hHeld => ?_); refine with_tabW graftagelaw15_TreePuts.tab11 graftagelaw15_TreePuts.bits11 (fun HT_ HW_ => ?_)
                      generalize wr.drew = w48 at BK101 BK108 BK113 HB hHeld ⊢
                      refine take_ (i := 0) (N := some 71) (v := ?_) (a' := ?_) #[true, false, false, false, false, false, false, false, false, false, false, false, false, false, false, false, false, false, false, false, false, false, false, false, false, false, false, false, false, false] rfl rfl (take_ofW HT_.out HW_.out (by kernel_rfl)) (fun _ _ _ h => h) (Or.inl ⟨by rfl, ?_⟩) hHeld ?_ ?_
                      rotate_left
                      · rintro w' ⟨s0, s1, s2, s3, s4, s5, s6, s7, s8⟩
                        go_simp
                        with_reducible rfl
                      rotate_left
                      · simp only [Act.put, List.setIfInBounds_toArray, List.set_cons_zero, List.set_cons_succ, i64_w, i32_w]
                        rfl
                      refine take_ (i := 1) (N := some 72) (v := ?_) (a' := ?_) #[true, true, false, false, false, false, false, false, false, false, false, false, false, false, false, false, false, false, false, false, false, false, false, false, false, false, false, false, false, false] rfl rfl (take_ofW HT_.out HW_.out (by kernel_rfl)) (fun _ _ _ h => h) (Or.inl ⟨by rfl, ?_⟩) hHeld ?_ ?_
                      rotate_left
                      · rintro w' ⟨s0, s1, s2, s3, s4, s5, s6, s7, s8⟩
                        go_simp
                        with_reducible rfl
                      rotate_left
                      · simp only [Act.put, List.setIfInBounds_toArray, List.set_cons_zero, List.set_cons_succ, i64_w, i32_w]
                        rfl
                      refine pure_ (i := 2) (N := some 73) (v := ?_) (a' := ?_) #[true, true, true, false, false, false, false, false, false, false, false, false, false, false, false, false, false, false, false, false, false, false, false, false, false, false, false, false, false, false] rfl rfl (any_of HT_.out (by kernel_rfl)) (fun _ _ _ h => h) (Or.inl ⟨by rfl, ?_⟩) ?_ ?_
                      rotate_left
                      · intro w'
                        go_simp
                        with_reducible rfl
                      rotate_left
                      · simp only [Act.put, List.setIfInBounds_toArray, List.set_cons_zero, List.set_cons_succ, i64_w, i32_w]
                        rfl
                      refine pure_ (i := 3) (N := some 74) (v := ?_) (a' := ?_) #[true, true, true, true, false, false, false, false, false, false, false, false, false, false, false, false, false, false, false, false, false, false, false, false, false, false, false, false, false, false] rfl rfl (any_of HT_.out (by kernel_rfl)) (fun _ _ _ h => h) (Or.inl ⟨by rfl, ?_⟩) ?_ ?_
                      rotate_left
                      · intro w'
                        go_simp
                        with_reducible rfl
                      rotate_left
                      · simp only [Act.put, List.setIfInBounds_toArray, List.set_cons_zero, List.set_cons_succ, i64_w, i32_w]
                        rfl
                      refine pure_ (i := 4) (N := some 75) (v := ?_) (a' := ?_) #[true, true, true, true, true, false, false, false, false, false, false, false, false, false, false, false, false, false, false, false, false, false, false, false, false, false, false, false, false, false] rfl rfl (any_of HT_.out (by kernel_rfl)) (fun _ _ _ h => h) (Or.inl ⟨by rfl, ?_⟩) ?_ ?_
                      rotate_left
                      · intro w'
                        go_simp
                        with_reducible rfl
                      rotate_left
                      · simp only [Act.put, List.setIfInBounds_toArray, List.set_cons_zero, List.set_cons_succ, i64_w, i32_w]
                        rfl
                      refine pure_ (i := 5) (N := some 76) (v := ?_) (a' := ?_) #[true, true, true, true, true, true, false, false, false, false, false, false, false, false, false, false, false, false, false, false, false, false, false, false, false, false, false, false, false, false] rfl rfl (any_of HT_.out (by kernel_rfl)) (fun _ _ _ h => h) (Or.inl ⟨by rfl, ?_⟩) ?_ ?_
                      rotate_left
                      · intro w'
                        go_simp
                        with_reducible rfl
                      rotate_left
                      · simp only [Act.put, List.setIfInBounds_toArray, List.set_cons_zero, List.set_cons_succ, i64_w, i32_w]
                        rfl
                      refine pure_ (i := 6) (N := some 77) (v := ?_) (a' := ?_) #[true, true, true, true, true, true, true, false, false, false, false, false, false, false, false, false, false, false, false, false, false, false, false, false, false, false, false, false, false, false] rfl rfl (any_of HT_.out (by kernel_rfl)) (fun _ _ _ h => h) (Or.inl ⟨by rfl, ?_⟩) ?_ ?_
                      rotate_left
                      · intro w'
                        go_simp
                        with_reducible rfl
                      rotate_left
                      · simp only [Act.put, List.setIfInBounds_toArray, List.set_cons_zero, List.set_cons_succ, i64_w, i32_w]
                        rfl
                      refine pure_ (i := 7) (N := some 78) (v := ?_) (a' := ?_) #[true, true, true, true, true, true, true, true, false, false, false, false, false, false, false, false, false, false, false, false, false, false, false, false, false, false, false, false, false, false] rfl rfl (any_of HT_.out (by kernel_rfl)) (fun _ _ _ h => h) (Or.inl ⟨by rfl, ?_⟩) ?_ ?_
                      rotate_left
                      · intro w'
                        go_simp
                        with_reducible rfl
                      rotate_left
                      · simp only [Act.put, List.setIfInBounds_toArray, List.set_cons_zero, List.set_cons_succ, i64_w, i32_w]
                        rfl
                      refine pure_ (i := 8) (N := some 79) (v := ?_) (a' := ?_) #[true, true, true, true, true, true, true, true, true, false, false, false, false, false, false, false, false, false, false, false, false, false, false, false, false, false, false, false, false, false] rfl rfl (any_of HT_.out (by kernel_rfl)) (fun _ _ _ h => h) (Or.inl ⟨by rfl, ?_⟩) ?_ ?_
                      rotate_left
                      · intro w'
                        go_simp
                        with_reducible rfl
                      rotate_left
                      · simp only [Act.put, List.setIfInBounds_toArray, List.set_cons_zero, List.set_cons_succ, i64_w, i32_w]
                        rfl
                      refine pure_ (i := 9) (N := some 80) (v := ?_) (a' := ?_) #[true, true, true, true, true, true, true, true, true, true, false, false, false, false, false, false, false, false, false, false, false, false, false, false, false, false, false, false, false, false] rfl rfl (any_of HT_.out (by kernel_rfl)) (fun _ _ _ h => h) (Or.inl ⟨by rfl, ?_⟩) ?_ ?_
                      rotate_left
                      · intro w'
                        go_simp
                        with_reducible rfl
                      rotate_left
                      · simp only [Act.put, List.setIfInBounds_toArray, List.set_cons_zero, List.set_cons_succ, i64_w, i32_w]
                        rfl
                      refine pure_ (i := 12) (N := some 83) (v := ?_) (a' := ?_) #[true, true, true, true, true, true, true, true, true, true, false, false, true, false, false, false, false, false, false, false, false, false, false, false, false, false, false, false, false, false] rfl rfl (any_of HT_.out (by kernel_rfl)) (fun _ _ _ h => h) (Or.inl ⟨by rfl, ?_⟩) ?_ ?_
                      rotate_left
                      · intro w'
                        go_simp
                        with_reducible rfl
                      rotate_left
                      · simp only [Act.put, List.setIfInBounds_toArray, List.set_cons_zero, List.set_cons_succ, i64_w, i32_w]
                        rfl
                      refine take_ (i := 10) (N := some 81) (v := ?_) (a' := ?_) #[true, true, true, true, true, true, true, true, true, true, true, false, true, false, false, false, false, false, false, false, false, false, false, false, false, false, false, false, false, false] rfl rfl (take_ofW HT_.out HW_.out (by kernel_rfl)) (fun _ _ _ h => h) (Or.inl ⟨by rfl, ?_⟩) hHeld ?_ ?_
                      rotate_left
                      · rintro w' ⟨s0, s1, s2, s3, s4, s5, s6, s7, s8⟩
                        go_simp
                        with_reducible rfl
                      rotate_left
                      · simp only [Act.put, List.setIfInBounds_toArray, List.set_cons_zero, List.set_cons_succ, i64_w, i32_w]
                        rfl
                      refine take_ (i := 13) (N := some 84) (v := ?_) (a' := ?_) #[true, true, true, true, true, true, true, true, true, true, true, false, true, true, false, false, false, false, false, false, false, false, false, false, false, false, false, false, false, false] rfl rfl (take_ofW HT_.out HW_.out (by kernel_rfl)) (fun _ _ _ h => h) (Or.inl ⟨by rfl, ?_⟩) hHeld ?_ ?_
                      rotate_left
                      · rintro w' ⟨s0, s1, s2, s3, s4, s5, s6, s7, s8⟩
                        go_simp
                        with_reducible rfl
                      rotate_left
                      · simp only [Act.put, List.setIfInBounds_toArray, List.set_cons_zero, List.set_cons_succ, i64_w, i32_w]
                        rfl
                      refine one_ (i := 11) (N := some 82) #[true, true, true, true, true, true, true, true, true, true, true, true, true, true, false, false, false, false, false, false, false, false, false, false, false, false, false, false, false, false] rfl rfl (one_of HT_.out (by kernel_rfl)) (by decide) (fun K hK => ?_)
                      refine goes_ Tryd.func28 (by kernel_rfl) rfl #[.slice A0 l0.length c0, .agg #[.int .i64 a1_0, .string a1_1, .string a1_2]] (by rfl) rfl rfl (by (try simp only [List.map_toArray, List.map_cons, List.map_nil]); first | done | rfl | (simp only [List.length_drop, List.length_take]; rfl)) ?_
                      with_reducible refine (tree_Put.calls k2 _ _ l0 a1_0 a1_1 a1_2 t122 _ ?side1 ?side2 A39.out).mono ?_
                      (case side1 => repeat (first | exact (Kd.C_below HR0.out HB.out) | (with_reducible refine Kd.C_alloc ?_ _) | (with_reducible refine Kd.C_drewN ?_ _) | (with_reducible refine Kd.C_drew ?_)))
                      (case side2 => exact HC0.out)
                      rintro e w49 ⟨v123, rfl, ho0, hb⟩
                      refine ⟨_, rfl, ?_⟩
                      have n0_ := Aside0.mk (Kd.R_lower (Kd.R_newB (Kd.R_newB (Kd.R_newB ho0 (g := gb101) (o := .cells #[.int .i64 a1_0, .string a1_1, .string a1_2] 35 (0, 0)) (by (with_reducible repeat (first | refine blk_drewN ?_ _ | refine blk_drew ?_ | refine blk_alloc ?_ _)); exact BK101.out)) (g := gb108) (o := .cells #[.int .i64 t104, .string t105, .string t106] 35 (0, 0)) (by (with_reducible repeat (first | refine blk_drewN ?_ _ | refine blk_drew ?_ | refine blk_alloc ?_ _)); exact BK108.out)) (g := gb113) (o := .cells #[.int .i64 t109, .string t110, .string t111] 35 (0, 0)) (by (with_reducible repeat (first | refine blk_drewN ?_ _ | refine blk_drew ?_ | refine blk_alloc ?_ _)); exact BK113.out)) (below_size (by repeat (first | (with_reducible first | exact HB.out | apply below_alloc | apply pw_below_drewN | apply below_drew1 | refine below_set ?_ GE101.out | refine below_set ?_ GE108.out | refine below_set ?_ GE113.out) | exact HB.out))))
                      have n1_ := Aside0.mk (blk_below (g := gb101) (o := .cells #[.int .i64 a1_0, .string a1_1, .string a1_2] 35 (0, 0)) (by (with_reducible repeat (first | refine blk_drewN ?_ _ | refine blk_drew ?_ | refine blk_alloc ?_ _)); exact BK101.out) hb)
                      have n2_ := Aside0.mk (blk_below (g := gb108) (o := .cells #[.int .i64 t104, .string t105, .string t106] 35 (0, 0)) (by (with_reducible repeat (first | refine blk_drewN ?_ _ | refine blk_drew ?_ | refine blk_alloc ?_ _)); exact BK108.out) hb)
                      have n3_ := Aside0.mk (blk_below (g := gb113) (o := .cells #[.int .i64 t109, .string t110, .string t111] 35 (0, 0)) (by (with_reducible repeat (first | refine blk_drewN ?_ _ | refine blk_drew ?_ | refine blk_alloc ?_ _)); exact BK113.out) hb)
                      have n4_ := Aside0.mk (below_step (by repeat (first | (with_reducible first | exact HB.out | apply below_alloc | apply pw_below_drewN | apply below_drew1 | refine below_set ?_ GE101.out | refine below_set ?_ GE108.out | refine below_set ?_ GE113.out) | exact HB.out)) hb)
                      clear BK101
                      clear BK108
                      clear BK113
                      clear HB
                      have HO124 := n0_
                      have BK101 := n1_
                      have BK108 := n2_
                      have BK113 := n3_
                      have HB := n4_
                      clear n0_ n1_ n2_ n3_ n4_
                      (try clear hb)
                      (try clear hb2)
                      (try clear hk)
                      (try clear hi)
                      (try clear ho0)
                      refine hK.out _ _ ⟨(blk_cell BK108.out 0).trans rfl, (blk_cell BK108.out 1).trans rfl, (blk_cell BK108.out 2).trans rfl, (blk_cell BK113.out 0).trans rfl, (blk_cell BK113.out 1).trans rfl, (blk_cell BK113.out 2).trans rfl, (blk_cell BK101.out 0).trans rfl, (blk_cell BK101.out 1).trans rfl, (blk_cell BK101.out 2).trans rfl⟩ (fun hHeld => ?_)
                      clear hK K
                      refine norm_ (a' := ?_) ?_ ?_
                      rotate_left
                      · show Act.put _ (some 82) _ = _
                        simp only [Act.put, List.setIfInBounds_toArray, List.set_cons_zero, List.set_cons_succ, i64_w, i32_w]
                        rfl
                      refine one_ (i := 14) (N := some 85) #[true, true, true, true, true, true, true, true, true, true, true, true, true, true, true, false, false, false, false, false, false, false, false, false, false, false, false, false, false, false] rfl rfl (one_of HT_.out (by kernel_rfl)) (by decide) (fun K hK => ?_)
                      refine goes_ Tryd.func29 (by kernel_rfl) rfl #[.slice A0 l0.length c0, .agg #[.int .i64 a1_0, .string a1_1, .string a1_2]] (by rfl) rfl rfl (by (try simp only [List.map_toArray, List.map_cons, List.map_nil]); first | done | rfl | (simp only [List.length_drop, List.length_take]; rfl)) ?_
                      with_reducible refine (graftageref15_Put.calls k2 _ _ l0 a1_0 a1_1 a1_2 t125 _ ?side1 ?side2 A40.out).mono ?_
                      (case side1 => repeat (first | exact (Kd.C_below HR0.out HB.out) | (with_reducible refine Kd.C_alloc ?_ _) | (with_reducible refine Kd.C_drewN ?_ _) | (with_reducible refine Kd.C_drew ?_)))
                      (case side2 => exact HC0.out)
                      rintro e w50 ⟨v126, rfl, ho0, hb⟩
                      refine ⟨_, rfl, ?_⟩
                      have n0_ := Aside0.mk (Kd.R_elder' (by (with_reducible repeat (first | apply Kd.R_alloc | apply Kd.R_drewN | apply Kd.R_drew)); exact HO124.out) (Kd.R_base ho0) hb)
                      have n1_ := Aside0.mk (Kd.R_lower (Kd.R_newB (Kd.R_newB (Kd.R_newB (Kd.R_new' ho0 (Kd.R_lt (by (with_reducible repeat (first | apply Kd.R_alloc | apply Kd.R_drewN | apply Kd.R_drew)); exact HO124.out))) (g := gb101) (o := .cells #[.int .i64 a1_0, .string a1_1, .string a1_2] 35 (0, 0)) (by (with_reducible repeat (first | refine blk_drewN ?_ _ | refine blk_drew ?_ | refine blk_alloc ?_ _)); exact BK101.out)) (g := gb108) (o := .cells #[.int .i64 t104, .string t105, .string t106] 35 (0, 0)) (by (with_reducible repeat (first | refine blk_drewN ?_ _ | refine blk_drew ?_ | refine blk_alloc ?_ _)); exact BK108.out)) (g := gb113) (o := .cells #[.int .i64 t109, .string t110, .string t111] 35 (0, 0)) (by (with_reducible repeat (first | refine blk_drewN ?_ _ | refine blk_drew ?_ | refine blk_alloc ?_ _)); exact BK113.out)) (below_size (by repeat (first | (with_reducible first | exact HB.out | apply below_alloc | apply pw_below_drewN | apply below_drew1 | refine below_set ?_ GE101.out | refine below_set ?_ GE108.out | refine below_set ?_ GE113.out) | exact HB.out))))
                      have n2_ := Aside0.mk (blk_below (g := gb101) (o := .cells #[.int .i64 a1_0, .string a1_1, .string a1_2] 35 (0, 0)) (by (with_reducible repeat (first | refine blk_drewN ?_ _ | refine blk_drew ?_ | refine blk_alloc ?_ _)); exact BK101.out) hb)
                      have n3_ := Aside0.mk (blk_below (g := gb108) (o := .cells #[.int .i64 t104, .string t105, .string t106] 35 (0, 0)) (by (with_reducible repeat (first | refine blk_drewN ?_ _ | refine blk_drew ?_ | refine blk_alloc ?_ _)); exact BK108.out) hb)
                      have n4_ := Aside0.mk (blk_below (g := gb113) (o := .cells #[.int .i64 t109, .string t110, .string t111] 35 (0, 0)) (by (with_reducible repeat (first | refine blk_drewN ?_ _ | refine blk_drew ?_ | refine blk_alloc ?_ _)); exact BK113.out) hb)
                      have n5_ := Aside0.mk (below_step (by repeat (first | (with_reducible first | exact HB.out | apply below_alloc | apply pw_below_drewN | apply below_drew1 | refine below_set ?_ GE101.out | refine below_set ?_ GE108.out | refine below_set ?_ GE113.out) | exact HB.out)) hb)
                      clear HO124
                      clear BK101
                      clear BK108
                      clear BK113
                      clear HB
                      have HO124 := n0_
                      have HO127 := n1_
                      have BK101 := n2_
                      have BK108 := n3_
                      have BK113 := n4_
                      have HB := n5_
                      clear n0_ n1_ n2_ n3_ n4_ n5_
                      (try clear hb)
                      (try clear hb2)
                      (try clear hk)
                      (try clear hi)
                      (try clear ho0)
                      obtain ⟨Ao51, co51, eo51⟩ := Kd.R_slice HO124.out
                      (first | subst eo51 | (injection eo51 with f1_ f2_ f3_; have f4_ := f1_.symm; have f5_ := f3_.symm; clear f1_ f2_ f3_; subst f4_; subst f5_))
                      obtain ⟨Ao52, co52, eo52⟩ := Kd.R_slice HO127.out
                      (first | subst eo52 | (injection eo52 with f1_ f2_ f3_; have f4_ := f1_.symm; have f5_ := f3_.symm; clear f1_ f2_ f3_; subst f4_; subst f5_))
                      refine hK.out _ _ ⟨(blk_cell BK108.out 0).trans rfl, (blk_cell BK108.out 1).trans rfl, (blk_cell BK108.out 2).trans rfl, (blk_cell BK113.out 0).trans rfl, (blk_cell BK113.out 1).trans rfl, (blk_cell BK113.out 2).trans rfl, (blk_cell BK101.out 0).trans rfl, (blk_cell BK101.out 1).trans rfl, (blk_cell BK101.out 2).trans rfl⟩ (fun hHeld => ?_)
                      clear hK K
                      refine norm_ (a' := ?_) ?_ ?_
                      rotate_left
                      · show Act.put _ (some 85) _ = _
                        simp only [Act.put, List.setIfInBounds_toArray, List.set_cons_zero, List.set_cons_succ, i64_w, i32_w]
                        rfl
                      refine one_ (i := 15) (N := some 86) #[true, true, true, true, true, true, true, true, true, true, true, true, true, true, true, true, false, false, false, false, false, false, false, false, false, false, false, false, false, false] rfl rfl (one_of HT_.out (by kernel_rfl)) (by decide) (fun K hK => ?_)
                      refine goes_ Tryd.func22 (by kernel_rfl) rfl #[.slice Ao51 t122.length co51, .slice Ao52 t125.length co52] (by rfl) rfl rfl (by (try simp only [List.map_toArray, List.map_cons, List.map_nil]); first | done | rfl | (simp only [List.length_drop, List.length_take]; rfl)) ?_
                      with_reducible refine (graftageref15_Same.calls k2 _ _ t122 _ _ t125 true _ ?side1 ?side2 ?side3 ?side4 A41.out).mono ?_
                      (case side1 => repeat (first | exact (Kd.R_reads' HO124.out).2.2 | (with_reducible refine Kd.C_alloc ?_ _) | (with_reducible refine Kd.C_drewN ?_ _) | (with_reducible refine Kd.C_drew ?_)))
                      (case side2 => exact (Kd.R_reads' HO124.out).2.1)
                      (case side3 => repeat (first | exact (Kd.R_reads' HO127.out).2.2 | (with_reducible refine Kd.C_alloc ?_ _) | (with_reducible refine Kd.C_drewN ?_ _) | (with_reducible refine Kd.C_drew ?_)))
                      (case side4 => exact (Kd.R_reads' HO127.out).2.1)
                      rintro e w' ⟨rfl, ⟨nd, rfl⟩⟩
                      refine ⟨_, rfl, ?_⟩
                      refine hK.out _ _ ⟨(blk_cell BK108.out 0).trans rfl, (blk_cell BK108.out 1).trans rfl, (blk_cell BK108.out 2).trans rfl, (blk_cell BK113.out 0).trans rfl, (blk_cell BK113.out 1).trans rfl, (blk_cell BK113.out 2).trans rfl, (blk_cell BK101.out 0).trans rfl, (blk_cell BK101.out 1).trans rfl, (blk_cell BK101.out 2).trans rfl⟩ (fun hHeld => ?_)
                      clear hK K
                      refine norm_ (a' := ?_) ?_ ?_
                      rotate_left
                      · show Act.put _ (some 86) _ = _
                        simp only [Act.put, List.setIfInBounds_toArray, List.set_cons_zero, List.set_cons_succ, i64_w, i32_w]
                        rfl
                      refine pure_ (i := 16) (N := some 87) (v := ?_) (a' := ?_) #[true, true, true, true, true, true, true, true, true, true, true, true, true, true, true, true, true, false, false, false, false, false, false, false, false, false, false, false, false, false] rfl rfl (any_of HT_.out (by kernel_rfl)) (fun _ _ _ h => h) (Or.inl ⟨by rfl, ?_⟩) ?_ ?_
                      rotate_left
                      · intro w'
                        go_simp
                        with_reducible rfl
                      rotate_left
                      · simp only [Act.put, List.setIfInBounds_toArray, List.set_cons_zero, List.set_cons_succ, i64_w, i32_w]
                        rfl
                      refine pure_ (i := 17) (N := some 88) (v := ?_) (a' := ?_) #[true, true, true, true, true, true, true, true, true, true, true, true, true, true, true, true, true, true, false, false, false, false, false, false, false, false, false, false, false, false] rfl rfl (any_of HT_.out (by kernel_rfl)) (fun _ _ _ h => h) (Or.inl ⟨by rfl, ?_⟩) ?_ ?_
                      rotate_left
                      · intro w'
                        go_simp
                        with_reducible rfl
                      rotate_left
                      · simp only [Act.put, List.setIfInBounds_toArray, List.set_cons_zero, List.set_cons_succ, i64_w, i32_w]
                        rfl
                      refine pure_ (i := 18) (N := some 89) (v := ?_) (a' := ?_) #[true, true, true, true, true, true, true, true, true, true, true, true, true, true, true, true, true, true, true, false, false, false, false, false, false, false, false, false, false, false] rfl rfl (any_of HT_.out (by kernel_rfl)) (fun _ _ _ h => h) (Or.inl ⟨by rfl, ?_⟩) ?_ ?_
                      rotate_left
                      · intro w'
                        go_simp
                        with_reducible rfl
                      rotate_left
                      · simp only [Act.put, List.setIfInBounds_toArray, List.set_cons_zero, List.set_cons_succ, i64_w, i32_w]
                        rfl
                      refine pure_ (i := 19) (N := some 90) (v := ?_) (a' := ?_) #[true, true, true, true, true, true, true, true, true, true, true, true, true, true, true, true, true, true, true, true, false, false, false, false, false, false, false, false, false, false] rfl rfl (any_of HT_.out (by kernel_rfl)) (fun _ _ _ h => h) (Or.inl ⟨by rfl, ?_⟩) ?_ ?_
                      rotate_left
                      · intro w'
                        go_simp
                        with_reducible rfl
                      rotate_left
                      · simp only [Act.put, List.setIfInBounds_toArray, List.set_cons_zero, List.set_cons_succ, i64_w, i32_w]
                        rfl
                      refine pure_ (i := 21) (N := some 92) (v := ?_) (a' := ?_) #[true, true, true, true, true, true, true, true, true, true, true, true, true, true, true, true, true, true, true, true, false, true, false, false, false, false, false, false, false, false] rfl rfl (any_of HT_.out (by kernel_rfl)) (fun _ _ _ h => h) (Or.inl ⟨by rfl, ?_⟩) ?_ ?_
                      rotate_left
                      · intro w'
                        go_simp
                        with_reducible rfl
                      rotate_left
                      · simp only [Act.put, List.setIfInBounds_toArray, List.set_cons_zero, List.set_cons_succ, i64_w, i32_w]
                        rfl
                      refine pure_ (i := 22) (N := some 93) (v := ?_) (a' := ?_) #[true, true, true, true, true, true, true, true, true, true, true, true, true, true, true, true, true, true, true, true, false, true, true, false, false, false, false, false, false, false] rfl rfl (any_of HT_.out (by kernel_rfl)) (fun _ _ _ h => h) (Or.inl ⟨by rfl, ?_⟩) ?_ ?_
                      rotate_left
                      · intro w'
                        go_simp
                        with_reducible rfl
                      rotate_left
                      · simp only [Act.put, List.setIfInBounds_toArray, List.set_cons_zero, List.set_cons_succ, i64_w, i32_w]
                        rfl
                      refine one_ (i := 20) (N := some 91) #[true, true, true, true, true, true, true, true, true, true, true, true, true, true, true, true, true, true, true, true, true, true, true, false, false, false, false, false, false, false] rfl rfl (one_of HT_.out (by kernel_rfl)) (by decide) (fun K hK => ?_)
                      refine goes_ Tryd.func30 (by kernel_rfl) rfl #[.slice A0 l0.length c0, .string a2] (by rfl) rfl rfl (by (try simp only [List.map_toArray, List.map_cons, List.map_nil]); first | done | rfl | (simp only [List.length_drop, List.length_take]; rfl)) ?_
                      with_reducible refine (tree_Drop.calls k2 _ _ l0 a2 t129 _ ?side1 ?side2 A43.out).mono ?_
                      (case side1 => repeat (first | exact (Kd.C_below HR0.out (by repeat (first | (with_reducible first | exact HB.out | apply below_alloc | apply pw_below_drewN | apply below_drew1 | refine below_set ?_ GE101.out | refine below_set ?_ GE108.out | refine below_set ?_ GE113.out) | exact HB.out))) | (with_reducible refine Kd.C_alloc ?_ _) | (with_reducible refine Kd.C_drewN ?_ _) | (with_reducible refine Kd.C_drew ?_)))
                      (case side2 => exact HC0.out)
                      rintro e w53 ⟨v130, rfl, ho0, hb⟩
                      refine ⟨_, rfl, ?_⟩
                      have n0_ := Aside0.mk (Kd.R_elder' (by (with_reducible repeat (first | apply Kd.R_alloc | apply Kd.R_drewN | apply Kd.R_drew)); exact HO124.out) (Kd.R_base ho0) hb)
                      have n1_ := Aside0.mk (Kd.R_elder' (by (with_reducible repeat (first | apply Kd.R_alloc | apply Kd.R_drewN | apply Kd.R_drew)); exact HO127.out) (Kd.R_base ho0) hb)
                      have n2_ := Aside0.mk (Kd.R_lower (Kd.R_newB (Kd.R_newB (Kd.R_newB (Kd.R_new' (Kd.R_new' ho0 (Kd.R_lt (by (with_reducible repeat (first | apply Kd.R_alloc | apply Kd.R_drewN | apply Kd.R_drew)); exact HO124.out))) (Kd.R_lt (by (with_reducible repeat (first | apply Kd.R_alloc | apply Kd.R_drewN | apply Kd.R_drew)); exact HO127.out))) (g := gb101) (o := .cells #[.int .i64 a1_0, .string a1_1, .string a1_2] 35 (0, 0)) (by (with_reducible repeat (first | refine blk_drewN ?_ _ | refine blk_drew ?_ | refine blk_alloc ?_ _)); exact BK101.out)) (g := gb108) (o := .cells #[.int .i64 t104, .string t105, .string t106] 35 (0, 0)) (by (with_reducible repeat (first | refine blk_drewN ?_ _ | refine blk_drew ?_ | refine blk_alloc ?_ _)); exact BK108.out)) (g := gb113) (o := .cells #[.int .i64 t109, .string t110, .string t111] 35 (0, 0)) (by (with_reducible repeat (first | refine blk_drewN ?_ _ | refine blk_drew ?_ | refine blk_alloc ?_ _)); exact BK113.out)) (below_size (by repeat (first | (with_reducible first | exact HB.out | apply below_alloc | apply pw_below_drewN | apply below_drew1 | refine below_set ?_ GE101.out | refine below_set ?_ GE108.out | refine below_set ?_ GE113.out) | exact HB.out))))
                      have n3_ := Aside0.mk (blk_below (g := gb101) (o := .cells #[.int .i64 a1_0, .string a1_1, .string a1_2] 35 (0, 0)) (by (with_reducible repeat (first | refine blk_drewN ?_ _ | refine blk_drew ?_ | refine blk_alloc ?_ _)); exact BK101.out) hb)
                      have n4_ := Aside0.mk (blk_below (g := gb108) (o := .cells #[.int .i64 t104, .string t105, .string t106] 35 (0, 0)) (by (with_reducible repeat (first | refine blk_drewN ?_ _ | refine blk_drew ?_ | refine blk_alloc ?_ _)); exact BK108.out) hb)
                      have n5_ := Aside0.mk (blk_below (g := gb113) (o := .cells #[.int .i64 t109, .string t110, .string t111] 35 (0, 0)) (by (with_reducible repeat (first | refine blk_drewN ?_ _ | refine blk_drew ?_ | refine blk_alloc ?_ _)); exact BK113.out) hb)
                      have n6_ := Aside0.mk (below_step (by repeat (first | (with_reducible first | exact HB.out | apply below_alloc | apply pw_below_drewN | apply below_drew1 | refine below_set ?_ GE101.out | refine below_set ?_ GE108.out | refine below_set ?_ GE113.out) | exact HB.out)) hb)
                      clear HO124
                      clear HO127
                      clear BK101
                      clear BK108
                      clear BK113
                      clear HB
                      have HO124 := n0_
                      have HO127 := n1_
                      have HO131 := n2_
                      have BK101 := n3_
                      have BK108 := n4_
                      have BK113 := n5_
                      have HB := n6_
                      clear n0_ n1_ n2_ n3_ n4_ n5_ n6_
                      (try clear hb)
                      (try clear hb2)
                      (try clear hk)
                      (try clear hi)
                      (try clear ho0)
                      refine hK.out _ _ ⟨(blk_cell BK108.out 0).trans rfl, (blk_cell BK108.out 1).trans rfl, (blk_cell BK108.out 2).trans rfl, (blk_cell BK113.out 0).trans rfl, (blk_cell BK113.out 1).trans rfl, (blk_cell BK113.out 2).trans rfl, (blk_cell BK101.out 0).trans rfl, (blk_cell BK101.out 1).trans rfl, (blk_cell BK101.out 2).trans rfl⟩ (fun hHeld => ?_)
                      clear hK K
                      refine norm_ (a' := ?_) ?_ ?_
                      rotate_left
                      · show Act.put _ (some 91) _ = _
                        simp only [Act.put, List.setIfInBounds_toArray, List.set_cons_zero, List.set_cons_succ, i64_w, i32_w]
                        rfl
                      refine one_ (i := 23) (N := some 94) #[true, true, true, true, true, true, true, true, true, true, true, true, true, true, true, true, true, true, true, true, true, true, true, true, false, false, false, false, false, false] rfl rfl (one_of HT_.out (by kernel_rfl)) (by decide) (fun K hK => ?_)
                      refine goes_ Tryd.func31 (by kernel_rfl) rfl #[.slice A0 l0.length c0, .string a2] (by rfl) rfl rfl (by (try simp only [List.map_toArray, List.map_cons, List.map_nil]); first | done | rfl | (simp only [List.length_drop, List.length_take]; rfl)) ?_
                      with_reducible refine (graftageref15_Drop.calls k2 _ _ l0 a2 t132 _ ?side1 ?side2 A44.out).mono ?_
                      (case side1 => repeat (first | exact (Kd.C_below HR0.out HB.out) | (with_reducible refine Kd.C_alloc ?_ _) | (with_reducible refine Kd.C_drewN ?_ _) | (with_reducible refine Kd.C_drew ?_)))
                      (case side2 => exact HC0.out)
                      rintro e w54 ⟨v133, rfl, ho0, hb⟩
                      refine ⟨_, rfl, ?_⟩
                      have n0_ := Aside0.mk (Kd.R_elder' (by (with_reducible repeat (first | apply Kd.R_alloc | apply Kd.R_drewN | apply Kd.R_drew)); exact HO124.out) (Kd.R_base ho0) hb)
                      have n1_ := Aside0.mk (Kd.R_elder' (by (with_reducible repeat (first | apply Kd.R_alloc | apply Kd.R_drewN | apply Kd.R_drew)); exact HO127.out) (Kd.R_base ho0) hb)
                      have n2_ := Aside0.mk (Kd.R_elder' (by (with_reducible repeat (first | apply Kd.R_alloc | apply Kd.R_drewN | apply Kd.R_drew)); exact HO131.out) (Kd.R_base ho0) hb)
                      have n3_ := Aside0.mk (Kd.R_lower (Kd.R_newB (Kd.R_newB (Kd.R_newB (Kd.R_new' (Kd.R_new' (Kd.R_new' ho0 (Kd.R_lt (by (with_reducible repeat (first | apply Kd.R_alloc | apply Kd.R_drewN | apply Kd.R_drew)); exact HO124.out))) (Kd.R_lt (by (with_reducible repeat (first | apply Kd.R_alloc | apply Kd.R_drewN | apply Kd.R_drew)); exact HO127.out))) (Kd.R_lt (by (with_reducible repeat (first | apply Kd.R_alloc | apply Kd.R_drewN | apply Kd.R_drew)); exact HO131.out))) (g := gb101) (o := .cells #[.int .i64 a1_0, .string a1_1, .string a1_2] 35 (0, 0)) (by (with_reducible repeat (first | refine blk_drewN ?_ _ | refine blk_drew ?_ | refine blk_alloc ?_ _)); exact BK101.out)) (g := gb108) (o := .cells #[.int .i64 t104, .string t105, .string t106] 35 (0, 0)) (by (with_reducible repeat (first | refine blk_drewN ?_ _ | refine blk_drew ?_ | refine blk_alloc ?_ _)); exact BK108.out)) (g := gb113) (o := .cells #[.int .i64 t109, .string t110, .string t111] 35 (0, 0)) (by (with_reducible repeat (first | refine blk_drewN ?_ _ | refine blk_drew ?_ | refine blk_alloc ?_ _)); exact BK113.out)) (below_size (by repeat (first | (with_reducible first | exact HB.out | apply below_alloc | apply pw_below_drewN | apply below_drew1 | refine below_set ?_ GE101.out | refine below_set ?_ GE108.out | refine below_set ?_ GE113.out) | exact HB.out))))
                      have n4_ := Aside0.mk (blk_below (g := gb101) (o := .cells #[.int .i64 a1_0, .string a1_1, .string a1_2] 35 (0, 0)) (by (with_reducible repeat (first | refine blk_drewN ?_ _ | refine blk_drew ?_ | refine blk_alloc ?_ _)); exact BK101.out) hb)
                      have n5_ := Aside0.mk (blk_below (g := gb108) (o := .cells #[.int .i64 t104, .string t105, .string t106] 35 (0, 0)) (by (with_reducible repeat (first | refine blk_drewN ?_ _ | refine blk_drew ?_ | refine blk_alloc ?_ _)); exact BK108.out) hb)
                      have n6_ := Aside0.mk (blk_below (g := gb113) (o := .cells #[.int .i64 t109, .string t110, .string t111] 35 (0, 0)) (by (with_reducible repeat (first | refine blk_drewN ?_ _ | refine blk_drew ?_ | refine blk_alloc ?_ _)); exact BK113.out) hb)
                      have n7_ := Aside0.mk (below_step (by repeat (first | (with_reducible first | exact HB.out | apply below_alloc | apply pw_below_drewN | apply below_drew1 | refine below_set ?_ GE101.out | refine below_set ?_ GE108.out | refine below_set ?_ GE113.out) | exact HB.out)) hb)
                      clear HO124
                      clear HO127
                      clear HO131
                      clear BK101
                      clear BK108
                      clear BK113
                      clear HB
                      have HO124 := n0_
                      have HO127 := n1_
                      have HO131 := n2_
                      have HO134 := n3_
                      have BK101 := n4_
                      have BK108 := n5_
                      have BK113 := n6_
                      have HB := n7_
                      clear n0_ n1_ n2_ n3_ n4_ n5_ n6_ n7_
                      (try clear hb)
                      (try clear hb2)
                      (try clear hk)
                      (try clear hi)
                      (try clear ho0)
                      obtain ⟨Ao55, co55, eo55⟩ := Kd.R_slice HO131.out
                      (first | subst eo55 | (injection eo55 with f1_ f2_ f3_; have f4_ := f1_.symm; have f5_ := f3_.symm; clear f1_ f2_ f3_; subst f4_; subst f5_))
                      obtain ⟨Ao56, co56, eo56⟩ := Kd.R_slice HO134.out
                      (first | subst eo56 | (injection eo56 with f1_ f2_ f3_; have f4_ := f1_.symm; have f5_ := f3_.symm; clear f1_ f2_ f3_; subst f4_; subst f5_))
                      refine hK.out _ _ ⟨(blk_cell BK108.out 0).trans rfl, (blk_cell BK108.out 1).trans rfl, (blk_cell BK108.out 2).trans rfl, (blk_cell BK113.out 0).trans rfl, (blk_cell BK113.out 1).trans rfl, (blk_cell BK113.out 2).trans rfl, (blk_cell BK101.out 0).trans rfl, (blk_cell BK101.out 1).trans rfl, (blk_cell BK101.out 2).trans rfl⟩ (fun hHeld => ?_)
                      clear hK K
                      refine norm_ (a' := ?_) ?_ ?_
                      rotate_left
                      · show Act.put _ (some 94) _ = _
                        simp only [Act.put, List.setIfInBounds_toArray, List.set_cons_zero, List.set_cons_succ, i64_w, i32_w]
                        rfl
                      refine one_ (i := 24) (N := some 95) #[true, true, true, true, true, true, true, true, true, true, true, true, true, true, true, true, true, true, true, true, true, true, true, true, true, false, false, false, false, false] rfl rfl (one_of HT_.out (by kernel_rfl)) (by decide) (fun K hK => ?_)
                      refine goes_ Tryd.func22 (by kernel_rfl) rfl #[.slice Ao55 t129.length co55, .slice Ao56 t132.length co56] (by rfl) rfl rfl (by (try simp only [List.map_toArray, List.map_cons, List.map_nil]); first | done | rfl | (simp only [List.length_drop, List.length_take]; rfl)) ?_
                      with_reducible refine (graftageref15_Same.calls k2 _ _ t129 _ _ t132 true _ ?side1 ?side2 ?side3 ?side4 A45.out).mono ?_
                      (case side1 => repeat (first | exact (Kd.R_reads' HO131.out).2.2 | (with_reducible refine Kd.C_alloc ?_ _) | (with_reducible refine Kd.C_drewN ?_ _) | (with_reducible refine Kd.C_drew ?_)))
                      (case side2 => exact (Kd.R_reads' HO131.out).2.1)
                      (case side3 => repeat (first | exact (Kd.R_reads' HO134.out).2.2 | (with_reducible refine Kd.C_alloc ?_ _) | (with_reducible refine Kd.C_drewN ?_ _) | (with_reducible refine Kd.C_drew ?_)))
                      (case side4 => exact (Kd.R_reads' HO134.out).2.1)
                      rintro e w' ⟨rfl, ⟨nd, rfl⟩⟩
                      refine ⟨_, rfl, ?_⟩
                      refine hK.out _ _ ⟨(blk_cell BK108.out 0).trans rfl, (blk_cell BK108.out 1).trans rfl, (blk_cell BK108.out 2).trans rfl, (blk_cell BK113.out 0).trans rfl, (blk_cell BK113.out 1).trans rfl, (blk_cell BK113.out 2).trans rfl, (blk_cell BK101.out 0).trans rfl, (blk_cell BK101.out 1).trans rfl, (blk_cell BK101.out 2).trans rfl⟩ (fun hHeld => ?_)
                      clear hK K
                      refine norm_ (a' := ?_) ?_ ?_
                      rotate_left
                      · show Act.put _ (some 95) _ = _
                        simp only [Act.put, List.setIfInBounds_toArray, List.set_cons_zero, List.set_cons_succ, i64_w, i32_w]
                        rfl
                      refine pure_ (i := 25) (N := some 96) (v := ?_) (a' := ?_) #[true, true, true, true, true, true, true, true, true, true, true, true, true, true, true, true, true, true, true, true, true, true, true, true, true, true, false, false, false, false] rfl rfl (any_of HT_.out (by kernel_rfl)) (fun _ _ _ h => h) (Or.inl ⟨by rfl, ?_⟩) ?_ ?_
                      rotate_left
                      · intro w'
                        go_simp
                        with_reducible rfl
                      rotate_left
                      · simp only [Act.put, List.setIfInBounds_toArray, List.set_cons_zero, List.set_cons_succ, i64_w, i32_w]
                        rfl
                      refine pure_ (i := 26) (N := some 97) (v := ?_) (a' := ?_) #[true, true, true, true, true, true, true, true, true, true, true, true, true, true, true, true, true, true, true, true, true, true, true, true, true, true, true, false, false, false] rfl rfl (any_of HT_.out (by kernel_rfl)) (fun _ _ _ h => h) (Or.inl ⟨by rfl, ?_⟩) ?_ ?_
                      rotate_left
                      · intro w'
                        go_simp
                        with_reducible rfl
                      rotate_left
                      · simp only [Act.put, List.setIfInBounds_toArray, List.set_cons_zero, List.set_cons_succ, i64_w, i32_w]
                        rfl
                      refine one_ (i := 27) (N := some 98) #[true, true, true, true, true, true, true, true, true, true, true, true, true, true, true, true, true, true, true, true, true, true, true, true, true, true, true, true, false, false] rfl rfl (one_of HT_.out (by kernel_rfl)) (by decide) (fun K hK => ?_)
                      refine goes_ Tryd.func15 (by kernel_rfl) rfl #[] (by rfl) rfl rfl (by (try simp only [List.map_toArray, List.map_cons, List.map_nil]); first | done | rfl | (simp only [List.length_drop, List.length_take]; rfl)) ?_
                      with_reducible refine (graftagelaw15_lives.calls k2  t136 _ A47.out).mono ?_
                      rintro e w57 ⟨rfl, hb⟩
                      refine ⟨_, rfl, ?_⟩
                      have n0_ := Aside0.mk (Kd.R_below (by (with_reducible repeat (first | apply Kd.R_alloc | apply Kd.R_drewN | apply Kd.R_drew)); exact HO124.out) hb)
                      have n1_ := Aside0.mk (Kd.R_below (by (with_reducible repeat (first | apply Kd.R_alloc | apply Kd.R_drewN | apply Kd.R_drew)); exact HO127.out) hb)
                      have n2_ := Aside0.mk (Kd.R_below (by (with_reducible repeat (first | apply Kd.R_alloc | apply Kd.R_drewN | apply Kd.R_drew)); exact HO131.out) hb)
                      have n3_ := Aside0.mk (Kd.R_below (by (with_reducible repeat (first | apply Kd.R_alloc | apply Kd.R_drewN | apply Kd.R_drew)); exact HO134.out) hb)
                      have n4_ := Aside0.mk (blk_below (g := gb101) (o := .cells #[.int .i64 a1_0, .string a1_1, .string a1_2] 35 (0, 0)) (by (with_reducible repeat (first | refine blk_drewN ?_ _ | refine blk_drew ?_ | refine blk_alloc ?_ _)); exact BK101.out) hb)
                      have n5_ := Aside0.mk (blk_below (g := gb108) (o := .cells #[.int .i64 t104, .string t105, .string t106] 35 (0, 0)) (by (with_reducible repeat (first | refine blk_drewN ?_ _ | refine blk_drew ?_ | refine blk_alloc ?_ _)); exact BK108.out) hb)
                      have n6_ := Aside0.mk (blk_below (g := gb113) (o := .cells #[.int .i64 t109, .string t110, .string t111] 35 (0, 0)) (by (with_reducible repeat (first | refine blk_drewN ?_ _ | refine blk_drew ?_ | refine blk_alloc ?_ _)); exact BK113.out) hb)
                      have n7_ := Aside0.mk (below_step (by repeat (first | (with_reducible first | exact HB.out | apply below_alloc | apply pw_below_drewN | apply below_drew1 | refine below_set ?_ GE101.out | refine below_set ?_ GE108.out | refine below_set ?_ GE113.out) | exact HB.out)) hb)
                      clear HO124
                      clear HO127
                      clear HO131
                      clear HO134
                      clear BK101
                      clear BK108
                      clear BK113
                      clear HB
                      have HO124 := n0_
                      have HO127 := n1_
                      have HO131 := n2_
                      have HO134 := n3_
                      have BK101 := n4_
                      have BK108 := n5_
                      have BK113 := n6_
                      have HB := n7_
                      clear n0_ n1_ n2_ n3_ n4_ n5_ n6_ n7_
                      (try clear hb)
                      (try clear hb2)
                      (try clear hk)
                      (try clear hi)
                      refine hK.out _ _ ⟨(blk_cell BK108.out 0).trans rfl, (blk_cell BK108.out 1).trans rfl, (blk_cell BK108.out 2).trans rfl, (blk_cell BK113.out 0).trans rfl, (blk_cell BK113.out 1).trans rfl, (blk_cell BK113.out 2).trans rfl, (blk_cell BK101.out 0).trans rfl, (blk_cell BK101.out 1).trans rfl, (blk_cell BK101.out 2).trans rfl⟩ (fun hHeld => ?_)
                      clear hK K
                      refine norm_ (a' := ?_) ?_ ?_
                      rotate_left
                      · show Act.put _ (some 98) _ = _
                        simp only [Act.put, List.setIfInBounds_toArray, List.set_cons_zero, List.set_cons_succ, i64_w, i32_w]
                        rfl
                      refine pure_ (i := 28) (N := some 99) (v := ?_) (a' := ?_) #[true, true, true, true, true, true, true, true, true, true, true, true, true, true, true, true, true, true, true, true, true, true, true, true, true, true, true, true, true, false] rfl rfl (any_of HT_.out (by kernel_rfl)) (fun _ _ _ h => h) (Or.inl ⟨by rfl, ?_⟩) ?_ ?_
                      rotate_left
                      · intro w'
                        go_simp
                        with_reducible rfl
                      rotate_left
                      · simp only [Act.put, List.setIfInBounds_toArray, List.set_cons_zero, List.set_cons_succ, i64_w, i32_w]
                        rfl
                      refine pure_ (i := 29) (N := some 6) (v := ?_) (a' := ?_) #[true, true, true, true, true, true, true, true, true, true, true, true, true, true, true, true, true, true, true, true, true, true, true, true, true, true, true, true, true, true] rfl rfl (any_of HT_.out (by kernel_rfl)) (fun _ _ _ h => h) (Or.inl ⟨by rfl, ?_⟩) ?_ ?_
                      rotate_left
                      · intro w'
                        go_simp
                        with_reducible rfl
                      rotate_left
                      · simp only [Act.put, List.setIfInBounds_toArray, List.set_cons_zero, List.set_cons_succ, i64_w, i32_w]
                        rfl
                      refine done_ (done_of HT_.out (by kernel_rfl)) ?_
                      try go_wp2
                      go_ret
                      exact ⟨by first | rfl | (simp [errW_none, errW_some] <;> rfl) | (simp [*, errW_none, errW_some] <;> rfl) | (simp [ne_nil_bool]; done) | (simp [*, ne_nil_bool]; done), by repeat (first | (with_reducible first | exact HB.out | apply below_alloc | apply pw_below_drewN | apply below_drew1 | refine below_set ?_ GE101.out | refine below_set ?_ GE108.out | refine below_set ?_ GE113.out) | exact HB.out)⟩
                    · replace c46 := Bool.eq_false_iff.mpr c46
                      subst c46
                      have H1 : (some false) = some r := by rw [if_neg (show ¬ (false = true) by decide)] at H; exact H
                      clear H
                      have H := H1
                      clear H1
                      exact absurd ((Option.some.inj H).trans hr_) (by simp)
                  · replace c42 := Bool.eq_false_iff.mpr c42
                    subst c42
                    have H1 : (some false) = some r := by rw [if_neg (show ¬ (false = true) by decide)] at H; exact H
                    clear H
                    have H := H1
                    clear H1
                    exact absurd ((Option.some.inj H).trans hr_) (by simp)
                · rw [if_neg c38] at H
                  have c38b0 : (t107 == t112) = false := by simpa using c38
                  (try (have c38b1 : decide (t107 = t112) = false := by simpa using c38))
                  (try (have c38b2 : (t107 == t112) = false := by simpa using c38))
                  (try (have c38b3 : ¬ (t107 = t112) := by simpa using c38))
                  clear c38
                  exact absurd ((Option.some.inj H).trans hr_) (by simp)
              · rw [if_neg c37] at H
                have c37b0 : (t104 == t109 && (t105.toList == t110.toList && (t106.toList == t111.toList))) = false := by simpa using c37
                (try (have c37b1 : decide (t104 = t109 && (t105.toList == t110.toList && (t106.toList == t111.toList))) = false := by simpa using c37))
                (try (have c37b2 : (t104 == t109 && (t105.toList == t110.toList && (t106.toList == t111.toList))) = false := by simpa using c37))
                (try (have c37b3 : ¬ (t104 = t109 && (t105.toList == t110.toList && (t106.toList == t111.toList))) := by simpa using c37))
                clear c37
                exact absurd ((Option.some.inj H).trans hr_) (by simp)

end Go.Proofs.YtccbpbdfihnlgaaDoor.Q


/- Contracts of Go functions as calls of plain Lean functions, written by a program of this session over the kit's print. -/
namespace Go.Proofs.YtccbpbdfihnlgaaDoor.Q
open Go.RowKit Go.Proofs.YtccbpbdfihnlgaaDoorW.PrintWords Go.Proofs.YtccbpbdfihnlgaaDoorW.PrintLast Go.Proofs.YtccbpbdfihnlgaaDoorW.PrintMore
attribute [local go_sem] max2_int min2_int max_two min_two max_three min_three max_four min_four   -- for this text's walks alone

end Go.Proofs.YtccbpbdfihnlgaaDoor.Q


/- Contracts of Go functions as calls of plain Lean functions, written by a program of this session over the kit's print. -/
namespace Go.Proofs.YtccbpbdfihnlgaaDoor.Q
open Go.RowKit Go.Proofs.YtccbpbdfihnlgaaDoorW.PrintWords Go.Proofs.YtccbpbdfihnlgaaDoorW.PrintLast Go.Proofs.YtccbpbdfihnlgaaDoorW.PrintMore
attribute [local go_sem] max2_int min2_int max_two min_two max_three min_three max_four min_four   -- for this text's walks alone

/-! ### graftageref06_Parts: function 82 -/
def graftageref06_Parts.l0 : Nat → ByteArray → List ByteArray → Int → Int → Option (List ByteArray)
  | 0, _, _, _, _ => none
  | k + 1, x0, x3, x4, x5 => if x5 < (x0.size : Int) then (if 0 ≤ x5 then (if (bt x0 x5) = 47 then (if 0 ≤ x4 then (if x4 ≤ x5 then (if x5 ≤ (x0.size : Int) then (if x3.length < 8796093022208 then (graftageref06_Parts.l0 k x0 (x3 ++ [x0.extract (x4 : Int).toNat (x5 : Int).toNat]) (wrap64 (x5 + 1)) (wrap64 (x5 + 1))) else (none)) else (none)) else (none)) else (none)) else (graftageref06_Parts.l0 k x0 x3 x4 (wrap64 (x5 + 1)))) else (none)) else (if 0 ≤ x4 then (if x4 ≤ (x0.size : Int) then (if x3.length < 8796093022208 then (some (x3 ++ [x0.extract (x4 : Int).toNat x0.size])) else (none)) else (none)) else (none))
def graftageref06_Parts.f (k : Nat) (a0 : ByteArray) : Option (List ByteArray) := if a0.toList = ([] : List UInt8) then (some ([] : List ByteArray)) else (graftageref06_Parts.l0 k a0 ([] : List ByteArray) 0 0)
end Go.Proofs.YtccbpbdfihnlgaaDoor.Q


/- Contracts of Go functions as calls of plain Lean functions, written by a program of this session over the kit's print. -/
namespace Go.Proofs.YtccbpbdfihnlgaaDoor.Q
open Go.RowKit Go.Proofs.YtccbpbdfihnlgaaDoorW.PrintWords Go.Proofs.YtccbpbdfihnlgaaDoorW.PrintLast Go.Proofs.YtccbpbdfihnlgaaDoorW.PrintMore
attribute [local go_sem] max2_int min2_int max_two min_two max_three min_three max_four min_four   -- for this text's walks alone

/-! ### graftageref06_part: function 111 -/
mutual
def graftageref06_part.j0 : Nat → ByteArray → Bool → Option (Bool)
  | 0, _, _ => none
  | k + 1, x0, x23 => if x23 = true then (some false) else (graftageref06_part.l0 k x0 0)
def graftageref06_part.l0 : Nat → ByteArray → Int → Option (Bool)
  | 0, _, _ => none
  | k + 1, x0, x3 => if x3 < (x0.size : Int) then (if 0 ≤ x3 then (if (bt x0 x3) < 32 then (some false) else (if (bt x0 x3) = 47 then (some false) else (graftageref06_part.l0 k x0 (wrap64 (x3 + 1))))) else (none)) else (some true)
end
def graftageref06_part.f (k : Nat) (a0 : ByteArray) : Option (Bool) := if (a0.size : Int) < 1 then (graftageref06_part.j0 k a0 true) else (if (a0.size : Int) > 64 then (graftageref06_part.j0 k a0 true) else (if a0.toList = ([46] : List UInt8) then (graftageref06_part.j0 k a0 true) else (if a0.toList = ([46, 46] : List UInt8) then (graftageref06_part.j0 k a0 true) else (graftageref06_part.j0 k a0 (a0.toList == ([46, 103, 114, 97, 102, 116] : List UInt8))))))
end Go.Proofs.YtccbpbdfihnlgaaDoor.Q


/- Contracts of Go functions as calls of plain Lean functions, written by a program of this session over the kit's print. -/
namespace Go.Proofs.YtccbpbdfihnlgaaDoor.Q
open Go.RowKit Go.Proofs.YtccbpbdfihnlgaaDoorW.PrintWords Go.Proofs.YtccbpbdfihnlgaaDoorW.PrintLast Go.Proofs.YtccbpbdfihnlgaaDoorW.PrintMore
attribute [local go_sem] max2_int min2_int max_two min_two max_three min_three max_four min_four   -- for this text's walks alone

/-! ### graftageref06_Is: function 60 -/
mutual
def graftageref06_Is.j0 : Nat → List ByteArray → Bool → Option (Bool)
  | 0, _, _ => none
  | k + 1, x3, x19 => if x19 = true then (some false) else (graftageref06_Is.l0 k x3 0)
def graftageref06_Is.l0 : Nat → List ByteArray → Int → Option (Bool)
  | 0, _, _ => none
  | k + 1, x3, x4 => if x4 < (x3.length : Int) then (if 0 ≤ x4 then ((graftageref06_part.f k (rdOf ByteArray.empty x3 x4)).bind fun t184 => (if t184 = true then (graftageref06_Is.l0 k x3 (wrap64 (x4 + 1))) else (some false))) else (none)) else (some true)
end
def graftageref06_Is.f (k : Nat) (a0 : ByteArray) : Option (Bool) := (graftageref06_Parts.f k a0).bind fun t180 => (if (t180.length : Int) < 1 then (graftageref06_Is.j0 k t180 true) else (if (t180.length : Int) > 16 then (graftageref06_Is.j0 k t180 true) else (graftageref06_Is.j0 k t180 (decide ((a0.size : Int) > 255)))))
end Go.Proofs.YtccbpbdfihnlgaaDoor.Q


/- Paths: the parts between slashes, and what is a path; the program's and the reference's. -/
namespace Go.Proofs.YtccbpbdfihnlgaaDoor.Q
open Go.RowKit Go.Proofs.YtccbpbdfihnlgaaDoorW.PrintWords Go.Proofs.YtccbpbdfihnlgaaDoorW.PrintLast Go.Proofs.YtccbpbdfihnlgaaDoorW.PrintMore

theorem wrap_id {x : Int} (h0 : -9223372036854775808 ≤ x) (h1 : x ≤ 9223372036854775807) : wrap64 x = x := by unfold wrap64; omega
/-! ### Parts -/
def consH (b : UInt8) : List (List UInt8) → List (List UInt8)
  | [] => [[b]]
  | h :: t => (b :: h) :: t
def partsL : List UInt8 → List (List UInt8)
  | [] => [[]]
  | b :: r => if b = 47 then [] :: partsL r else consH b (partsL r)
def partsB (s : ByteArray) : List ByteArray := (partsL s.data.toList).map (fun x => ⟨x.toArray⟩)
/-! ### part, Is, Same -/
/-- A path's part, as far as both texts ask alike. -/
def partOK (s : ByteArray) : Bool := decide (1 ≤ s.size) && decide (s.size ≤ 64) && (s.toList != [46]) && (s.toList != [46, 46]) && (s.toList != [46, 103, 114, 97, 102, 116]) && s.data.toList.all (fun b => decide (32 ≤ b.toNat))
def isPath (s : ByteArray) : Bool := (s.toList != []) && decide (s.size ≤ 255) && ((partsB s).all partOK && decide ((partsB s).length ≤ 16))
end Go.Proofs.YtccbpbdfihnlgaaDoor.Q


/- Contracts of Go functions as calls of plain Lean functions, written by a program of this session over the kit's print. -/
namespace Go.Proofs.YtccbpbdfihnlgaaDoor.Q
open Go.RowKit Go.Proofs.YtccbpbdfihnlgaaDoorW.PrintWords Go.Proofs.YtccbpbdfihnlgaaDoorW.PrintLast Go.Proofs.YtccbpbdfihnlgaaDoorW.PrintMore
attribute [local go_sem] max2_int min2_int max_two min_two max_three min_three max_four min_four   -- for this text's walks alone

/-! ### graftageref02_Digit: function 106 -/
def graftageref02_Digit.j0 : Nat → Int → Bool → Option (Int)
  | 0, _, _ => none
  | k + 1, x0, x8 => if x8 = true then (some ((x0 - 48) % 256)) else (if x0 ≥ 97 then (if x0 ≤ 102 then (some (((x0 - 97) % 256) + 10)) else (some (-1))) else (some (-1)))
def graftageref02_Digit.f (k : Nat) (a0 : Int) : Option (Int) := if a0 ≥ 48 then (graftageref02_Digit.j0 k a0 (decide (a0 ≤ 57))) else (graftageref02_Digit.j0 k a0 false)
end Go.Proofs.YtccbpbdfihnlgaaDoor.Q


/- Contracts of Go functions as calls of plain Lean functions, written by a program of this session over the kit's print. -/
namespace Go.Proofs.YtccbpbdfihnlgaaDoor.Q
open Go.RowKit Go.Proofs.YtccbpbdfihnlgaaDoorW.PrintWords Go.Proofs.YtccbpbdfihnlgaaDoorW.PrintLast Go.Proofs.YtccbpbdfihnlgaaDoorW.PrintMore
attribute [local go_sem] max2_int min2_int max_two min_two max_three min_three max_four min_four   -- for this text's walks alone

/-! ### graftageref02_digits: function 112 -/
def graftageref02_digits.l0 : Nat → ByteArray → Int → Option (Bool)
  | 0, _, _ => none
  | k + 1, x0, x3 => if x3 < (x0.size : Int) then (if 0 ≤ x3 then ((graftageref02_Digit.f k (bt x0 x3)).bind fun t120 => (if t120 < 0 then (some false) else (graftageref02_digits.l0 k x0 (wrap64 (x3 + 1))))) else (none)) else (some true)
def graftageref02_digits.f (k : Nat) (a0 : ByteArray) : Option (Bool) := graftageref02_digits.l0 k a0 0
end Go.Proofs.YtccbpbdfihnlgaaDoor.Q


/- Contracts of Go functions as calls of plain Lean functions, written by a program of this session over the kit's print. -/
namespace Go.Proofs.YtccbpbdfihnlgaaDoor.Q
open Go.RowKit Go.Proofs.YtccbpbdfihnlgaaDoorW.PrintWords Go.Proofs.YtccbpbdfihnlgaaDoorW.PrintLast Go.Proofs.YtccbpbdfihnlgaaDoorW.PrintMore
attribute [local go_sem] max2_int min2_int max_two min_two max_three min_three max_four min_four   -- for this text's walks alone

/-! ### graftageref02_Is: function 62 -/
def graftageref02_Is.f (k : Nat) (a0 : ByteArray) : Option (Bool) := if (a0.size : Int) = 40 then ((graftageref02_digits.f k a0).bind fun t121 => (some t121)) else (some false)
end Go.Proofs.YtccbpbdfihnlgaaDoor.Q


/- Contracts of Go functions as calls of plain Lean functions, written by a program of this session over the kit's print. -/
namespace Go.Proofs.YtccbpbdfihnlgaaDoor.Q
open Go.RowKit Go.Proofs.YtccbpbdfihnlgaaDoorW.PrintWords Go.Proofs.YtccbpbdfihnlgaaDoorW.PrintLast Go.Proofs.YtccbpbdfihnlgaaDoorW.PrintMore
attribute [local go_sem] max2_int min2_int max_two min_two max_three min_three max_four min_four   -- for this text's walks alone

def graftageref02_Raw.T7 : Bool × List (List Nat × List Nat) := (true, [([], []), ([], []), ([], []), ([1, 2], [1, 2]), ([3], [3]), ([4], [4]), ([], []), ([], []), ([7], [7]), ([6, 8], [6, 8]), ([9, 4], [9]), ([5, 10], [5, 10]), ([11], [11]), ([12], [12]), ([0, 13, 10], [0, 13]), ([14, 14, 0, 1, 2, 3, 4, 5, 6, 7, 8, 9, 10, 11, 12, 13, 14], [0, 14])])
def graftageref02_Raw.B7 : List Nat := [0, 0, 0, 6, 14, 30, 0, 0, 128, 448, 990, 2046, 4094, 8190, 16383, 32767]
theorem graftageref02_Raw.tab7 : rtab .any (opsOf Tryd.f53 7) = graftageref02_Raw.T7 := by kernel_rfl
theorem graftageref02_Raw.bits7 : waitsOk graftageref02_Raw.T7.2 graftageref02_Raw.B7 = true := by kernel_rfl
end Go.Proofs.YtccbpbdfihnlgaaDoor.Q


/- Contracts of Go functions as calls of plain Lean functions, written by a program of this session over the kit's print. -/
namespace Go.Proofs.YtccbpbdfihnlgaaDoor.Q
open Go.RowKit Go.Proofs.YtccbpbdfihnlgaaDoorW.PrintWords Go.Proofs.YtccbpbdfihnlgaaDoorW.PrintLast Go.Proofs.YtccbpbdfihnlgaaDoorW.PrintMore
attribute [local go_sem] max2_int min2_int max_two min_two max_three min_three max_four min_four   -- for this text's walks alone

end Go.Proofs.YtccbpbdfihnlgaaDoor.Q


/- Ids: digits, bytes and their digits; the program's and the reference's. -/
namespace Go.Proofs.YtccbpbdfihnlgaaDoor.Q
open Go.RowKit Go.Proofs.YtccbpbdfihnlgaaDoorW.PrintWords Go.Proofs.YtccbpbdfihnlgaaDoorW.PrintLast Go.Proofs.YtccbpbdfihnlgaaDoorW.PrintMore

def hexD : List UInt8 := [48, 49, 50, 51, 52, 53, 54, 55, 56, 57, 97, 98, 99, 100, 101, 102]
/-- A digit's value; -1. -/
def dv (b : Int) : Int := Lib.indexByte hexD b.toNat.toUInt8
/-- Are all digits, from a place on? -/
def hexF (s : ByteArray) : Nat → Nat → Bool
  | 0, _ => true
  | d + 1, i => decide (0 ≤ dv (bt s i)) && hexF s d (i + 1)
def idOk (s : ByteArray) : Bool := decide (s.size = 40) && hexF s s.size 0
/-! ### Hex -/
def hx (n : Int) : Int := bt (⟨#[48, 49, 50, 51, 52, 53, 54, 55, 56, 57, 97, 98, 99, 100, 101, 102]⟩ : ByteArray) n
end Go.Proofs.YtccbpbdfihnlgaaDoor.Q


/- Contracts of Go functions as calls of plain Lean functions, written by a program of this session over the kit's print. -/
namespace Go.Proofs.YtccbpbdfihnlgaaDoor.Q
open Go.RowKit Go.Proofs.YtccbpbdfihnlgaaDoorW.PrintWords Go.Proofs.YtccbpbdfihnlgaaDoorW.PrintLast Go.Proofs.YtccbpbdfihnlgaaDoorW.PrintMore
attribute [local go_sem] max2_int min2_int max_two min_two max_three min_three max_four min_four   -- for this text's walks alone

/-! ### graftageref14_Find: function 61 -/
def graftageref14_Find.l0 : Nat → ByteArray → Int → Int → Option (Int)
  | 0, _, _, _ => none
  | k + 1, x0, x1, x7 => if x7 < (x0.size : Int) then (if 0 ≤ x7 then (if (bt x0 x7) = x1 then (some x7) else (graftageref14_Find.l0 k x0 x1 (wrap64 (x7 + 1)))) else (none)) else (some (-1))
def graftageref14_Find.f (k : Nat) (a0 : ByteArray) (a1 : Int) (a2 : Int) : Option (Int) := graftageref14_Find.l0 k a0 a1 a2
end Go.Proofs.YtccbpbdfihnlgaaDoor.Q


/- Contracts of Go functions as calls of plain Lean functions, written by a program of this session over the kit's print. -/
namespace Go.Proofs.YtccbpbdfihnlgaaDoor.Q
open Go.RowKit Go.Proofs.YtccbpbdfihnlgaaDoorW.PrintWords Go.Proofs.YtccbpbdfihnlgaaDoorW.PrintLast Go.Proofs.YtccbpbdfihnlgaaDoorW.PrintMore
attribute [local go_sem] max2_int min2_int max_two min_two max_three min_three max_four min_four   -- for this text's walks alone

/-! ### graftageref15_May: function 23 -/
def graftageref15_May.f (k : Nat) (a0_0 : Int) (a0_1 : ByteArray) (a0_2 : ByteArray) : Option (Bool) := if a0_0 ≥ 1 then (if a0_0 ≤ 4 then ((graftageref06_Is.f k a0_1).bind fun t199 => (if t199 = true then ((graftageref14_Find.f k a0_1 47 0).bind fun t200 => (if t200 < 0 then ((graftageref02_Is.f k a0_2).bind fun t201 => (some t201)) else (some false))) else (some false))) else (some false)) else (some false)
end Go.Proofs.YtccbpbdfihnlgaaDoor.Q


/- Contracts of Go functions as calls of plain Lean functions, written by a program of this session over the kit's print. -/
namespace Go.Proofs.YtccbpbdfihnlgaaDoor.Q
open Go.RowKit Go.Proofs.YtccbpbdfihnlgaaDoorW.PrintWords Go.Proofs.YtccbpbdfihnlgaaDoorW.PrintLast Go.Proofs.YtccbpbdfihnlgaaDoorW.PrintMore
attribute [local go_sem] max2_int min2_int max_two min_two max_three min_three max_four min_four   -- for this text's walks alone

/-! ### graftageref15_Check: function 19 -/
mutual
def graftageref15_Check.l0 : Nat → List (S35) → Int → Int → Option (Int)
  | 0, _, _, _ => none
  | k + 1, x0, x9, x10 => if x10 < x9 then (if 0 ≤ x10 then (if x10 < (x0.length : Int) then ((graftageref15_May.f k ((rd_T35 x0 x10).f0) ((rd_T35 x0 x10).f1) ((rd_T35 x0 x10).f2)).bind fun t228 => (if t228 = true then (if x10 > 0 then (if 0 ≤ (wrap64 (x10 - 1)) then (if (wrap64 (x10 - 1)) < (x0.length : Int) then ((graftageref15_Less.f ((rd_T35 x0 (wrap64 (x10 - 1))).f0) ((rd_T35 x0 (wrap64 (x10 - 1))).f1) ((rd_T35 x0 (wrap64 (x10 - 1))).f2) ((rd_T35 x0 x10).f0) ((rd_T35 x0 x10).f1) ((rd_T35 x0 x10).f2)).bind fun t231 => (graftageref15_Check.j1 k x0 x10 x9 x10 (!t231))) else (none)) else (none)) else (graftageref15_Check.j1 k x0 x10 x9 x10 false)) else (some 1))) else (none)) else (none)) else (some 0)
def graftageref15_Check.j1 : Nat → List (S35) → Int → Int → Int → Bool → Option (Int)
  | 0, _, _, _, _, _ => none
  | k + 1, x0, x3, x9, x10, x33 => if x33 = true then (some 150) else (graftageref15_Check.l1 k x0 x3 x9 x10 x3 0)
def graftageref15_Check.l1 : Nat → List (S35) → Int → Int → Int → Int → Int → Option (Int)
  | 0, _, _, _, _, _, _ => none
  | k + 1, x0, x3, x9, x10, x34, x35 => if x35 < x34 then (if 0 ≤ x35 then (if x35 < (x0.length : Int) then (if 0 ≤ x3 then (if x3 < (x0.length : Int) then (if ((rd_T35 x0 x35).f1).toList = ((rd_T35 x0 x3).f1).toList then (some 6) else (graftageref15_Check.l1 k x0 x3 x9 x10 x34 (wrap64 (x35 + 1)))) else (none)) else (none)) else (none)) else (none)) else (graftageref15_Check.l0 k x0 x9 (wrap64 (x10 + 1)))
end
def graftageref15_Check.T8 : Bool × List (List Nat × List Nat) := (true, [([], []), ([0], [0]), ([1], [1]), ([2], [2]), ([2], [2]), ([4, 2], [2, 4]), ([3, 5, 2], [2, 3, 5]), ([6, 2], [2, 6]), ([2], [2]), ([2], [2]), ([8, 9, 2], [2, 8, 9]), ([10, 2], [2, 10]), ([7, 11, 2, 2], [2, 7, 11]), ([12, 2], [2, 12]), ([2, 13], [2, 13])])
def graftageref15_Check.B8 : List Nat := [0, 1, 3, 7, 7, 23, 63, 127, 7, 7, 775, 1799, 4095, 8191, 16383]
theorem graftageref15_Check.tab8 : rtab .any (opsOf Tryd.f19 8) = graftageref15_Check.T8 := by kernel_rfl
theorem graftageref15_Check.bits8 : waitsOk graftageref15_Check.T8.2 graftageref15_Check.B8 = true := by kernel_rfl
end Go.Proofs.YtccbpbdfihnlgaaDoor.Q


/- Trees: entries, their order, the test of a list; the program's and the reference's. (35: the type of an entry in this seat's translation.) -/
namespace Go.Proofs.YtccbpbdfihnlgaaDoor.Q
open Go.RowKit Go.Proofs.YtccbpbdfihnlgaaDoorW.PrintWords Go.Proofs.YtccbpbdfihnlgaaDoorW.PrintLast Go.Proofs.YtccbpbdfihnlgaaDoorW.PrintMore

theorem ev_ite {α : Type} {c : Prop} [Decidable c] {f g : Nat → Option α} {r : α} (h1 : c → Ev f r) (h2 : ¬ c → Ev g r) : Ev (fun k => if c then f k else g k) r := by
  by_cases h : c
  · simp only [if_pos h]; exact h1 h
  · simp only [if_neg h]; exact h2 h
theorem rd35_get (l : List S35) (i : Nat) (h : i < l.length) : rd_T35 l i = l[i] := by
  simp [rd_T35, List.getD, List.getElem?_eq_getElem h]
/-! ### what may be -/
def no47 (s : ByteArray) : Bool := decide (Lib.indexByte s.data.toList 47 < 0)
def mayB (e : S35) : Bool := decide (1 ≤ e.f0) && (decide (e.f0 ≤ 4) && (isPath e.f1 && (no47 e.f1 && idOk e.f2)))
/-! ### the order -/
def keyB (m : Int) (s : ByteArray) : ByteArray := if m = 4 then s ++ ⟨#[47]⟩ else s
def lessB (a b : S35) : Bool := Op.bytesLess (keyB a.f0 a.f1).toList (keyB b.f0 b.f1).toList
theorem key_eq (m : Int) (s i : ByteArray) (hs : s.size ≤ 140737488351232) : tree_key.f m s i = some (keyB m s) := by
  unfold tree_key.f keyB
  by_cases h : m = 4
  · rw [if_pos h, if_pos h, if_pos (by omega)]
  · rw [if_neg h, if_neg h]
theorem Less_eq (a b : S35) (ha : a.f1.size ≤ 140737488351232) (hb : b.f1.size ≤ 140737488351232) : tree_Less.f a.f0 a.f1 a.f2 b.f0 b.f1 b.f2 = some (lessB a b) := by
  unfold tree_Less.f lessB
  rw [key_eq _ _ _ ha]
  simp only [Option.bind_some]
  rw [key_eq _ _ _ hb]
  rfl
theorem ref_Less_eq (a b : S35) (ha : a.f1.size ≤ 140737488351232) (hb : b.f1.size ≤ 140737488351232) : graftageref15_Less.f a.f0 a.f1 a.f2 b.f0 b.f1 b.f2 = some (lessB a b) := Less_eq a b ha hb
def at35 (l : List S35) (i : Nat) : S35 := rd_T35 l i
/-- How often a name stands among the first n. -/
def cnt (l : List S35) (x : List UInt8) : Nat → Int
  | 0 => 0
  | n + 1 => cnt l x n + (if (at35 l n).f1.data.toList = x then 1 else 0)
theorem cnt_ge (l : List S35) (x : List UInt8) : ∀ n, 0 ≤ cnt l x n ∧ cnt l x n ≤ n
  | 0 => by simp [cnt]
  | n + 1 => by
    have := cnt_ge l x n
    unfold cnt
    split <;> omega
structure MetI (l : List S35) (N : Nat) (m : MSI) : Prop where
  hn : m.n = N
  hf : ∀ x, (m.f x).getD 0 = cnt l x N
theorem MetI.put {l : List S35} {n : Nat} {m : MSI} (h : MetI l n m) (hn : n ≤ 1024) : MetI l (n + 1) (MSI.put m (at35 l n).f1 (wrap64 (MSI.get m (at35 l n).f1 + 1))) := by
  refine ⟨by simp [MSI.put, h.hn], fun x => ?_⟩
  have hc := cnt_ge l x n
  have hg : MSI.get m (at35 l n).f1 = cnt l (at35 l n).f1.data.toList n := h.hf _
  have hc2 := cnt_ge l (at35 l n).f1.data.toList n
  rw [hg, wrap_id (by omega) (by omega)]
  simp only [MSI.put]
  by_cases e : x = (at35 l n).f1.data.toList
  · rw [if_pos e, cnt, if_pos e.symm, e]; rfl
  · rw [if_neg e, cnt, if_neg (fun h => e h.symm), Int.add_zero]; exact h.hf x
section
variable (l : List S35) (hs : ∀ x ∈ l, x.f1.size ≤ 4294967280) (hn : l.length ≤ 1024)
include hs hn
end
section
variable (l : List S35) (hs : ∀ x ∈ l, x.f1.size ≤ 4294967280) (hn : l.length ≤ 1024)
include hs hn
end
/-! ### few, Same -/
def fewF (l : List S35) : Nat → Nat → Bool
  | 0, _ => decide (l.length ≤ 60)
  | d + 1, i => if ((at35 l i).f1.size + (at35 l i).f2.size : Nat) > 500 then false else fewF l d (i + 1)
theorem few_ev (l : List S35) (hs : ∀ x ∈ l, x.f1.size ≤ 140737488351232 ∧ x.f2.size ≤ 140737488351232) (hn : l.length ≤ 140737488351232) : Ev (fun k => graftagelaw15_few.f k l) (fewF l l.length 0) := by
  have key : ∀ (d i : Nat), i + d = l.length → Ev (fun k => graftagelaw15_few.l0 k l l.length i) (fewF l d i) := by
    intro d
    induction d with
    | zero =>
      intro i hi
      refine Ev.step (f := fun _ => some (decide (l.length ≤ 60))) (fun k => ?_) (Ev.now _)
      rw [graftagelaw15_few.l0, if_neg (by omega)]
      congr 1
      apply decide_eq_decide.2
      omega
    | succ d ih =>
      intro i hi
      have h0 : (at35 l i).f1.size ≤ 140737488351232 ∧ (at35 l i).f2.size ≤ 140737488351232 := by unfold at35; rw [rd35_get l i (by omega)]; exact hs _ (List.getElem_mem _)
      have e0 : rd_T35 l (i : Int) = at35 l i := rfl
      refine Ev.step (f := fun k => if (((at35 l i).f1.size : Int) + ((at35 l i).f2.size : Int)) > 500 then some false else graftagelaw15_few.l0 k l l.length ((i : Int) + 1)) (fun k => by rw [graftagelaw15_few.l0, if_pos (by omega), if_pos (by omega), if_pos (by omega), e0, wrap_id (by omega) (by omega), wrap_id (by omega) (by omega)]) ?_
      rw [fewF]
      refine ev_ite (fun h => ?_) (fun h => ?_)
      · rw [if_pos (by omega)]; exact Ev.now _
      · rw [if_neg (by omega)]; exact_mod_cast ih (i + 1) (by omega)
  exact_mod_cast key l.length 0 (by omega)
theorem few_all (l : List S35) : ∀ (d i : Nat), i + d = l.length → fewF l d i = true → l.length ≤ 60 ∧ ∀ j, i ≤ j → j < l.length → (at35 l j).f1.size + (at35 l j).f2.size ≤ 500
  | 0, i, hi, h => ⟨by simpa [fewF] using h, fun j h1 h2 => by omega⟩
  | d + 1, i, hi, h => by
    rw [fewF] at h
    split at h
    · cases h
    · obtain ⟨h1, h2⟩ := few_all l d (i + 1) (by omega) h
      refine ⟨h1, fun j hj hl => ?_⟩
      by_cases e : j = i
      · rw [e]; omega
      · exact h2 j (by omega) hl
theorem Same35_ev (l : List S35) (hn : l.length ≤ 140737488351232) : Ev (fun k => graftageref15_Same.f k l l) true := by
  have key : ∀ (d i : Nat), i + d = l.length → Ev (fun k => graftageref15_Same.l0 k l l l.length i) true := by
    intro d
    induction d with
    | zero =>
      intro i hi
      exact Ev.step (f := fun _ => some true) (fun k => by rw [graftageref15_Same.l0, if_neg (by omega)]) (Ev.now _)
    | succ d ih =>
      intro i hi
      refine Ev.step (f := fun k => graftageref15_Same.l0 k l l l.length ((i : Int) + 1)) (fun k => by rw [graftageref15_Same.l0, if_pos (by omega), if_pos (by omega), if_pos (by omega), if_pos (by omega), if_neg (by simp), wrap_id (by omega) (by omega)]) ?_
      exact_mod_cast ih (i + 1) (by omega)
  refine Ev.congr (f := fun k => graftageref15_Same.l0 k l l l.length 0) (fun k => by unfold graftageref15_Same.f; rw [if_pos rfl]) ?_
  exact_mod_cast key l.length 0 (by omega)
end Go.Proofs.YtccbpbdfihnlgaaDoor.Q


/- Contracts of Go functions as calls of plain Lean functions, written by a program of this session over the kit's print. -/
namespace Go.Proofs.YtccbpbdfihnlgaaDoor.Q
open Go.RowKit Go.Proofs.YtccbpbdfihnlgaaDoorW.PrintWords Go.Proofs.YtccbpbdfihnlgaaDoorW.PrintLast Go.Proofs.YtccbpbdfihnlgaaDoorW.PrintMore
attribute [local go_sem] max2_int min2_int max_two min_two max_three min_three max_four min_four   -- for this text's walks alone

end Go.Proofs.YtccbpbdfihnlgaaDoor.Q


/- Trees: TreeOrder. -/
namespace Go.Proofs.YtccbpbdfihnlgaaDoor.Q
open Go.RowKit Go.Proofs.YtccbpbdfihnlgaaDoorW.PrintWords Go.Proofs.YtccbpbdfihnlgaaDoorW.PrintLast Go.Proofs.YtccbpbdfihnlgaaDoorW.PrintMore
end Go.Proofs.YtccbpbdfihnlgaaDoor.Q


/- Trees: entries found, dropped and put, over lists. -/
namespace Go.Proofs.YtccbpbdfihnlgaaDoor.Q
open Go.RowKit Go.Proofs.YtccbpbdfihnlgaaDoorW.PrintWords Go.Proofs.YtccbpbdfihnlgaaDoorW.PrintLast Go.Proofs.YtccbpbdfihnlgaaDoorW.PrintMore
def hasN (x : ByteArray) (e : S35) : Bool := e.f1.toList == x.toList
def firstI (p : S35 → Bool) (l : List S35) : Int := if l.findIdx p < l.length then (l.findIdx p : Int) else -1
theorem at35_get (l : List S35) (j : Nat) (h : j < l.length) : at35 l j = l[j] := rd35_get l j h
theorem firstI_none {p : S35 → Bool} {l : List S35} (h : ∀ j, j < l.length → p (at35 l j) = false) : firstI p l = -1 := by
  unfold firstI
  rw [if_neg]
  intro hlt
  have := List.findIdx_getElem (w := hlt)
  have h2 := h _ hlt
  rw [at35_get _ _ hlt] at h2
  rw [h2] at this
  cases this
theorem firstI_at {p : S35 → Bool} {l : List S35} {i : Nat} (hi : i < l.length) (hp : p (at35 l i) = true) (h : ∀ j, j < i → p (at35 l j) = false) : l.findIdx p = i := by
  rw [List.findIdx_eq hi]
  refine ⟨by rwa [at35_get _ _ hi] at hp, fun j hj => ?_⟩
  have := h j hj
  rwa [at35_get _ _ (by omega)] at this
theorem Index_l0 (l : List S35) (f : Int → ByteArray → ByteArray → Option Bool) (p : S35 → Bool) (hf : ∀ e ∈ l, f e.f0 e.f1 e.f2 = some (p e)) (hl : l.length ≤ 1000000) : ∀ (d i : Nat), i + d = l.length → (∀ j, j < i → p (at35 l j) = false) → Ev (fun k => api_Entry_64.l0 k l f l.length i) (firstI p l) := by
  intro d
  induction d with
  | zero =>
    intro i hi h
    rw [firstI_none (fun j hj => h j (by omega))]
    exact Ev.step (f := fun _ => some (-1)) (fun k => by rw [api_Entry_64.l0, if_neg (by omega)]) (Ev.now _)
  | succ d ih =>
    intro i hi h
    have hlt : i < l.length := by omega
    have hm : f (at35 l i).f0 (at35 l i).f1 (at35 l i).f2 = some (p (at35 l i)) := hf _ (by rw [at35_get _ _ hlt]; exact List.getElem_mem hlt)
    have e0 : rd_T35 l (i : Int) = at35 l i := rfl
    refine Ev.step (f := fun k => if p (at35 l i) = true then some (i : Int) else api_Entry_64.l0 k l f l.length ((i : Int) + 1)) (fun k => by rw [api_Entry_64.l0, if_pos (by omega), if_pos (by omega), if_pos (by omega), e0, hm, Option.bind_some, wrap_id (by omega) (by omega)]) ?_
    refine ev_ite (fun hp => ?_) (fun hp => ?_)
    · unfold firstI
      rw [firstI_at hlt hp h, if_pos hlt]
      exact Ev.now _
    · have hp' : p (at35 l i) = false := by simpa using hp
      exact_mod_cast ih (i + 1) (by omega) (fun j hj => by
        by_cases e : j = i
        · rw [e]; exact hp'
        · exact h j (by omega))
theorem Index_ev (l : List S35) (f : Int → ByteArray → ByteArray → Option Bool) (p : S35 → Bool) (hf : ∀ e ∈ l, f e.f0 e.f1 e.f2 = some (p e)) (hl : l.length ≤ 1000000) : Ev (fun k => api_Entry_64.f k l f) (firstI p l) := by
  have := Index_l0 l f p hf hl l.length 0 (by omega) (fun j hj => by omega)
  exact_mod_cast this
def findB (l : List S35) (x : ByteArray) : Int × ByteArray × ByteArray × Bool := if l.findIdx (hasN x) < l.length then ((at35 l (l.findIdx (hasN x))).f0, (at35 l (l.findIdx (hasN x))).f1, (at35 l (l.findIdx (hasN x))).f2, true) else (0, ⟨#[]⟩, ⟨#[]⟩, false)
theorem Find_ev35 (l : List S35) (x : ByteArray) (hl : l.length ≤ 1000000) : Ev (fun k => tree_Find.f k l x) (findB l x) := by
  refine Ev.bind (Index_ev l _ (hasN x) (fun e _ => rfl) hl) ?_
  unfold firstI findB
  by_cases h : l.findIdx (hasN x) < l.length
  · simp only [if_pos h]
    refine Ev.congr (f := fun _ => some ((at35 l (l.findIdx (hasN x))).f0, (at35 l (l.findIdx (hasN x))).f1, (at35 l (l.findIdx (hasN x))).f2, true)) (fun k => by rw [if_neg (by omega), if_pos (by omega), if_pos (by omega)]; rfl) (Ev.now _)
  · simp only [if_neg h]
    refine Ev.congr (f := fun _ => some (0, (⟨#[]⟩ : ByteArray), (⟨#[]⟩ : ByteArray), false)) (fun k => by rw [if_pos (by decide)]) (Ev.now _)
theorem refFind_ev (l : List S35) (x : ByteArray) (hl : l.length ≤ 1000000) : Ev (fun k => graftageref15_Find.f k l x) (findB l x) := by
  have key : ∀ (d i : Nat), i + d = l.length → (∀ j, j < i → hasN x (at35 l j) = false) → Ev (fun k => graftageref15_Find.l0 k l x l.length i) (findB l x) := by
    intro d
    induction d with
    | zero =>
      intro i hi h
      have hn : ¬ l.findIdx (hasN x) < l.length := by
        have := firstI_none (p := hasN x) (l := l) (fun j hj => h j (by omega))
        unfold firstI at this
        intro hlt
        rw [if_pos hlt] at this
        omega
      unfold findB
      rw [if_neg hn]
      exact Ev.step (f := fun _ => some (0, (⟨#[]⟩ : ByteArray), (⟨#[]⟩ : ByteArray), false)) (fun k => by rw [graftageref15_Find.l0, if_neg (by omega)]) (Ev.now _)
    | succ d ih =>
      intro i hi h
      have hlt : i < l.length := by omega
      have e0 : rd_T35 l (i : Int) = at35 l i := rfl
      refine Ev.step (f := fun k => if (at35 l i).f1.toList = x.toList then some ((at35 l i).f0, (at35 l i).f1, (at35 l i).f2, true) else graftageref15_Find.l0 k l x l.length ((i : Int) + 1)) (fun k => by rw [graftageref15_Find.l0, if_pos (by omega), if_pos (by omega), if_pos (by omega), e0, wrap_id (by omega) (by omega)]) ?_
      refine ev_ite (fun hp => ?_) (fun hp => ?_)
      · unfold findB
        rw [firstI_at hlt (by simpa [hasN] using hp) h, if_pos hlt]
        exact Ev.now _
      · have hp' : hasN x (at35 l i) = false := by simpa [hasN] using hp
        exact_mod_cast ih (i + 1) (by omega) (fun j hj => by
          by_cases e : j = i
          · rw [e]; exact hp'
          · exact h j (by omega))
  have := key l.length 0 (by omega) (fun j hj => by omega)
  exact_mod_cast this
/-! ### drops -/
def dropS (l : List S35) (x : ByteArray) : List S35 := l.filter (fun e => !hasN x e)
theorem Del_l0 (o : List S35) (f : Int → ByteArray → ByteArray → Option Bool) (p : S35 → Bool) (hf : ∀ e ∈ o, f e.f0 e.f1 e.f2 = some (p e)) (hl : o.length ≤ 1000000) : ∀ (d j i : Nat) (x : List S35), j + d = o.length → x.length = o.length → i ≤ j → x.take i = (o.take j).filter (fun e => !p e) → x.drop j = o.drop j → Ev (fun k => api_Entry_69.l0 k x f i j) (o.filter (fun e => !p e)) := by
  intro d
  induction d with
  | zero =>
    intro j i x hj hx hij ht hd
    refine Ev.step (f := fun _ => some ((x.take i ++ List.replicate (x.length - i) z35).take i)) (fun k => by rw [api_Entry_69.l0, if_neg (by omega), if_pos (by omega), if_pos (by omega), Int.toNat_natCast]) ?_
    have : (x.take i ++ List.replicate (x.length - i) z35).take i = o.filter (fun e => !p e) := by
      rw [List.take_left' (by rw [List.length_take]; omega), ht, List.take_of_length_le (by omega)]
    rw [this]
    exact Ev.now _
  | succ d ih =>
    intro j i x hj hx hij ht hd
    have hlt : j < o.length := by omega
    have hxj : at35 x j = o[j] := by
      rw [at35_get _ _ (by omega)]
      have h1 := List.drop_eq_getElem_cons (l := x) (i := j) (by omega)
      rw [hd, List.drop_eq_getElem_cons hlt] at h1
      exact (List.cons.inj h1).1.symm
    have hm : f (at35 x j).f0 (at35 x j).f1 (at35 x j).f2 = some (p (at35 x j)) := hf _ (by rw [hxj]; exact List.getElem_mem hlt)
    have e0 : rd_T35 x (j : Int) = at35 x j := rfl
    have htk : o.take (j + 1) = o.take j ++ [o[j]] := by rw [List.take_succ_eq_append_getElem hlt]
    have hdr : x.drop (j + 1) = o.drop (j + 1) := by rw [← List.drop_drop, hd, List.drop_drop]
    refine Ev.step (f := fun k => if p (at35 x j) = true then api_Entry_69.l0 k x f i ((j : Int) + 1) else api_Entry_69.l0 k (x.set i (at35 x j)) f ((i : Int) + 1) ((j : Int) + 1)) (fun k => ?_) ?_
    · rw [api_Entry_69.l0, if_pos (by omega), if_pos (by omega), e0, hm, Option.bind_some, wrap_id (by omega) (by omega), wrap_id (by omega) (by omega), if_pos (show (0 : Int) ≤ (i : Int) by omega), if_pos (show (i : Int) < (x.length : Int) by omega), Int.toNat_natCast]
    · refine ev_ite (fun hp => ?_) (fun hp => ?_)
      · exact_mod_cast ih (j + 1) i x (by omega) hx (by omega) (by rw [ht, htk, List.filter_append, ← hxj]; simp [hp]) hdr
      · have hp' : p (at35 x j) = false := by simpa using hp
        have := ih (j + 1) (i + 1) (x.set i (at35 x j)) (by omega) (by rw [List.length_set, hx]) (by omega) (by
          rw [List.take_succ_eq_append_getElem (by rw [List.length_set]; omega), List.getElem_set_self, List.take_set_of_le (Nat.le_refl _), ht, htk, List.filter_append, ← hxj]
          simp [hp']) (by rw [List.drop_set_of_lt (by omega), hdr])
        exact_mod_cast this
theorem Del_ev (o : List S35) (f : Int → ByteArray → ByteArray → Option Bool) (p : S35 → Bool) (hf : ∀ e ∈ o, f e.f0 e.f1 e.f2 = some (p e)) (hl : o.length ≤ 1000000) : Ev (fun k => api_Entry_69.f k o f) (o.filter (fun e => !p e)) := by
  refine Ev.bind (Index_ev o f p hf hl) ?_
  unfold firstI
  by_cases h : o.findIdx p < o.length
  · simp only [if_pos h]
    refine Ev.congr (f := fun k => api_Entry_69.l0 k o f (o.findIdx p) ((o.findIdx p + 1 : Nat) : Int)) (fun k => by rw [if_neg (by omega), wrap_id (by omega) (by omega)]; rfl) ?_
    refine Del_l0 o f p hf hl (o.length - (o.findIdx p + 1)) (o.findIdx p + 1) (o.findIdx p) o (by omega) rfl (by omega) ?_ rfl
    have hall : ∀ e ∈ o.take (o.findIdx p), p e = false := by
      intro e he
      obtain ⟨j, hj, rfl⟩ := List.mem_iff_getElem.1 he
      rw [List.length_take] at hj
      rw [List.getElem_take]
      exact List.not_of_lt_findIdx (by omega)
    rw [List.take_succ_eq_append_getElem h, List.filter_append, List.filter_eq_self.2 (fun e he => by rw [hall e he]; rfl)]
    have := List.findIdx_getElem (w := h)
    simp [this]
  · simp only [if_neg h]
    have : o.filter (fun e => !p e) = o := List.filter_eq_self.2 (fun e he => by
      have h1 : o.findIdx p = o.length := Nat.le_antisymm List.findIdx_le_length (by omega)
      rw [List.findIdx_eq_length.1 h1 e he]; rfl)
    rw [this]
    exact Ev.congr (f := fun _ => some o) (fun k => if_pos True.intro) (Ev.now _)
theorem Drop_ev (l : List S35) (x : ByteArray) (hl : l.length ≤ 1000000) : Ev (fun k => tree_Drop.f k l x) (dropS l x) := by
  have h0 : api_Entry_70.f l = some l := by
    unfold api_Entry_70.f
    simp only [Option.bind_some, List.length_nil, List.nil_append]
    rw [if_pos (by omega)]
  unfold tree_Drop.f
  rw [h0]
  simp only [Option.bind_some]
  exact Ev.bind (Del_ev l _ (hasN x) (fun e _ => rfl) hl) (Ev.now _)
theorem refDrop_ev (l : List S35) (x : ByteArray) (hl : l.length ≤ 1000000) : Ev (fun k => graftageref15_Drop.f k l x) (dropS l x) := by
  have key : ∀ (d i : Nat) (acc : List S35), i + d = l.length → acc = (l.take i).filter (fun e => !hasN x e) → Ev (fun k => graftageref15_Drop.l0 k l x acc l.length i) (dropS l x) := by
    intro d
    induction d with
    | zero =>
      intro i acc hi ha
      have : dropS l x = acc := by rw [ha, List.take_of_length_le (by omega)]; rfl
      rw [this]
      exact Ev.step (f := fun _ => some acc) (fun k => by rw [graftageref15_Drop.l0, if_neg (by omega)]) (Ev.now _)
    | succ d ih =>
      intro i acc hi ha
      have hlt : i < l.length := by omega
      have hal : acc.length ≤ i := by rw [ha]; refine Nat.le_trans (List.length_filter_le _ _) ?_; rw [List.length_take]; omega
      have e0 : rd_T35 l (i : Int) = at35 l i := rfl
      have htk : l.take (i + 1) = l.take i ++ [at35 l i] := by rw [List.take_succ_eq_append_getElem hlt, at35_get _ _ hlt]
      refine Ev.step (f := fun k => if (at35 l i).f1.toList = x.toList then graftageref15_Drop.l0 k l x acc l.length ((i : Int) + 1) else graftageref15_Drop.l0 k l x (acc ++ [at35 l i]) l.length ((i : Int) + 1)) (fun k => by rw [graftageref15_Drop.l0, if_pos (by omega), if_pos (by omega), if_pos (by omega), e0, wrap_id (by omega) (by omega), if_pos (show acc.length < 3518437208883 by omega)]) ?_
      refine ev_ite (fun hp => ?_) (fun hp => ?_)
      · exact_mod_cast ih (i + 1) acc (by omega) (by rw [htk, List.filter_append, ← ha]; simp [hasN, hp])
      · exact_mod_cast ih (i + 1) (acc ++ [at35 l i]) (by omega) (by rw [htk, List.filter_append, ← ha]; simp [hasN, hp])
  have := key l.length 0 [] (by omega) (by simp)
  exact_mod_cast this
/-! ### puts -/
def putS (l : List S35) (e : S35) : List S35 := (dropS l e.f1).take ((dropS l e.f1).findIdx (lessB e)) ++ [e] ++ (dropS l e.f1).drop ((dropS l e.f1).findIdx (lessB e))
theorem dropS_len (l : List S35) (x : ByteArray) : (dropS l x).length ≤ l.length := List.length_filter_le _ _
theorem dropS_mem {l : List S35} {x : ByteArray} {e : S35} (h : e ∈ dropS l x) : e ∈ l := (List.mem_filter.1 h).1
theorem Put_ev (l : List S35) (e : S35) (hl : l.length ≤ 1000000) (hs : ∀ x ∈ l, x.f1.size ≤ 140737488351232) (he : e.f1.size ≤ 140737488351232) : Ev (fun k => tree_Put.f k l e.f0 e.f1 e.f2) (putS l e) := by
  refine Ev.bind (Drop_ev l e.f1 hl) ?_
  have hdl := dropS_len l e.f1
  refine Ev.bind (Index_ev (dropS l e.f1) _ (lessB e) (fun x hx => ?_) (by omega)) ?_
  · unfold tree_Put_1.f
    rw [Less_eq e x he (hs x (dropS_mem hx))]
    rfl
  · have hi : ∀ i : Nat, i ≤ (dropS l e.f1).length → slices_Insert_68.f (dropS l e.f1) (i : Int) [e] = some ((dropS l e.f1).take i ++ [e] ++ (dropS l e.f1).drop i) := fun i hi => by
      simp only [slices_Insert_68.f]
      rw [if_pos (by omega), if_pos (by omega), if_pos (by omega), Int.toNat_natCast]
    have hle : (dropS l e.f1).findIdx (lessB e) ≤ (dropS l e.f1).length := List.findIdx_le_length
    unfold firstI putS
    by_cases h : (dropS l e.f1).findIdx (lessB e) < (dropS l e.f1).length
    · simp only [if_pos h]
      refine Ev.congr (f := fun _ => some ((dropS l e.f1).take ((dropS l e.f1).findIdx (lessB e)) ++ [e] ++ (dropS l e.f1).drop ((dropS l e.f1).findIdx (lessB e)))) (fun k => by rw [if_neg (by omega)]; show (slices_Insert_68.f _ _ [e]).bind _ = _; rw [hi _ hle]; rfl) (Ev.now _)
    · simp only [if_neg h]
      have h1 : (dropS l e.f1).findIdx (lessB e) = (dropS l e.f1).length := by omega
      rw [h1]
      refine Ev.congr (f := fun _ => some ((dropS l e.f1).take (dropS l e.f1).length ++ [e] ++ (dropS l e.f1).drop (dropS l e.f1).length)) (fun k => by rw [if_pos (by decide)]; show (slices_Insert_68.f _ _ [e]).bind _ = _; rw [hi _ (Nat.le_refl _)]; rfl) (Ev.now _)
theorem refPut_ev (l : List S35) (e : S35) (hl : l.length ≤ 1000000) (hs : ∀ x ∈ l, x.f1.size ≤ 140737488351232) (he : e.f1.size ≤ 140737488351232) : Ev (fun k => graftageref15_Put.f k l e.f0 e.f1 e.f2) (putS l e) := by
  refine Ev.bind (refDrop_ev l e.f1 hl) ?_
  have hdl := dropS_len l e.f1
  have hsr : ∀ x ∈ dropS l e.f1, x.f1.size ≤ 140737488351232 := fun x hx => hs x (dropS_mem hx)
  unfold putS
  generalize dropS l e.f1 = r at hdl hsr ⊢
  have hfin : ∀ i : Nat, i ≤ r.length → (((some (r.take (i : Int).toNat : List (S35))).bind fun y158 => (if ([] : List (S35)).length + y158.length < 3518437208883 then ((some (([] : List (S35)) ++ y158 : List (S35))).bind fun y162 => (if y162.length < 3518437208883 then ((some (y162 ++ [(⟨e.f0, e.f1, e.f2⟩ : S35)] : List (S35))).bind fun y165 => ((some (r.drop (i : Int).toNat : List (S35))).bind fun y168 => (if y165.length + y168.length < 3518437208883 then (some (y165 ++ y168)) else (none)))) else (none))) else (none))) : Option (List S35)) = some (r.take i ++ [e] ++ r.drop i) := fun i hi => by
    have h1 : (r.take i).length ≤ r.length := by rw [List.length_take]; omega
    simp only [Int.toNat_natCast, Option.bind_some, List.nil_append, List.length_nil, Nat.zero_add]
    rw [if_pos (by omega), if_pos (by omega), if_pos (by rw [List.length_append, List.length_drop, List.length_singleton]; omega)]
  have key : ∀ (d i : Nat), i + d = r.length → (∀ j, j < i → lessB e (at35 r j) = false) → Ev (fun k => graftageref15_Put.l0 k r i e.f0 e.f1 e.f2) (r.take (r.findIdx (lessB e)) ++ [e] ++ r.drop (r.findIdx (lessB e))) := by
    intro d
    induction d with
    | zero =>
      intro i hi h
      obtain rfl : i = r.length := by omega
      have h0 : r.findIdx (lessB e) = r.length := by
        have := firstI_none (p := lessB e) (l := r) (fun j hj => h j hj)
        unfold firstI at this
        rcases Nat.lt_or_ge (r.findIdx (lessB e)) r.length with hlt | hge
        · rw [if_pos hlt] at this; omega
        · exact Nat.le_antisymm List.findIdx_le_length hge
      rw [h0]
      exact Ev.step (f := fun _ => some (r.take r.length ++ [e] ++ r.drop r.length)) (fun k => by rw [graftageref15_Put.l0, if_neg (by omega), if_pos (by omega), if_pos (by omega)]; exact hfin _ (Nat.le_refl _)) (Ev.now _)
    | succ d ih =>
      intro i hi h
      have hlt : i < r.length := by omega
      have e0 : rd_T35 r (i : Int) = at35 r i := rfl
      have hm : graftageref15_Less.f e.f0 e.f1 e.f2 (at35 r i).f0 (at35 r i).f1 (at35 r i).f2 = some (lessB e (at35 r i)) := ref_Less_eq e _ he (hsr _ (by rw [at35_get _ _ hlt]; exact List.getElem_mem hlt))
      by_cases hp : lessB e (at35 r i) = true
      · rw [firstI_at hlt hp h]
        exact Ev.step (f := fun _ => some (r.take i ++ [e] ++ r.drop i)) (fun k => by rw [graftageref15_Put.l0, if_pos (by omega), if_pos (by omega), e0, hm, Option.bind_some, if_pos hp, if_pos (by omega)]; exact hfin i (by omega)) (Ev.now _)
      · have hp' : lessB e (at35 r i) = false := by simpa using hp
        refine Ev.step (f := fun k => graftageref15_Put.l0 k r ((i : Int) + 1) e.f0 e.f1 e.f2) (fun k => by rw [graftageref15_Put.l0, if_pos (by omega), if_pos (by omega), e0, hm, Option.bind_some, if_neg hp, wrap_id (by omega) (by omega)]) ?_
        exact_mod_cast ih (i + 1) (by omega) (fun j hj => by
          by_cases e1 : j = i
          · rw [e1]; exact hp'
          · exact h j (by omega))
  have := key r.length 0 (by omega) (fun j hj => by omega)
  exact_mod_cast this
end Go.Proofs.YtccbpbdfihnlgaaDoor.Q


/- Contracts of Go functions as calls of plain Lean functions, written by a program of this session over the kit's print. -/
namespace Go.Proofs.YtccbpbdfihnlgaaDoor.Q
open Go.RowKit Go.Proofs.YtccbpbdfihnlgaaDoorW.PrintWords Go.Proofs.YtccbpbdfihnlgaaDoorW.PrintLast Go.Proofs.YtccbpbdfihnlgaaDoorW.PrintMore
attribute [local go_sem] max2_int min2_int max_two min_two max_three min_three max_four min_four   -- for this text's walks alone

/-! ### graftageref15_digits: function 54 -/
def graftageref15_digits.f (a0 : Int) : Option (ByteArray) := if a0 = 1 then (some (⟨#[49, 48, 48, 54, 52, 52, 32]⟩ : ByteArray)) else (if a0 = 2 then (some (⟨#[49, 48, 48, 55, 53, 53, 32]⟩ : ByteArray)) else (if a0 = 3 then (some (⟨#[49, 50, 48, 48, 48, 48, 32]⟩ : ByteArray)) else (some (⟨#[52, 48, 48, 48, 48, 32]⟩ : ByteArray))))
end Go.Proofs.YtccbpbdfihnlgaaDoor.Q


/- Contracts of Go functions as calls of plain Lean functions, written by a program of this session over the kit's print. -/
namespace Go.Proofs.YtccbpbdfihnlgaaDoor.Q
open Go.RowKit Go.Proofs.YtccbpbdfihnlgaaDoorW.PrintWords Go.Proofs.YtccbpbdfihnlgaaDoorW.PrintLast Go.Proofs.YtccbpbdfihnlgaaDoorW.PrintMore
attribute [local go_sem] max2_int min2_int max_two min_two max_three min_three max_four min_four   -- for this text's walks alone

end Go.Proofs.YtccbpbdfihnlgaaDoor.Q


/- Contracts of Go functions as calls of plain Lean functions, written by a program of this session over the kit's print. -/
namespace Go.Proofs.YtccbpbdfihnlgaaDoor.Q
open Go.RowKit Go.Proofs.YtccbpbdfihnlgaaDoorW.PrintWords Go.Proofs.YtccbpbdfihnlgaaDoorW.PrintLast Go.Proofs.YtccbpbdfihnlgaaDoorW.PrintMore
attribute [local go_sem] max2_int min2_int max_two min_two max_three min_three max_four min_four   -- for this text's walks alone

/-! ### graftageref15_begins: function 136 -/
def graftageref15_begins.f (a0 : ByteArray) (a1 : ByteArray) : Option (Bool) := if (a0.size : Int) ≥ (a1.size : Int) then (if 0 ≤ (a1.size : Int) then (if (a1.size : Int) ≤ (a0.size : Int) then (some ((a0.extract 0 a1.size).toList == a1.toList)) else (none)) else (none)) else (some false)
end Go.Proofs.YtccbpbdfihnlgaaDoor.Q


/- Contracts of Go functions as calls of plain Lean functions, written by a program of this session over the kit's print. -/
namespace Go.Proofs.YtccbpbdfihnlgaaDoor.Q
open Go.RowKit Go.Proofs.YtccbpbdfihnlgaaDoorW.PrintWords Go.Proofs.YtccbpbdfihnlgaaDoorW.PrintLast Go.Proofs.YtccbpbdfihnlgaaDoorW.PrintMore
attribute [local go_sem] max2_int min2_int max_two min_two max_three min_three max_four min_four   -- for this text's walks alone

/-! ### graftageref15_mode: function 109 -/
mutual
def graftageref15_mode.l0 : Nat → ByteArray → Int → Option (Int)
  | 0, _, _ => none
  | k + 1, x0, x3 => if x3 ≤ 4 then ((graftageref15_digits.f x3).bind fun t137 => ((graftageref15_begins.f x0 t137).bind fun t138 => (if t138 = true then (some x3) else (graftageref15_mode.l0 k x0 (wrap64 (x3 + 1)))))) else (graftageref15_mode.l1 k x0 1)
def graftageref15_mode.l1 : Nat → ByteArray → Int → Option (Int)
  | 0, _, _ => none
  | k + 1, x0, x4 => if x4 ≤ 4 then ((graftageref15_digits.f x4).bind fun t139 => ((graftageref15_begins.f t139 x0).bind fun t140 => (if t140 = true then (some (-1)) else (graftageref15_mode.l1 k x0 (wrap64 (x4 + 1)))))) else (some 0)
end
end Go.Proofs.YtccbpbdfihnlgaaDoor.Q


/- Contracts of Go functions as calls of plain Lean functions, written by a program of this session over the kit's print. -/
namespace Go.Proofs.YtccbpbdfihnlgaaDoor.Q
open Go.RowKit Go.Proofs.YtccbpbdfihnlgaaDoorW.PrintWords Go.Proofs.YtccbpbdfihnlgaaDoorW.PrintLast Go.Proofs.YtccbpbdfihnlgaaDoorW.PrintMore
attribute [local go_sem] max2_int min2_int max_two min_two max_three min_three max_four min_four   -- for this text's walks alone

def graftageref15_one.T10 : Bool × List (List Nat × List Nat) := (true, [([], []), ([], []), ([], []), ([], []), ([1, 2, 3], [1, 2, 3]), ([], []), ([], []), ([6], [6]), ([], []), ([8], [8]), ([5, 7, 9], [5, 7, 9]), ([10], [10]), ([0, 4, 11], [0, 4, 11]), ([], []), ([13], [13]), ([12, 11, 0, 1, 2, 3, 4, 5, 6, 7, 8, 9, 10, 11, 12], [12]), ([14, 15, 0, 1, 2, 3, 4, 5, 6, 7, 8, 9, 10, 11, 12, 13, 14, 15], [14]), ([16, 0, 1, 2, 3, 4, 5, 6, 7, 8, 9, 10, 11, 12, 13, 14, 15, 16], [])])
def graftageref15_one.B10 : List Nat := [0, 0, 0, 0, 14, 0, 0, 64, 0, 256, 992, 2016, 4095, 0, 8192, 8191, 65535, 131071]
theorem graftageref15_one.tab10 : rtab .any (opsOf Tryd.f59 10) = graftageref15_one.T10 := by kernel_rfl
theorem graftageref15_one.bits10 : waitsOk graftageref15_one.T10.2 graftageref15_one.B10 = true := by kernel_rfl
end Go.Proofs.YtccbpbdfihnlgaaDoor.Q


/- Contracts of Go functions as calls of plain Lean functions, written by a program of this session over the kit's print. -/
namespace Go.Proofs.YtccbpbdfihnlgaaDoor.Q
open Go.RowKit Go.Proofs.YtccbpbdfihnlgaaDoorW.PrintWords Go.Proofs.YtccbpbdfihnlgaaDoorW.PrintLast Go.Proofs.YtccbpbdfihnlgaaDoorW.PrintMore
attribute [local go_sem] max2_int min2_int max_two min_two max_three min_three max_four min_four   -- for this text's walks alone

end Go.Proofs.YtccbpbdfihnlgaaDoor.Q


/- Contracts of Go functions as calls of plain Lean functions, written by a program of this session over the kit's print. -/
namespace Go.Proofs.YtccbpbdfihnlgaaDoor.Q
open Go.RowKit Go.Proofs.YtccbpbdfihnlgaaDoorW.PrintWords Go.Proofs.YtccbpbdfihnlgaaDoorW.PrintLast Go.Proofs.YtccbpbdfihnlgaaDoorW.PrintMore
attribute [local go_sem] max2_int min2_int max_two min_two max_three min_three max_four min_four   -- for this text's walks alone

end Go.Proofs.YtccbpbdfihnlgaaDoor.Q


/- Contracts of Go functions as calls of plain Lean functions, written by a program of this session over the kit's print. -/
namespace Go.Proofs.YtccbpbdfihnlgaaDoor.Q
open Go.RowKit Go.Proofs.YtccbpbdfihnlgaaDoorW.PrintWords Go.Proofs.YtccbpbdfihnlgaaDoorW.PrintLast Go.Proofs.YtccbpbdfihnlgaaDoorW.PrintMore
attribute [local go_sem] max2_int min2_int max_two min_two max_three min_three max_four min_four   -- for this text's walks alone

end Go.Proofs.YtccbpbdfihnlgaaDoor.Q


/- Contracts of Go functions as calls of plain Lean functions, written by a program of this session over the kit's print. -/
namespace Go.Proofs.YtccbpbdfihnlgaaDoor.Q
open Go.RowKit Go.Proofs.YtccbpbdfihnlgaaDoorW.PrintWords Go.Proofs.YtccbpbdfihnlgaaDoorW.PrintLast Go.Proofs.YtccbpbdfihnlgaaDoorW.PrintMore
attribute [local go_sem] max2_int min2_int max_two min_two max_three min_three max_four min_four   -- for this text's walks alone

/-! ### graftagelaw15_TreeBack: function 5 -/
mutual
def graftagelaw15_TreeBack.j0 : Nat → List (S35) → ByteArray → Bool → Option (Bool)
  | 0, _, _, _ => none
  | k + 1, x0, x1, x20 => if x20 = true then ((graftagelaw15_lives.f k).bind fun t132 => (some t132)) else ((tree_Body.f k x0).bind fun bt133 => (if bt133.2 = 0 then ((tree_Parse.f k bt133.1).bind fun bt135 => (if bt135.2 = 0 then ((graftageref15_Same.f k x0 bt135.1).bind fun t139 => (if t139 = true then (graftagelaw15_TreeBack.j1 k x1) else (some false))) else (some false))) else (graftagelaw15_TreeBack.j1 k x1)))
def graftagelaw15_TreeBack.j1 : Nat → ByteArray → Option (Bool)
  | 0, _ => none
  | k + 1, x1 => (tree_Parse.f k x1).bind fun bt140 => (if bt140.2 = 0 then ((tree_Body.f k bt140.1).bind fun bt144 => (if bt144.2 = 0 then (if bt144.1.toList = x1.toList then ((graftagelaw15_lives.f k).bind fun t146 => (some t146)) else (some false)) else (some false))) else (if (bt140.1.length : Int) = 0 then ((graftagelaw15_lives.f k).bind fun t147 => (some t147)) else (some false)))
end
end Go.Proofs.YtccbpbdfihnlgaaDoor.Q


/- Trees: bodies and their entries; TreeChecks, TreeParses, TreeBack. -/
namespace Go.Proofs.YtccbpbdfihnlgaaDoor.Q
open Go.RowKit Go.Proofs.YtccbpbdfihnlgaaDoorW.PrintWords Go.Proofs.YtccbpbdfihnlgaaDoorW.PrintLast Go.Proofs.YtccbpbdfihnlgaaDoorW.PrintMore
theorem z1 : (⟨#[0]⟩ : ByteArray).size = 1 := rfl
section
variable (l : List S35) (hn : l.length ≤ 1024) (hm : ∀ j, j < l.length → mayB (at35 l j) = true)
include hn hm
end
/-! ### one entry's bytes -/
def pre (a b : ByteArray) : Bool := decide (b.size ≤ a.size) && ((a.extract 0 b.size).toList == b.toList)
end Go.Proofs.YtccbpbdfihnlgaaDoor.Q


/- Laws of no program: what holds behind new blocks and draws, found by the class. -/
namespace Go.Proofs.YtccbpbdfihnlgaaDoor.Q
open Go.RowKit Go.Proofs.YtccbpbdfihnlgaaDoorW.PrintWords Go.Proofs.YtccbpbdfihnlgaaDoorW.PrintLast Go.Proofs.YtccbpbdfihnlgaaDoorW.PrintMore
class Up (w w1 : World) : Prop where
  b : Below w.heap.size w w1
instance (w : World) : Up w w := ⟨Below.refl _ _⟩
instance (w w1 : World) (o : Obj) [h : Up w w1] : Up w (w1.alloc o) := ⟨below_alloc h.b o⟩
instance (w w1 : World) [h : Up w w1] : Up w w1.drew := ⟨below_drew1 h.b⟩
instance (w w1 : World) (n : Nat) [h : Up w w1] : Up w (w1.drewN n) := ⟨pw_below_drewN h.b n⟩
theorem hs_ {p : Prop} (h : p := by repeat (first | (with_reducible first | exact HB.out | apply below_alloc | apply pw_below_drewN | apply below_drew1 | refine below_set ?_ (Aside0.out (by assumption))) | exact HB.out)) : p := h
end Go.Proofs.YtccbpbdfihnlgaaDoor.Q


/- Contracts of Go functions as calls of plain Lean functions, written by a program of this session over the kit's print. -/
namespace Go.Proofs.YtccbpbdfihnlgaaDoor.Q
open Go.RowKit Go.Proofs.YtccbpbdfihnlgaaDoorW.PrintWords Go.Proofs.YtccbpbdfihnlgaaDoorW.PrintLast Go.Proofs.YtccbpbdfihnlgaaDoorW.PrintMore
attribute [local go_sem] max2_int min2_int max_two min_two max_three min_three max_four min_four   -- for this text's walks alone

attribute [local go_sem high] eqA35
/-! ### graftagelaw15_TreePut: function 8 -/
mutual
def graftagelaw15_TreePut.j0 : Nat → List (S35) → ByteArray → Bool → Int → ByteArray → ByteArray → Option (Bool)
 | 0, _, _, _, _, _, _ => none
 | k + 1, x0, x2, x37, x138000, x138001, x138002 => if x37 = true then ((graftagelaw15_lives.f k).bind fun t141 => (some t141)) else ((tree_Put.f k x0 x138000 x138001 x138002).bind fun t142 => ((tree_Check.f k t142).bind fun t145 => (if t145 = 0 then (graftagelaw15_TreePut.j1 k x0 x2 t142 false x138000 x138001 x138002) else ((tree_Check.f k t142).bind fun t146 => (if t146 = 4 then (graftagelaw15_TreePut.j1 k x0 x2 t142 (!((x0.length : Int) == 1024)) x138000 x138001 x138002) else (graftagelaw15_TreePut.j1 k x0 x2 t142 (!false) x138000 x138001 x138002))))))
def graftagelaw15_TreePut.j1 : Nat → List (S35) → ByteArray → List (S35) → Bool → Int → ByteArray → ByteArray → Option (Bool)
 | 0, _, _, _, _, _, _, _ => none
 | k + 1, x0, x2, x7, x55, x138000, x138001, x138002 => if x55 = true then (some false) else ((tree_Find.f k x7 x138001).bind fun bt147 => ((tree_Find.f k x7 x2).bind fun bt152 => ((tree_Find.f k x0 x2).bind fun bt157 => ((tree_Drop.f k x7 x138001).bind fun t162 => ((tree_Find.f k t162 x138001).bind fun bt165 => (if bt147.2.2.2 = true then (if (bt147.1 == x138000 && (bt147.2.1.toList == x138001.toList && (bt147.2.2.1.toList == x138002.toList))) = true then (if bt165.2.2.2 = true then (some false) else (if x2.toList = x138001.toList then (if (!(bt157.1 == x138000) || (!(bt157.2.1.toList == x138001.toList) || (!(bt157.2.2.1.toList == x138002.toList)))) = true then ((graftagelaw15_lives.f k).bind fun t170 => (some t170)) else ((graftageref15_Same.f k x7 x0).bind fun t171 => (if t171 = true then ((graftagelaw15_lives.f k).bind fun t172 => (some t172)) else (some false)))) else (if (bt152.1 == bt157.1 && (bt152.2.1.toList == bt157.2.1.toList && (bt152.2.2.1.toList == bt157.2.2.1.toList))) = true then (if (bt152.2.2.2 == bt157.2.2.2) = true then ((graftagelaw15_lives.f k).bind fun t173 => (some t173)) else (some false)) else (some false)))) else (some false)) else (some false)))))))
end
def graftagelaw15_TreePut.T9 : Bool × List (List Nat × List Nat) := (true, [([], []), ([], []), ([1], [1]), ([0, 2], [0, 2]), ([], []), ([4], [4]), ([3, 5, 3], [3, 5]), ([6], [6]), ([7], [7]), ([7], [7]), ([], []), ([10, 8, 6, 0, 1, 2, 3, 4, 5, 6, 7, 8, 10], [8, 10]), ([9, 11, 0, 1, 2, 3, 4, 5, 6, 7, 8, 9, 10, 11], [9])])
def graftagelaw15_TreePut.B9 : List Nat := [0, 0, 2, 7, 0, 16, 63, 127, 255, 255, 0, 1535, 4095]
theorem graftagelaw15_TreePut.tab9 : rtab .any (opsOf Tryd.f8 9) = graftagelaw15_TreePut.T9 := by kernel_rfl
theorem graftagelaw15_TreePut.bits9 : waitsOk graftagelaw15_TreePut.T9.2 graftagelaw15_TreePut.B9 = true := by kernel_rfl
end Go.Proofs.YtccbpbdfihnlgaaDoor.Q


/- Trees: TreePuts and TreePut. -/
namespace Go.Proofs.YtccbpbdfihnlgaaDoor.Q
open Go.RowKit Go.Proofs.YtccbpbdfihnlgaaDoorW.PrintWords Go.Proofs.YtccbpbdfihnlgaaDoorW.PrintLast Go.Proofs.YtccbpbdfihnlgaaDoorW.PrintMore
theorem putS_len (l : List S35) (e : S35) : (putS l e).length ≤ l.length + 1 := by
  have := dropS_len l e.f1
  unfold putS
  simp only [List.length_append, List.length_take, List.length_drop, List.length_singleton]
  omega
theorem TreePuts_ev (l : List S35) (e : S35) (name : ByteArray) (hs : ∀ x ∈ l, x.f1.size ≤ 140737488351232 ∧ x.f2.size ≤ 140737488351232) (hn : l.length ≤ 140737488351232) (he : e.f1.size ≤ 140737488351232) (hx : name.size ≤ 140737488351232) : Ev (fun k => graftagelaw15_TreePuts.f k l e.f0 e.f1 e.f2 name) true := by
  have hT : Ev (fun k => graftagelaw15_TreePuts.j0 k l name true e.f0 e.f1 e.f2) true :=
    Ev.step (f := fun k => (graftagelaw15_lives.f k).bind fun t => some t) (fun k => by rw [graftagelaw15_TreePuts.j0, if_pos rfl]) liveOr15
  refine Ev.bind (few_ev l hs hn) (ev_ite (fun h => ?_) (fun h => hT))
  by_cases hb : wrap64 ((e.f1.size : Int) + (name.size : Int)) > 500
  · rw [decide_eq_true hb]; exact hT
  rw [decide_eq_false hb]
  have hlen := (few_all l l.length 0 (by omega) h).1
  have hsl : ∀ x ∈ l, x.f1.size ≤ 140737488351232 := fun x hx => (hs x hx).1
  refine Ev.step (f := ?_) (fun k => by rw [graftagelaw15_TreePuts.j0, if_neg (by decide)]) ?_
  refine Ev.bind (Find_ev35 l name (by omega)) ?_
  refine Ev.bind (refFind_ev l name (by omega)) ?_
  have key : ∀ (d i : Nat) (b : Bool) (m : Int) (n p : ByteArray), i + d = l.length → Ev (fun k => graftagelaw15_TreePuts.l0 k l name b b l.length i e.f0 e.f1 e.f2 m n p m n p) true := by
    intro d
    induction d with
    | zero =>
      intro i b m n p hi
      refine Ev.step (f := ?_) (fun k => by rw [graftagelaw15_TreePuts.l0, if_neg (by omega), if_pos (by simp), if_pos (by simp)]) ?_
      have hpl := putS_len l e
      have hdl := dropS_len l name
      refine Ev.bind (Put_ev l e (by omega) hsl he) (Ev.bind (refPut_ev l e (by omega) hsl he) (Ev.bind (Same35_ev _ (by omega)) ?_))
      simp only [if_true]
      refine Ev.bind (Drop_ev l name (by omega)) (Ev.bind (refDrop_ev l name (by omega)) (Ev.bind (Same35_ev _ (by omega)) ?_))
      simp only [if_true]
      exact liveOr15
    | succ d ih =>
      intro i b m n p hi
      have hlt : i < l.length := by omega
      have hmem : at35 l i ∈ l := by rw [at35_get _ _ hlt]; exact List.getElem_mem hlt
      have e0 : rd_T35 l (i : Int) = at35 l i := rfl
      refine Ev.step (f := fun k => graftagelaw15_TreePuts.l0 k l name b b l.length ((i : Int) + 1) e.f0 e.f1 e.f2 m n p m n p) (fun k => ?_) ?_
      · rw [graftagelaw15_TreePuts.l0, if_pos (by omega), if_pos (by omega), if_pos (by omega), e0, Less_eq _ _ (hsl _ hmem) he, ref_Less_eq _ _ (hsl _ hmem) he, Less_eq _ _ he (hsl _ hmem), ref_Less_eq _ _ he (hsl _ hmem)]
        simp only [Option.bind_some, bne_self_eq_false, Bool.false_eq_true, if_false]
        rw [wrap_id (by omega) (by omega)]
      · exact_mod_cast ih (i + 1) b m n p (by omega)
  have := key l.length 0 (findB l name).2.2.2 (findB l name).1 (findB l name).2.1 (findB l name).2.2.1 (by omega)
  exact_mod_cast this
end Go.Proofs.YtccbpbdfihnlgaaDoor.Q


/- TreePuts, over plain lists and numbers. -/
namespace Go.Proofs.YtccbpbdfihnlgaaDoor.Pure
open Go.Proofs.YtccbpbdfihnlgaaDoor.Q Go.Proofs.YtccbpbdfihnlgaaDoorW.PrintWords

theorem TreePuts : ∀ (y0 : List (S35)), ∀ (y1 : S35), ∀ (y2 : ByteArray), (y0.length * 40 ≤ 140737488351232 ∧ ∀ y_y0 ∈ y0, ((Lit.int .i64 y_y0.f0).wf = true ∧ y_y0.f1.size ≤ 140737488351232 ∧ y_y0.f2.size ≤ 140737488351232)) → ((Lit.int .i64 y1.f0).wf = true ∧ y1.f1.size ≤ 140737488351232 ∧ y1.f2.size ≤ 140737488351232) → y2.size ≤ 140737488351232 → ∃ k, graftagelaw15_TreePuts.f k y0 y1.f0 y1.f1 y1.f2 y2 = some true :=
  fun y0 y1 y2 h h1 h2 => (TreePuts_ev y0 y1 y2 (fun x hx => (h.2 x hx).2) (by omega) h1.2.1 h2).rounds

end Go.Proofs.YtccbpbdfihnlgaaDoor.Pure


/- What a law's argument reads as (numbers, bools, strings, structs, slices, nested) opens into the printed kinds, with the reach's bounds; for the rows of this seat. -/
namespace Go.Proofs.YtccbpbdfihnlgaaDoor.Ro
open Go.RowKit Go.Deep Go.Proofs.YtccbpbdfihnlgaaDoorW.PrintWords

/-- What a reading of type t by the form tells in the words of kind d; S: the bounds. -/
def Opens (P : Program) (t : TypeId) {α : Type} (d : Kd α) (S : α → Prop) : Prop :=
  ∀ {H : Type} (enc : TypeId × Value → H) (w : World) (fuel : Nat) (cs : List Value) (x : DataW H × List MemPlace),
    DataW.trod enc P w 0 (fun _ => true) true fuel t cs = some x → (∀ n ∈ DataW.weights P t x.1, n ≤ reachBytes) → ∃ y : α, d.K w y cs ∧ S y

section
variable {P : Program} {t e : TypeId}

theorem Opens.int {k : IntKind} (ht : P.underlying t = some (.int k)) : Opens P t (Kd.int k) (fun y => (Lit.int k y).wf = true) := by
  intro H enc w fuel cs x h _
  obtain ⟨n, rfl, rfl, hw⟩ := DataW.trod_int ht h
  exact ⟨n, rfl, hw⟩

theorem Opens.bool (ht : P.underlying t = some .bool) : Opens P t Kd.bool (fun _ => True) := by
  intro H enc w fuel cs x h _
  obtain ⟨b, rfl, rfl⟩ := DataW.trod_bool ht h
  exact ⟨b, rfl, trivial⟩

theorem Opens.string (ht : P.underlying t = some .string) : Opens P t Kd.string (fun y => y.size ≤ 140737488351232) := by
  intro H enc w fuel cs x h hn
  obtain ⟨s, rfl, rfl, _⟩ := DataW.trod_string ht h
  refine ⟨s, rfl, ?_⟩
  have := hn s.data.toList.length (by simp [DataW.weights])
  simpa [reachBytes] using this

theorem choose_list {α : Type} {n : Nat} {p : Nat → α → Prop} (h : ∀ i, i < n → ∃ y, p i y) : ∃ l : List α, l.length = n ∧ ∀ i y, l[i]? = some y → p i y := by
  induction n with
  | zero => exact ⟨[], rfl, fun i y hy => by simp at hy⟩
  | succ n ih =>
    obtain ⟨l, hl, hp⟩ := ih (fun i hi => h i (by omega))
    obtain ⟨y, hy⟩ := h n (by omega)
    refine ⟨l ++ [y], by simp [hl], fun i z hz => ?_⟩
    rcases Nat.lt_or_ge i l.length with hi | hi
    · rw [List.getElem?_append_left hi] at hz
      exact hp i z hz
    · rw [List.getElem?_append_right hi] at hz
      have : i - l.length = 0 := by
        have := (List.getElem?_eq_some_iff.1 hz).1
        simpa using this
      rw [this] at hz
      have h1 : i = n := by omega
      subst h1
      have : y = z := by simpa using hz
      subst this
      exact hy

theorem weightsAll_mem {H : Type} {e : TypeId} : ∀ {l : List (DataW H)} {d : DataW H}, d ∈ l → ∀ n ∈ d.weights P e, n ∈ DataW.weightsAll P e l
  | a :: l, d, hd, n, hn => by
    simp only [DataW.weightsAll, List.mem_append]
    rcases List.mem_cons.1 hd with rfl | hd
    · exact .inl hn
    · exact .inr (weightsAll_mem hd n hn)

theorem Opens.slice {α : Type} {d : Kd α} {S : α → Prop} {b : Nat} (ht : P.underlying t = some (.slice e)) (hc : P.cellsOf e = d.sz) (hb : P.bytesOf e = b) (h : Opens P e d S) :
    Opens P t (Kd.slice e d) (fun l => l.length * b ≤ 140737488351232 ∧ ∀ y ∈ l, S y) := by
  intro H enc w fuel cs x hx hn
  rcases open_slice ht hx with ⟨rfl, rfl⟩ | ⟨a, len, cap, m, n, D, Pl, rfl, _, hl, hm, hmm, rfl, hall⟩
  · exact ⟨[], ⟨none, 0, rfl, Nat.le_refl _, rfl, by simp, fun h => absurd h (by simp)⟩, by simp, by simp⟩
  · simp only [if_true] at hmm
    obtain rfl : m = cap := hmm
    have hel : ∀ i, i < len → ∃ y : α, (∃ cs', w.cells? 0 (a.add (i * P.cellsOf e)) (P.cellsOf e) = some cs' ∧ d.K w y cs') ∧ S y := by
      intro i hi
      obtain ⟨cs', h1, h2⟩ := hall i (by omega)
      obtain ⟨y, hy, hs⟩ := h enc w n cs' _ h2 (fun k hk => hn k (by
        simp only [DataW.weights, ht, List.mem_cons, List.mem_append]
        exact .inr (.inl (weightsAll_mem (List.mem_map.2 ⟨i, List.mem_range.2 hi, rfl⟩) k hk))))
      exact ⟨y, ⟨cs', h1, hy⟩, hs⟩
    obtain ⟨l, hll, hp⟩ := choose_list hel
    subst hll
    have hw : (l.length + (m - l.length)) * b ≤ reachBytes := by
      have := hn _ (by simp only [DataW.weights, ht, List.mem_cons]; exact .inl rfl)
      simpa [hb] using this
    refine ⟨l, ⟨some a, m, rfl, hl, rfl, by unfold maxLen at hm; omega, fun _ => ⟨a, rfl, fun j p hj => ?_⟩⟩, ?_, fun y hy => ?_⟩
    · obtain ⟨⟨cs', h1, hk⟩, _⟩ := hp j p hj
      obtain ⟨_, hlen, hcell⟩ := World.cells?_some h1
      refine ⟨cs', by rw [hlen, hc], hk, fun i u hu => ?_⟩
      have hi : i < P.cellsOf e := by
        have := (List.getElem?_eq_some_iff.1 hu).1
        omega
      have := hcell i hi
      rw [Go.Deep.add_add, hu, hc] at this
      exact this
    · have : l.length * b ≤ (l.length + (m - l.length)) * b := Nat.mul_le_mul_right _ (by omega)
      simp only [reachBytes] at hw
      omega
    · obtain ⟨j, hj⟩ := List.mem_iff_getElem?.1 hy
      exact (hp j y hj).2

/-- The fields from one on, in line. -/
def OpensF (P : Program) (fs : List Field) (o : Nat) {α : Type} (d : Kd α) (S : α → Prop) : Prop :=
  ∀ {H : Type} (enc : TypeId × Value → H) (w : World) (n : Nat) (cs : List Value) (ys : List (DataW H × List MemPlace)),
    (∀ (i : Nat) (f : Field), fs[i]? = some f → DataW.trod enc P w 0 (fun _ => true) true n f.type ((cs.drop f.offset).take (P.cellsOf f.type)) = ys[i]?) → ys.length = fs.length →
    (∀ k ∈ DataW.weightsEach P (fs.map (·.type)) (ys.map (·.1)), k ≤ reachBytes) → cs.length = o + d.sz → ∃ y : α, d.K w y (cs.drop o) ∧ S y

theorem OpensF.one {α : Type} {f : Field} {o : Nat} {d : Kd α} {S : α → Prop} (ho : f.offset = o) (hc : P.cellsOf f.type = d.sz) (h : Opens P f.type d S) : OpensF P [f] o d S := by
  intro H enc w n cs ys hf hl hw hlen
  match ys, hl with
  | [y], _ =>
    have h1 := hf 0 f rfl
    rw [ho, hc, List.take_of_length_le (by rw [List.length_drop]; omega)] at h1
    exact h enc w n _ y h1 (fun k hk => hw k (by simp [DataW.weightsEach, hk]))

theorem OpensF.cons {α β : Type} {f : Field} {fs : List Field} {o o' : Nat} {d : Kd α} {d' : Kd β} {S : α → Prop} {S' : β → Prop} (ho : f.offset = o) (hc : P.cellsOf f.type = d.sz) (ho' : o + d.sz = o')
    (h : Opens P f.type d S) (h' : OpensF P fs o' d' S') : OpensF P (f :: fs) o (Kd.pair d d') (fun z => S z.1 ∧ S' z.2) := by
  intro H enc w n cs ys hf hl hw hlen
  match ys, hl with
  | y :: ys, hl =>
    have h1 := hf 0 f rfl
    rw [ho, hc] at h1
    have hlen' : cs.length = o + (d.sz + d'.sz) := hlen
    obtain ⟨a, ha, hs⟩ := h enc w n _ y h1 (fun k hk => hw k (by simp only [List.map_cons, DataW.weightsEach, List.mem_append]; exact .inl hk))
    obtain ⟨b, hb, hs'⟩ := h' enc w n cs ys (fun i g hg => hf (i + 1) g (by simpa using hg)) (by simpa using hl) (fun k hk => hw k (by simp only [List.map_cons, DataW.weightsEach, List.mem_append]; exact .inr hk)) (by omega)
    refine ⟨(a, b), ⟨_, _, ?_, ha, hb⟩, hs, hs'⟩
    rw [← ho', ← List.drop_drop, List.take_append_drop]

theorem Opens.struct {α β : Type} {fs : Array Field} {d : Kd α} {S : α → Prop} {f : β → α} {g : α → β} (ht : P.underlying t = some (.struct fs)) (hc : P.cellsOf t = d.sz) (hfg : ∀ a, f (g a) = a) (h : OpensF P fs.toList 0 d S) :
    Opens P t (Kd.iso d f) (fun y => S (f y)) := by
  intro H enc w fuel cs x hx hn
  obtain ⟨xs, n, _, rfl, hl, hlen, hf⟩ := DataW.trod_struct ht hx
  obtain ⟨a, ha, hs⟩ := h enc w n cs xs (fun i q hq => hf i q (by simpa using hq)) (by simpa using hlen) (fun k hk => hn k (by simpa [DataW.weights, ht] using hk)) (by rw [hl, hc]; omega)
  refine ⟨g a, ?_, by show S (f (g a)); rw [hfg]; exact hs⟩
  show d.K w (f (g a)) cs
  rw [hfg]
  simpa using ha

theorem Opens.imp {α : Type} {d : Kd α} {S S' : α → Prop} (h : Opens P t d S) (hS : ∀ y, S y → S' y) : Opens P t d S' := by
  intro H enc w fuel cs x hx hn
  obtain ⟨y, hy, hs⟩ := h enc w fuel cs x hx hn
  exact ⟨y, hy, hS y hs⟩

/-- An argument: its cells, told. -/
theorem Opens.arg {H : Type} {enc : TypeId × Value → H} {α : Type} {d : Kd α} {S : α → Prop} {w : World} {ts : List TypeId} {ds : List (DataW H)} {j : Nat} {v : Value} {dd : DataW H} {ps : List MemPlace} (h : Opens P t d S)
    (hz : (DataW.weightsEach P ts ds).all (· ≤ reachBytes) = true) (ht : ts[j]? = some t) (hd : ds[j]? = some dd) (hv : DataW.Trod enc P w 0 (fun _ => true) true t v dd ps) : ∃ y : α, d.K w y v.cells.toList ∧ S y := by
  obtain ⟨fuel, hf⟩ := hv
  exact h enc w fuel _ (dd, ps) hf (fun n hn => by simpa using List.all_eq_true.1 hz n (DataW.weights_mem_each ht hd n hn))

theorem arg_lt {H : Type} {enc : TypeId × Value → H} {w : World} {v : Value} {dd : DataW H} {ps : List MemPlace} (hv : DataW.Trod enc P w 0 (fun _ => true) true t v dd ps) : ∀ x ∈ ps, x.block < w.heap.size := by
  obtain ⟨m, hm⟩ := hv
  exact DataW.trod_lt m _ _ _ hm
end
end Go.Proofs.YtccbpbdfihnlgaaDoor.Ro


/- The law TreePuts holds: for every input it returns true, and each argument reads afterwards as it read before. -/
namespace Go.Proofs.YtccbpbdfihnlgaaDoor.treePuts
open Go.ChangeShapes Go.WideShapes Go.ChangeAt Go.RowKit Go.Proofs.YtccbpbdfihnlgaaDoor.Ro Go.Proofs.YtccbpbdfihnlgaaDoor.Q Go.Proofs.YtccbpbdfihnlgaaDoorW.PrintWords
open Go.ChangeMaps (open_string shut_string)
theorem own : ownKnob Tryd.prog.godebug = none := by kernel_rfl
theorem laidOut : laidOutB Tryd.prog = true := by kernel_rfl
theorem opens9 : Opens Tryd.prog 9 Kd.string (fun y => y.size ≤ 140737488351232) := (Opens.string Tryd.underlying9)
theorem opens22 : Opens Tryd.prog 22 (Kd.slice 35 k35) (fun y => (y.length * 40 ≤ 140737488351232 ∧ ∀ y_y ∈ y, ((Lit.int .i64 y_y.f0).wf = true ∧ y_y.f1.size ≤ 140737488351232 ∧ y_y.f2.size ≤ 140737488351232))) := (Opens.slice Tryd.underlying22 (by kernel_rfl) (by kernel_rfl) (Opens.struct (f := (fun x : S35 => (x.f0, x.f1, x.f2))) (g := (fun a => (⟨a.1, a.2.1, a.2.2⟩ : S35))) Tryd.underlying35 (by kernel_rfl) (fun _ => rfl) (OpensF.cons rfl (by kernel_rfl) rfl (Opens.int Tryd.underlying3) (OpensF.cons rfl (by kernel_rfl) rfl (Opens.string Tryd.underlying9) (OpensF.one rfl (by kernel_rfl) (Opens.string Tryd.underlying9))))))
theorem opens35 : Opens Tryd.prog 35 k35 (fun y => ((Lit.int .i64 y.f0).wf = true ∧ y.f1.size ≤ 140737488351232 ∧ y.f2.size ≤ 140737488351232)) := (Opens.struct (f := (fun x : S35 => (x.f0, x.f1, x.f2))) (g := (fun a => (⟨a.1, a.2.1, a.2.2⟩ : S35))) Tryd.underlying35 (by kernel_rfl) (fun _ => rfl) (OpensF.cons rfl (by kernel_rfl) rfl (Opens.int Tryd.underlying3) (OpensF.cons rfl (by kernel_rfl) rfl (Opens.string Tryd.underlying9) (OpensF.one rfl (by kernel_rfl) (Opens.string Tryd.underlying9)))))
set_option maxRecDepth 100000 in
theorem lifted (os : Os) (started : os.Started) (H : Type) (enc : TypeId × Value → H) :
    ReturnsInHanded {} Tryd.checked os 7 .any (fun w args => (Rows.treePutsSpec.pre enc Tryd.prog Tryd.f7 [] false w args ∧ laidMetH Tryd.prog Rows.treePutsRow.laid w) ∧ sizedMet enc Tryd.prog Tryd.f7 (OpenSpec.ofChange Rows.treePutsSpec) false w args) (Rows.treePutsSpec.post enc Tryd.prog Tryd.f7 false true false false) := by
  refine returnsInHanded_of_change_and (C := Tryd.checked) (X := fun w _ => laidMetH Tryd.prog Rows.treePutsRow.laid w) (fun _ _ _ hh h => h.of_heap hh) own started (by kernel_rfl) Tryd.func7
    (ChangeSpec.witness_shaped (enc := enc) (C := Tryd.checked) (os := os) (X := fun w _ => laidMetH Tryd.prog Rows.treePutsRow.laid w) false (World.laidAll Tryd.prog os Rows.treePutsRow.laid) #[.slice none 0 0, .agg #[.int .i64 0, .string ByteArray.empty, .string ByteArray.empty], .string ByteArray.empty] 8 (World.laidAll_os _ _ _)
      (World.shaped_of_ZipB (by kernel_rfl) (by kernel_rfl)) (by kernel_rfl) (by kernel_rfl) (by kernel_rfl)
      (by rw [MakeChecks.laidMetH_plain _ _ _ (by kernel_rfl)]; exact laidMet_laidAll _ (by kernel_rfl) (by kernel_rfl))) ?_
  intro W base args ds gs before hval0 hW hcnd hsz0 _ _
  have hsz : (DataW.weightsEach Tryd.prog (Tryd.f7.params.toList ++ Rows.treePutsSpec.plain.varTypes Tryd.prog) (ds ++ gs)).all (· ≤ reachBytes) = true := hsz0
  have hval : ∀ (j : Nat) t v, Tryd.f7.params[j]? = some t → args[j]? = some v → Value.okWide Tryd.prog W .any base t v := hval0
  have hW' := hW
  obtain ⟨p, q, hA0, hV, rfl, hfz, hnd⟩ := hW
  have hA : DataW.TrodAll enc Tryd.prog W 0 (fun _ => true) true Tryd.f7.params.toList args.toList ds p := hA0
  rw [Tryd.params7] at hA hval hsz
  obtain ⟨v0, vs0, d0, ds0, p0, q0, hargs, rfl, rfl, h0, r0⟩ := trodAll_cons hA
  obtain ⟨v1, vs1, d1, ds1, p1, q1, rfl, rfl, rfl, h1, r1⟩ := trodAll_cons r0
  obtain ⟨v2, vs2, d2, ds2, p2, q2, rfl, rfl, rfl, h2, r2⟩ := trodAll_cons r1
  obtain ⟨rfl, rfl, rfl⟩ := trodAll_nil r2
  obtain rfl : args = #[v0, v1, v2] := by cases args; simp_all
  obtain ⟨rfl, rfl⟩ := trodVars_none hV
  have lt0 := arg_lt h0
  obtain ⟨y0, hk0, w0⟩ := opens22.arg hsz (j := 0) rfl rfl h0
  obtain ⟨a0, len0, cap0, rfl⟩ := okWide_slice Tryd.underlying22 (hval 0 22 v0 rfl rfl)
  obtain ⟨A0, c0, e0, hl0, hr0⟩ := hk0
  obtain ⟨rfl, rfl, rfl⟩ : a0 = A0 ∧ len0 = y0.length ∧ cap0 = c0 := by simpa [Value.cells] using e0
  have lt1 := arg_lt h1
  obtain ⟨y1, hk1, w1⟩ := opens35.arg hsz (j := 1) rfl rfl h1
  obtain ⟨cs1, rfl, _⟩ := okWide_struct Tryd.underlying35 (hval 1 35 v1 rfl rfl)
  have hk1' := k35_open hk1
  have e1 := hk1'
  obtain rfl : cs1 = #[.int .i64 y1.f0, .string y1.f1, .string y1.f2] := by cases cs1; simpa [Value.cells] using e1
  have lt2 := arg_lt h2
  obtain ⟨y2, hk2, w2⟩ := opens9.arg hsz (j := 2) rfl rfl h2
  obtain ⟨x2, rfl⟩ := okWide_string Tryd.underlying9 (hval 2 9 v2 rfl rfl)
  obtain rfl : x2 = y2 := by simpa [Kd.string, Kd.scalar, Value.cells] using hk2
  obtain ⟨k, hp⟩ := Pure.TreePuts _ _ _ w0 w1 w2
  clear hA0 hval0 hsz0 hsz
  refine (Q.graftagelaw15_TreePuts.callsT k _ _ y0 y1.f0 y1.f1 y1.f2 _ true W hr0 hl0 rfl hp).mono ?_
  rintro e W' ⟨rfl, bel0⟩
  have bel : Below W.heap.size W W' := bel0
  exact ⟨_, rfl, _, _, _, [], _, [], hW', trodAll_mk1 (shut_bool Tryd.underlying4 _), (trodAll_cons_mk (Below.trod laidOut (by kernel_rfl) (of_decide_eq_true (by kernel_rfl)) h0 bel lt0) (trodAll_cons_mk (Below.trod laidOut (by kernel_rfl) (of_decide_eq_true (by kernel_rfl)) h1 bel lt1) (trodAll_cons_mk (Below.trod laidOut (by kernel_rfl) (of_decide_eq_true (by kernel_rfl)) h2 bel lt2) trodAll_mk0))), rfl, bel.frame _, fun h => by cases h⟩
theorem over : Rows.treePutsRow.holds Tryd.pinned (OpenSpec.ofChange Rows.treePutsSpec) :=
  OpenClaim.holds_of_wide 7 Tryd.f7 rfl rfl rfl rfl rfl rfl rfl ⟨rfl, rfl, rfl, rfl, rfl⟩ rfl rfl rfl rfl rfl (by kernel_rfl) Tryd.func7 (by kernel_rfl)
    (of_decide_eq_true (by kernel_rfl)) (by unfold Func.isWrapper; first | (rw [if_pos (by decide +kernel)]; kernel_rfl) | (rw [if_neg (by decide +kernel)]; exact ⟨rfl, rfl⟩))
    (fun os started H enc _ => lifted os started H enc)
theorem proved : Rows.TreePutsSaid := over
theorem card_holds : Rows.TreePutsCardSaid :=
  Claim7.holds_tied_plain_at .later [] [.data, .pinned] true (true, "f211dbb39e0f8aee4bdc9ae8c5517fa944c5333aa6a5e92b425f441664a6fa8b") false over (fun _ h => by cases h) (by kernel_rfl) (fun _ h => by cases h) treePuts_row_tie rfl ⟨rfl, rfl⟩ (by kernel_rfl) rfl
    (fun f fn hf hfn => by
      obtain rfl : f = 7 := Option.some.inj ((show Tryd.prog.funcNamed "graftage/graftagelaw15.TreePuts" = some 7 by kernel_rfl).symm.trans hf) |>.symm
      obtain rfl : fn = Tryd.f7 := (Option.some.inj (Tryd.func7.symm.trans hfn)).symm
      exact ⟨by kernel_rfl, fun j t ht => by
        rw [Tryd.params7] at ht
        have hm : t ∈ [22, 35, 9] := by simpa using Array.mem_of_getElem? ht
        have hall : ([22, 35, 9].all fun u => !Tryd.prog.wantsStandIn u) = true := by kernel_rfl
        exact (show Tryd.prog.wantsStandIn t = false by simpa using List.all_eq_true.1 hall t hm)⟩)
    (by kernel_rfl)
#print axioms card_holds
end Go.Proofs.YtccbpbdfihnlgaaDoor.treePuts
namespace Go.Proofs.YtccbpbdfihnlgaaDoor
/-- The statement, under a short name, for the claim. -/
theorem treePuts_holds : Rows.TreePutsCardSaid := treePuts.card_holds
end Go.Proofs.YtccbpbdfihnlgaaDoor


