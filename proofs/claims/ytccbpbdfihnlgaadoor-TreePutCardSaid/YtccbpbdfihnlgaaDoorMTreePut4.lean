/- The law TreePut holds: for every input it returns true, and each argument reads afterwards as it read before. -/
import Derived.Test.YtccbpbdfihnlgaaDoorMYTreePut1
import Derived.Test.YtccbpbdfihnlgaaDoorMTreePut1
import Derived.Test.YtccbpbdfihnlgaaDoorMTreePut2
import Derived.Test.YtccbpbdfihnlgaaDoorMTreePut3
import Derived.Laws.Cover1
set_option linter.unusedVariables false
set_option linter.unusedSimpArgs false
/- Contracts of Go functions as calls of plain Lean functions, written by a program of this session over the kit's print. -/
namespace Go.Proofs.YtccbpbdfihnlgaaDoor.Q
open Go.RowKit Go.Proofs.YtccbpbdfihnlgaaDoorW.PrintWords Go.Proofs.YtccbpbdfihnlgaaDoorW.PrintLast Go.Proofs.YtccbpbdfihnlgaaDoorW.PrintMore
attribute [local go_sem] max2_int min2_int max_two min_two max_three min_three max_four min_four   -- for this text's walks alone

attribute [local go_sem high] eqA35
/-! ### graftagelaw15_TreePut: function 8 -/
mutual
def graftagelaw15_TreePut.j0 : Nat → List (S35) → ByteArray → Bool → Int → ByteArray → ByteArray → Option (Bool)
 | 0, _, _, _, _, _, _ => none
 | k + 1, x0, x2, x37, x138000, x138001, x138002 => if x37 = true then ((graftagelaw15_lives.f k).bind fun t141 => (some t141)) else ((tree_Put.f k x0 x138000 x138001 x138002).bind fun t142 => ((tree_Check.f k t142).bind fun t145 => (if t145 = 0 then (graftagelaw15_TreePut.j1 k x0 x2 t142 false x138000 x138001 x138002) else ((tree_Check.f k t142).bind fun t146 => (if t146 = 4 then (graftagelaw15_TreePut.j1 k x0 x2 t142 (!((x0.length : Int) == 1024)) x138000 x138001 x138002) else (graftagelaw15_TreePut.j1 k x0 x2 t142 (!false) x138000 x138001 x138002))))))
def graftagelaw15_TreePut.j1 : Nat → List (S35) → ByteArray → List (S35) → Bool → Int → ByteArray → ByteArray → Option (Bool)
 | 0, _, _, _, _, _, _, _ => none
 | k + 1, x0, x2, x7, x55, x138000, x138001, x138002 => if x55 = true then (some false) else ((tree_Find.f k x7 x138001).bind fun bt147 => ((tree_Find.f k x7 x2).bind fun bt152 => ((tree_Find.f k x0 x2).bind fun bt157 => ((tree_Drop.f k x7 x138001).bind fun t162 => ((tree_Find.f k t162 x138001).bind fun bt165 => (if bt147.2.2.2 = true then (if (bt147.1 == x138000 && (bt147.2.1.toList == x138001.toList && (bt147.2.2.1.toList == x138002.toList))) = true then (if bt165.2.2.2 = true then (some false) else (if x2.toList = x138001.toList then (if (!(bt157.1 == x138000) || (!(bt157.2.1.toList == x138001.toList) || (!(bt157.2.2.1.toList == x138002.toList)))) = true then ((graftagelaw15_lives.f k).bind fun t170 => (some t170)) else ((graftageref15_Same.f k x7 x0).bind fun t171 => (if t171 = true then ((graftagelaw15_lives.f k).bind fun t172 => (some t172)) else (some false)))) else (if (bt152.1 == bt157.1 && (bt152.2.1.toList == bt157.2.1.toList && (bt152.2.2.1.toList == bt157.2.2.1.toList))) = true then (if (bt152.2.2.2 == bt157.2.2.2) = true then ((graftagelaw15_lives.f k).bind fun t173 => (some t173)) else (some false)) else (some false)))) else (some false)) else (some false)))))))
end
def graftagelaw15_TreePut.f (k : Nat) (l0 : List (S35)) (a1_0 : Int) (a1_1 : ByteArray) (a1_2 : ByteArray) (a2 : ByteArray) : Option (Bool) := (graftagelaw15_few.f k l0).bind fun t138 => (if t138 = true then (if (wrap64 ((a1_1.size : Int) + (a2.size : Int))) > 500 then (graftagelaw15_TreePut.j0 k l0 a2 true a1_0 a1_1 a1_2) else ((tree_Check.f k l0).bind fun t139 => (if t139 = 0 then ((graftageref15_May.f k a1_0 a1_1 a1_2).bind fun t140 => (graftagelaw15_TreePut.j0 k l0 a2 (!t140) a1_0 a1_1 a1_2)) else (graftagelaw15_TreePut.j0 k l0 a2 true a1_0 a1_1 a1_2)))) else (graftagelaw15_TreePut.j0 k l0 a2 true a1_0 a1_1 a1_2))
def graftagelaw15_TreePut.T9 : Bool × List (List Nat × List Nat) := (true, [([], []), ([], []), ([1], [1]), ([0, 2], [0, 2]), ([], []), ([4], [4]), ([3, 5, 3], [3, 5]), ([6], [6]), ([7], [7]), ([7], [7]), ([], []), ([10, 8, 6, 0, 1, 2, 3, 4, 5, 6, 7, 8, 10], [8, 10]), ([9, 11, 0, 1, 2, 3, 4, 5, 6, 7, 8, 9, 10, 11], [9])])
def graftagelaw15_TreePut.B9 : List Nat := [0, 0, 2, 7, 0, 16, 63, 127, 255, 255, 0, 1535, 4095]
theorem graftagelaw15_TreePut.tab9 : rtab .any (opsOf Tryd.f8 9) = graftagelaw15_TreePut.T9 := by kernel_rfl
theorem graftagelaw15_TreePut.bits9 : waitsOk graftagelaw15_TreePut.T9.2 graftagelaw15_TreePut.B9 = true := by kernel_rfl
set_option maxHeartbeats 8000000 in
set_option maxRecDepth 100000 in
theorem graftagelaw15_TreePut.callsT (k : Nat) (A0 : Option Addr) (c0 : Nat) (l0 : List (S35)) (a1_0 : Int) (a1_1 : ByteArray) (a1_2 : ByteArray) (a2 : ByteArray) (r : Bool) (w : World) (hr0 : Kd.C k35 w A0 l0.length l0) (hc0 : l0.length ≤ c0) (hr_ : r = true) (h : graftagelaw15_TreePut.f k l0 a1_0 a1_1 a1_2 a2 = some r) :
  Calls Tryd.prog 8 #[.slice A0 l0.length c0, .agg #[.int .i64 a1_0, .string a1_1, .string a1_2], .string a2] w fun e w' => e = .returned (.bool r) ∧ Below w.heap.size w w' := by
 have hu35 := Tryd.underlying35
 have HR0 := Aside0.mk hr0
 have HC0 := Aside0.mk hc0
 clear hr0 hc0
 have HB := Aside0.mk (Below.refl w.heap.size w)
 have H : ((graftagelaw15_few.f k l0).bind fun t138 => (if t138 = true then (if (wrap64 ((a1_1.size : Int) + (a2.size : Int))) > 500 then (graftagelaw15_TreePut.j0 k l0 a2 true a1_0 a1_1 a1_2) else ((tree_Check.f k l0).bind fun t139 => (if t139 = 0 then ((graftageref15_May.f k a1_0 a1_1 a1_2).bind fun t140 => (graftagelaw15_TreePut.j0 k l0 a2 (!t140) a1_0 a1_1 a1_2)) else (graftagelaw15_TreePut.j0 k l0 a2 true a1_0 a1_1 a1_2)))) else (graftagelaw15_TreePut.j0 k l0 a2 true a1_0 a1_1 a1_2))) = some r := h
 clear h
 have HC4 := Aside0.mk H
 clear H
 go_enter Tryd.func8, Tryd.ntmps8
 go_upto_region 1 with (first | ((with_reducible refine gate_dst (N := 4) rfl ?_); (try (refine gate_guard (by rfl) ?_; dsimp only)); refine box_event ?hg (N := 4) ?hd (cs := #[.int .i64 a1_0, .string a1_1, .string a1_2]) (t := 35) ?hr ?_; (case hd => rfl); (case hg => rfl); (case hr => first | (go_simp; done) | (go_simp; rfl)); intro gb137 hg w5 hbox hb; have n0_ := Aside0.mk (below_step (hb_ HB.out) hb); have n1_ := Aside0.mk (hbox); have n2_ := Aside0.mk ((by rw [hg]; exact (below_size (hb_ HB.out)) : w.heap.size ≤ gb137)); have n3_ := Aside0.mk ((by rw [hg]; exact (below_size (hb_ HB.out)) : w.heap.size ≤ gb137)); clear HB; have HB := n0_; have BK137 := n1_; have GW137 := n2_; have GE137 := n3_; clear n0_ n1_ n2_ n3_; clear hb hbox hg))
 (try simp only [Act.put, List.setIfInBounds_toArray, List.set_cons_zero, List.set_cons_succ])
 go_cut [37] (fun v37 wc => ∃ (kq : Nat) (x37_3 : Bool), v37 = .bool x37_3 ∧ Aside0 (graftagelaw15_TreePut.j0 kq l0 a2 x37_3 a1_0 a1_1 a1_2 = some r) ∧ Aside0 (kq ≤ k) ∧ Aside0 (wc.heap[gb137]? = some (.cells #[.int .i64 a1_0, .string a1_1, .string a1_2] 35 (0, 0))) ∧ Aside0 (Below w.heap.size w wc))
 case first =>
  have H := HC4.out
  clear HC4
  replace H := Option.bind_eq_some_iff.mp H
  obtain ⟨t138, A60, H⟩ := H
  replace H : (if t138 = true then (if (wrap64 ((a1_1.size : Int) + (a2.size : Int))) > 500 then (graftagelaw15_TreePut.j0 k l0 a2 true a1_0 a1_1 a1_2) else ((tree_Check.f k l0).bind fun t139 => (if t139 = 0 then ((graftageref15_May.f k a1_0 a1_1 a1_2).bind fun t140 => (graftagelaw15_TreePut.j0 k l0 a2 (!t140) a1_0 a1_1 a1_2)) else (graftagelaw15_TreePut.j0 k l0 a2 true a1_0 a1_1 a1_2)))) else (graftagelaw15_TreePut.j0 k l0 a2 true a1_0 a1_1 a1_2)) = some r := H
  have A6 := Aside0.mk A60
  clear A60
  by_cases c7 : t138 = true
  ·subst c7
   have H1 : (if (wrap64 ((a1_1.size : Int) + (a2.size : Int))) > 500 then (graftagelaw15_TreePut.j0 k l0 a2 true a1_0 a1_1 a1_2) else ((tree_Check.f k l0).bind fun t139 => (if t139 = 0 then ((graftageref15_May.f k a1_0 a1_1 a1_2).bind fun t140 => (graftagelaw15_TreePut.j0 k l0 a2 (!t140) a1_0 a1_1 a1_2)) else (graftagelaw15_TreePut.j0 k l0 a2 true a1_0 a1_1 a1_2)))) = some r := by rw [if_pos rfl] at H; exact H
   clear H
   have H := H1
   clear H1
   by_cases c8 : (wrap64 ((a1_1.size : Int) + (a2.size : Int))) > 500
   ·rw [if_pos c8] at H
    have c8b0 : decide (500 < (wrap64 ((a1_1.size : Int) + (a2.size : Int)))) = true := decide_eq_true c8
    clear c8
    (first | rw [c8b0] | (simp only [i64_w, i32_w]; rw [c8b0]) | skip)
    have H' := Aside0.mk H
    clear H
    go_wp2_with (first | ((with_reducible refine gate_callee (f := 14) rfl ?_); refine goesL_ (some 17) rfl rfl Tryd.func14 (by kernel_rfl) rfl #[.slice A0 l0.length c0] rfl (by (try simp only [List.map_toArray, List.map_cons, List.map_nil]); first | done | rfl | (simp only [List.length_drop, List.length_take]; rfl)) ?_; (with_reducible refine (graftagelaw15_few.calls k _ _ l0 true _ ?side1 ?side2 A6.out).mono ?_); (case side1 => repeat (first | exact (Kd.C_below HR0.out HB.out) | (with_reducible refine Kd.C_alloc ?_ _) | (with_reducible refine Kd.C_drewN ?_ _) | (with_reducible refine Kd.C_drew ?_))); (case side2 => exact HC0.out); rintro e w' ⟨rfl, ⟨nd, rfl⟩⟩; refine ⟨_, rfl, ?_⟩; have hcz9_0 : w5.cell? ⟨gb137, 0, none⟩ = some (.int .i64 a1_0) := (blk_cell BK137.out 0).trans rfl; have hcz9_1 : w5.cell? ⟨gb137, 1, none⟩ = some (.string a1_1) := (blk_cell BK137.out 1).trans rfl; have hcz9_2 : w5.cell? ⟨gb137, 2, none⟩ = some (.string a1_2) := (blk_cell BK137.out 2).trans rfl; have hfz9_0 := blk_frozen BK137.out 0; have hfz9_1 := blk_frozen BK137.out 1; have hfz9_2 := blk_frozen BK137.out 2))
    go_meet
    case rel => exact ⟨_, (true), (by first | rfl | (simp; done) | (simp [*]; done) | (simp [ne_nil_bool]; done) | (simp [*, ne_nil_bool]; done)), H', ⟨by first | omega | exact Nat.le_refl _⟩, ⟨bk_ BK137.out⟩, ⟨hs_⟩⟩
   ·rw [if_neg c8] at H
    have c8b0 : decide (500 < (wrap64 ((a1_1.size : Int) + (a2.size : Int)))) = false := decide_eq_false c8
    clear c8
    (first | rw [c8b0] | (simp only [i64_w, i32_w]; rw [c8b0]) | skip)
    replace H := Option.bind_eq_some_iff.mp H
    obtain ⟨t139, A100, H⟩ := H
    replace H : (if t139 = 0 then ((graftageref15_May.f k a1_0 a1_1 a1_2).bind fun t140 => (graftagelaw15_TreePut.j0 k l0 a2 (!t140) a1_0 a1_1 a1_2)) else (graftagelaw15_TreePut.j0 k l0 a2 true a1_0 a1_1 a1_2)) = some r := H
    have A10 := Aside0.mk A100
    clear A100
    by_cases c11 : t139 = 0
    ·rw [if_pos c11] at H
     have c11b0 : (t139 == 0) = true := beq_iff_eq.mpr c11
     have c11b1 : (t139 != 0) = false := bne_eq_false_iff_eq.mpr c11
     clear c11
     replace H := Option.bind_eq_some_iff.mp H
     obtain ⟨t140, A120, H⟩ := H
     replace H : (graftagelaw15_TreePut.j0 k l0 a2 (!t140) a1_0 a1_1 a1_2) = some r := H
     have A12 := Aside0.mk A120
     clear A120
     have H' := Aside0.mk H
     clear H
     go_wp2_with (first | ((with_reducible refine gate_callee (f := 14) rfl ?_); refine goesL_ (some 17) rfl rfl Tryd.func14 (by kernel_rfl) rfl #[.slice A0 l0.length c0] rfl (by (try simp only [List.map_toArray, List.map_cons, List.map_nil]); first | done | rfl | (simp only [List.length_drop, List.length_take]; rfl)) ?_; (with_reducible refine (graftagelaw15_few.calls k _ _ l0 true _ ?side1 ?side2 A6.out).mono ?_); (case side1 => repeat (first | exact (Kd.C_below HR0.out HB.out) | (with_reducible refine Kd.C_alloc ?_ _) | (with_reducible refine Kd.C_drewN ?_ _) | (with_reducible refine Kd.C_drew ?_))); (case side2 => exact HC0.out); rintro e w' ⟨rfl, ⟨nd, rfl⟩⟩; refine ⟨_, rfl, ?_⟩; have hcz13_0 : w5.cell? ⟨gb137, 0, none⟩ = some (.int .i64 a1_0) := (blk_cell BK137.out 0).trans rfl; have hcz13_1 : w5.cell? ⟨gb137, 1, none⟩ = some (.string a1_1) := (blk_cell BK137.out 1).trans rfl; have hcz13_2 : w5.cell? ⟨gb137, 2, none⟩ = some (.string a1_2) := (blk_cell BK137.out 2).trans rfl; have hfz13_0 := blk_frozen BK137.out 0; have hfz13_1 := blk_frozen BK137.out 1; have hfz13_2 := blk_frozen BK137.out 2) | (go_at_call 18; (with_reducible refine (tree_Check.calls k _ _ l0 t139 _ ?side1 ?side2 A10.out).mono ?_); (case side1 => repeat (first | exact (Kd.C_below HR0.out (hs_)) | (with_reducible refine Kd.C_alloc ?_ _) | (with_reducible refine Kd.C_drewN ?_ _) | (with_reducible refine Kd.C_drew ?_))); (case side2 => exact HC0.out); rintro e w14 ⟨rfl, hb⟩; have n0_ := Aside0.mk (blk_below (g := gb137) (o := .cells #[.int .i64 a1_0, .string a1_1, .string a1_2] 35 (0, 0)) (bk_ BK137.out) hb); have n1_ := Aside0.mk (below_step (hs_) hb); clear BK137; clear HB; have BK137 := n0_; have HB := n1_; clear n0_ n1_; (try clear hb); (try clear hb2); (try clear hk); (try clear hi); have hcz15_0 : w14.cell? ⟨gb137, 0, none⟩ = some (.int .i64 a1_0) := (blk_cell BK137.out 0).trans rfl; have hcz15_1 : w14.cell? ⟨gb137, 1, none⟩ = some (.string a1_1) := (blk_cell BK137.out 1).trans rfl; have hcz15_2 : w14.cell? ⟨gb137, 2, none⟩ = some (.string a1_2) := (blk_cell BK137.out 2).trans rfl; have hfz15_0 := blk_frozen BK137.out 0; have hfz15_1 := blk_frozen BK137.out 1; have hfz15_2 := blk_frozen BK137.out 2) | (go_at_call 23; (with_reducible refine (graftageref15_May.calls k a1_0 a1_1 a1_2 t140 _ A12.out).mono ?_); rintro e w16 ⟨rfl, hb⟩; have n0_ := Aside0.mk (blk_below (g := gb137) (o := .cells #[.int .i64 a1_0, .string a1_1, .string a1_2] 35 (0, 0)) (bk_ BK137.out) hb); have n1_ := Aside0.mk (below_step (hs_) hb); clear BK137; clear HB; have BK137 := n0_; have HB := n1_; clear n0_ n1_; (try clear hb); (try clear hb2); (try clear hk); (try clear hi)))
     go_meet
     case rel => exact ⟨_, (!t140), (by first | rfl | (simp; done) | (simp [*]; done) | (simp [ne_nil_bool]; done) | (simp [*, ne_nil_bool]; done)), H', ⟨by first | omega | exact Nat.le_refl _⟩, ⟨bk_ BK137.out⟩, ⟨hs_⟩⟩
    ·rw [if_neg c11] at H
     have c11b0 : (t139 == 0) = false := beq_eq_false_iff_ne.mpr c11
     have c11b1 : (t139 != 0) = true := bne_iff_ne.mpr c11
     have H' := Aside0.mk H
     clear H
     go_wp2_with (first | ((with_reducible refine gate_callee (f := 14) rfl ?_); refine goesL_ (some 17) rfl rfl Tryd.func14 (by kernel_rfl) rfl #[.slice A0 l0.length c0] rfl (by (try simp only [List.map_toArray, List.map_cons, List.map_nil]); first | done | rfl | (simp only [List.length_drop, List.length_take]; rfl)) ?_; (with_reducible refine (graftagelaw15_few.calls k _ _ l0 true _ ?side1 ?side2 A6.out).mono ?_); (case side1 => repeat (first | exact (Kd.C_below HR0.out HB.out) | (with_reducible refine Kd.C_alloc ?_ _) | (with_reducible refine Kd.C_drewN ?_ _) | (with_reducible refine Kd.C_drew ?_))); (case side2 => exact HC0.out); rintro e w' ⟨rfl, ⟨nd, rfl⟩⟩; refine ⟨_, rfl, ?_⟩; have hcz17_0 : w5.cell? ⟨gb137, 0, none⟩ = some (.int .i64 a1_0) := (blk_cell BK137.out 0).trans rfl; have hcz17_1 : w5.cell? ⟨gb137, 1, none⟩ = some (.string a1_1) := (blk_cell BK137.out 1).trans rfl; have hcz17_2 : w5.cell? ⟨gb137, 2, none⟩ = some (.string a1_2) := (blk_cell BK137.out 2).trans rfl; have hfz17_0 := blk_frozen BK137.out 0; have hfz17_1 := blk_frozen BK137.out 1; have hfz17_2 := blk_frozen BK137.out 2) | (go_at_call 18; (with_reducible refine (tree_Check.calls k _ _ l0 t139 _ ?side1 ?side2 A10.out).mono ?_); (case side1 => repeat (first | exact (Kd.C_below HR0.out (hs_)) | (with_reducible refine Kd.C_alloc ?_ _) | (with_reducible refine Kd.C_drewN ?_ _) | (with_reducible refine Kd.C_drew ?_))); (case side2 => exact HC0.out); rintro e w18 ⟨rfl, hb⟩; have n0_ := Aside0.mk (blk_below (g := gb137) (o := .cells #[.int .i64 a1_0, .string a1_1, .string a1_2] 35 (0, 0)) (bk_ BK137.out) hb); have n1_ := Aside0.mk (below_step (hs_) hb); clear BK137; clear HB; have BK137 := n0_; have HB := n1_; clear n0_ n1_; (try clear hb); (try clear hb2); (try clear hk); (try clear hi)))
     go_meet
     case rel => exact ⟨_, (true), (by first | rfl | (simp; done) | (simp [*]; done) | (simp [ne_nil_bool]; done) | (simp [*, ne_nil_bool]; done)), H', ⟨by first | omega | exact Nat.le_refl _⟩, ⟨bk_ BK137.out⟩, ⟨hs_⟩⟩
  ·replace c7 := Bool.eq_false_iff.mpr c7
   subst c7
   have H1 : (graftagelaw15_TreePut.j0 k l0 a2 true a1_0 a1_1 a1_2) = some r := by rw [if_neg (show ¬ (false = true) by decide)] at H; exact H
   clear H
   have H := H1
   clear H1
   have H' := Aside0.mk H
   clear H
   go_wp2_with (first | ((with_reducible refine gate_callee (f := 14) rfl ?_); refine goesL_ (some 17) rfl rfl Tryd.func14 (by kernel_rfl) rfl #[.slice A0 l0.length c0] rfl (by (try simp only [List.map_toArray, List.map_cons, List.map_nil]); first | done | rfl | (simp only [List.length_drop, List.length_take]; rfl)) ?_; (with_reducible refine (graftagelaw15_few.calls k _ _ l0 false _ ?side1 ?side2 A6.out).mono ?_); (case side1 => repeat (first | exact (Kd.C_below HR0.out HB.out) | (with_reducible refine Kd.C_alloc ?_ _) | (with_reducible refine Kd.C_drewN ?_ _) | (with_reducible refine Kd.C_drew ?_))); (case side2 => exact HC0.out); rintro e w' ⟨rfl, ⟨nd, rfl⟩⟩; refine ⟨_, rfl, ?_⟩))
   go_meet
   case rel => exact ⟨_, (true), (by first | rfl | (simp; done) | (simp [*]; done) | (simp [ne_nil_bool]; done) | (simp [*, ne_nil_bool]; done)), H', ⟨by first | omega | exact Nat.le_refl _⟩, ⟨bk_ BK137.out⟩, ⟨hs_⟩⟩
 case rest =>
  clear HC4
  try clear c1
  try clear p2
  try clear p6
  try clear c7
  try clear c8
  try clear c8b0
  try clear c11
  try clear c11b0
  try clear c11b1
  try clear c14
  try clear hcz13_0
  try clear hcz13_1
  try clear hcz13_2
  try clear hcz15_0
  try clear hcz15_1
  try clear hcz15_2
  try clear hcz17_0
  try clear hcz17_1
  try clear hcz17_2
  try clear hcz9_0
  try clear hcz9_1
  try clear hcz9_2
  try clear hfz13_0
  try clear hfz13_1
  try clear hfz13_2
  try clear hfz15_0
  try clear hfz15_1
  try clear hfz15_2
  try clear hfz17_0
  try clear hfz17_1
  try clear hfz17_2
  try clear hfz9_0
  try clear hfz9_1
  try clear hfz9_2
  obtain ⟨kq, x37_3, rfl, HA, HJ3, BK137, HB⟩ := hcut
  cases kq with
  | zero => exact absurd HA.out (by simp [graftagelaw15_TreePut.j0])
  | succ kj3 =>
   have H := HA.out
   clear HA
   simp only [graftagelaw15_TreePut.j0] at H
   by_cases c19 : x37_3 = true
   ·subst c19
    have H1 : ((graftagelaw15_lives.f kj3).bind fun t141 => (some t141)) = some r := by rw [if_pos rfl] at H; exact H
    clear H
    have H := H1
    clear H1
    replace H := Option.bind_eq_some_iff.mp H
    obtain ⟨t141, A200, H⟩ := H
    replace H : (some t141) = some r := H
    have A20 := Aside0.mk A200
    clear A200
    obtain rfl := Option.some.inj H
    go_wp2_with (first | ((with_reducible refine gate_callee (f := 15) rfl ?_); refine goesL_ (some 38) rfl rfl Tryd.func15 (by kernel_rfl) rfl #[] rfl (by (try simp only [List.map_toArray, List.map_cons, List.map_nil]); first | done | rfl | (simp only [List.length_drop, List.length_take]; rfl)) ?_; (with_reducible refine (graftagelaw15_lives.calls kj3  t141 _ A20.out).mono ?_); rintro e w21 ⟨rfl, hb⟩; refine ⟨_, rfl, ?_⟩; have n0_ := Aside0.mk (blk_below (g := gb137) (o := .cells #[.int .i64 a1_0, .string a1_1, .string a1_2] 35 (0, 0)) (bk_ BK137.out) hb); have n1_ := Aside0.mk (below_step (hs_) hb); clear BK137; clear HB; have BK137 := n0_; have HB := n1_; clear n0_ n1_; (try clear hb); (try clear hb2); (try clear hk); (try clear hi)))
    go_ret
    exact ⟨by first | rfl | (simp [errW_none, errW_some] <;> rfl) | (simp [*, errW_none, errW_some] <;> rfl) | (simp [ne_nil_bool]; done) | (simp [*, ne_nil_bool]; done), hs_⟩
   ·replace c19 := Bool.eq_false_iff.mpr c19
    subst c19
    have H1 : ((tree_Put.f kj3 l0 a1_0 a1_1 a1_2).bind fun t142 => ((tree_Check.f kj3 t142).bind fun t145 => (if t145 = 0 then (graftagelaw15_TreePut.j1 kj3 l0 a2 t142 false a1_0 a1_1 a1_2) else ((tree_Check.f kj3 t142).bind fun t146 => (if t146 = 4 then (graftagelaw15_TreePut.j1 kj3 l0 a2 t142 (!((l0.length : Int) == 1024)) a1_0 a1_1 a1_2) else (graftagelaw15_TreePut.j1 kj3 l0 a2 t142 (!false) a1_0 a1_1 a1_2)))))) = some r := by rw [if_neg (show ¬ (false = true) by decide)] at H; exact H
    clear H
    have H := H1
    clear H1
    replace H := Option.bind_eq_some_iff.mp H
    obtain ⟨t142, A220, H⟩ := H
    replace H : ((tree_Check.f kj3 t142).bind fun t145 => (if t145 = 0 then (graftagelaw15_TreePut.j1 kj3 l0 a2 t142 false a1_0 a1_1 a1_2) else ((tree_Check.f kj3 t142).bind fun t146 => (if t146 = 4 then (graftagelaw15_TreePut.j1 kj3 l0 a2 t142 (!((l0.length : Int) == 1024)) a1_0 a1_1 a1_2) else (graftagelaw15_TreePut.j1 kj3 l0 a2 t142 (!false) a1_0 a1_1 a1_2))))) = some r := H
    have A22 := Aside0.mk A220
    clear A220
    have HC23 := Aside0.mk H
    clear H
    have hcz24_0 : wc.cell? ⟨gb137, 0, none⟩ = some (.int .i64 a1_0) := (blk_cell BK137.out 0).trans rfl
    have hcz24_1 : wc.cell? ⟨gb137, 1, none⟩ = some (.string a1_1) := (blk_cell BK137.out 1).trans rfl
    have hcz24_2 : wc.cell? ⟨gb137, 2, none⟩ = some (.string a1_2) := (blk_cell BK137.out 2).trans rfl
    have hfz24_0 := blk_frozen BK137.out 0
    have hfz24_1 := blk_frozen BK137.out 1
    have hfz24_2 := blk_frozen BK137.out 2
    go_upto_region 4 with (first | ((with_reducible refine gate_callee (f := 28) rfl ?_); refine goesL_ (some 41) rfl rfl Tryd.func28 (by kernel_rfl) rfl #[.slice A0 l0.length c0, .agg #[.int .i64 a1_0, .string a1_1, .string a1_2]] rfl (by (try simp only [List.map_toArray, List.map_cons, List.map_nil]); first | done | rfl | (simp only [List.length_drop, List.length_take]; rfl)) ?_; (with_reducible refine (tree_Put.calls kj3 _ _ l0 a1_0 a1_1 a1_2 t142 _ ?side1 ?side2 A22.out).mono ?_); (case side1 => repeat (first | exact (Kd.C_below HR0.out HB.out) | (with_reducible refine Kd.C_alloc ?_ _) | (with_reducible refine Kd.C_drewN ?_ _) | (with_reducible refine Kd.C_drew ?_))); (case side2 => exact HC0.out); rintro e w25 ⟨v143, rfl, ho0, hb⟩; refine ⟨_, rfl, ?_⟩; have n0_ := Aside0.mk (Kd.R_lower (Kd.R_newB ho0 (g := gb137) (o := .cells #[.int .i64 a1_0, .string a1_1, .string a1_2] 35 (0, 0)) (bk_ BK137.out)) (below_size (hs_))); have n1_ := Aside0.mk (blk_below (g := gb137) (o := .cells #[.int .i64 a1_0, .string a1_1, .string a1_2] 35 (0, 0)) (bk_ BK137.out) hb); have n2_ := Aside0.mk (below_step (hs_) hb); clear BK137; clear HB; have HO144 := n0_; have BK137 := n1_; have HB := n2_; clear n0_ n1_ n2_; (try clear hb); (try clear hb2); (try clear hk); (try clear hi); (try clear ho0)))
    (try simp only [Act.put, List.setIfInBounds_toArray, List.set_cons_zero, List.set_cons_succ])
    go_cut [55] (fun v55 wc => ∃ (kq : Nat) (x55_22 : Bool), v55 = .bool x55_22 ∧ Aside0 (graftagelaw15_TreePut.j1 kq l0 a2 t142 x55_22 a1_0 a1_1 a1_2 = some r) ∧ Aside0 (kq ≤ kj3) ∧ Aside0 (Kd.R k35 35 wc w.heap.size (fun k_ => k_ ≠ gb137) v143 t142) ∧ Aside0 (wc.heap[gb137]? = some (.cells #[.int .i64 a1_0, .string a1_1, .string a1_2] 35 (0, 0))) ∧ Aside0 (Below w.heap.size w wc))
    case first =>
     have H := HC23.out
     clear HC23
     replace H := Option.bind_eq_some_iff.mp H
     obtain ⟨t145, A260, H⟩ := H
     replace H : (if t145 = 0 then (graftagelaw15_TreePut.j1 kj3 l0 a2 t142 false a1_0 a1_1 a1_2) else ((tree_Check.f kj3 t142).bind fun t146 => (if t146 = 4 then (graftagelaw15_TreePut.j1 kj3 l0 a2 t142 (!((l0.length : Int) == 1024)) a1_0 a1_1 a1_2) else (graftagelaw15_TreePut.j1 kj3 l0 a2 t142 (!false) a1_0 a1_1 a1_2)))) = some r := H
     have A26 := Aside0.mk A260
     clear A260
     by_cases c27 : t145 = 0
     ·rw [if_pos c27] at H
      have c27b0 : (t145 == 0) = true := beq_iff_eq.mpr c27
      have c27b1 : (t145 != 0) = false := bne_eq_false_iff_eq.mpr c27
      clear c27
      (first | rw [c27b0] | (simp only [i64_w, i32_w]; rw [c27b0]) | skip)
      have H' := Aside0.mk H
      clear H
      obtain ⟨Ao28, co28, eo28⟩ := Kd.R_slice HO144.out
      subst eo28
      go_wp2_with (first | ((with_reducible refine gate_callee (f := 18) rfl ?_); refine goesL_ (some 43) rfl rfl Tryd.func18 (by kernel_rfl) rfl #[.slice Ao28 t142.length co28] rfl (by (try simp only [List.map_toArray, List.map_cons, List.map_nil]); first | done | rfl | (simp only [List.length_drop, List.length_take]; rfl)) ?_; (with_reducible refine (tree_Check.calls kj3 _ _ t142 t145 _ ?side1 ?side2 A26.out).mono ?_); (case side1 => repeat (first | exact (Kd.R_reads' HO144.out).2.2 | (with_reducible refine Kd.C_alloc ?_ _) | (with_reducible refine Kd.C_drewN ?_ _) | (with_reducible refine Kd.C_drew ?_))); (case side2 => exact (Kd.R_reads' HO144.out).2.1); rintro e w29 ⟨rfl, hb⟩; refine ⟨_, rfl, ?_⟩; have n0_ := Aside0.mk (Kd.R_below (rk_ HO144.out) hb); have n1_ := Aside0.mk (blk_below (g := gb137) (o := .cells #[.int .i64 a1_0, .string a1_1, .string a1_2] 35 (0, 0)) (bk_ BK137.out) hb); have n2_ := Aside0.mk (below_step (hs_) hb); clear HO144; clear BK137; clear HB; have HO144 := n0_; have BK137 := n1_; have HB := n2_; clear n0_ n1_ n2_; (try clear hb); (try clear hb2); (try clear hk); (try clear hi)))
      go_meet
      case rel => exact ⟨_, (false), (by first | rfl | (simp; done) | (simp [*]; done) | (simp [ne_nil_bool]; done) | (simp [*, ne_nil_bool]; done)), H', ⟨by have := HJ3.out; first | omega | exact Nat.le_refl _⟩, ⟨by (with_reducible repeat (first | apply Kd.R_alloc | apply Kd.R_drewN | apply Kd.R_drew)); exact Kd.R_mono HO144.out (fun _ hk => hk.2)⟩, ⟨bk_ BK137.out⟩, ⟨hs_⟩⟩
     ·rw [if_neg c27] at H
      have c27b0 : (t145 == 0) = false := beq_eq_false_iff_ne.mpr c27
      have c27b1 : (t145 != 0) = true := bne_iff_ne.mpr c27
      (first | rw [c27b0] | (simp only [i64_w, i32_w]; rw [c27b0]) | skip)
      replace H := Option.bind_eq_some_iff.mp H
      obtain ⟨t146, A300, H⟩ := H
      replace H : (if t146 = 4 then (graftagelaw15_TreePut.j1 kj3 l0 a2 t142 (!((l0.length : Int) == 1024)) a1_0 a1_1 a1_2) else (graftagelaw15_TreePut.j1 kj3 l0 a2 t142 (!false) a1_0 a1_1 a1_2)) = some r := H
      have A30 := Aside0.mk A300
      clear A300
      by_cases c31 : t146 = 4
      ·rw [if_pos c31] at H
       have c31b0 : (t146 == 4) = true := beq_iff_eq.mpr c31
       have c31b1 : (t146 != 4) = false := bne_eq_false_iff_eq.mpr c31
       clear c31
       have H' := Aside0.mk H
       clear H
       obtain ⟨Ao32, co32, eo32⟩ := Kd.R_slice HO144.out
       subst eo32
       have tk1_ : True := trivial
       have tk2_ : True := trivial
       go_wp2_with (first | (have _t := tk1_; (with_reducible refine gate_callee (f := 18) rfl ?_); refine goesL_ (some 43) rfl rfl Tryd.func18 (by kernel_rfl) rfl #[.slice Ao32 t142.length co32] rfl (by (try simp only [List.map_toArray, List.map_cons, List.map_nil]); first | done | rfl | (simp only [List.length_drop, List.length_take]; rfl)) ?_; (with_reducible refine (tree_Check.calls kj3 _ _ t142 t145 _ ?side1 ?side2 A26.out).mono ?_); (case side1 => repeat (first | exact (Kd.R_reads' HO144.out).2.2 | (with_reducible refine Kd.C_alloc ?_ _) | (with_reducible refine Kd.C_drewN ?_ _) | (with_reducible refine Kd.C_drew ?_))); (case side2 => exact (Kd.R_reads' HO144.out).2.1); rintro e w33 ⟨rfl, hb⟩; refine ⟨_, rfl, ?_⟩; have n0_ := Aside0.mk (Kd.R_below (rk_ HO144.out) hb); have n1_ := Aside0.mk (blk_below (g := gb137) (o := .cells #[.int .i64 a1_0, .string a1_1, .string a1_2] 35 (0, 0)) (bk_ BK137.out) hb); have n2_ := Aside0.mk (below_step (hs_) hb); clear HO144; clear BK137; clear HB; have HO144 := n0_; have BK137 := n1_; have HB := n2_; clear n0_ n1_ n2_; (try clear hb); (try clear hb2); (try clear hk); (try clear hi); clear tk1_) | (go_at_call 18; have _t := tk2_; (with_reducible refine (tree_Check.calls kj3 _ _ t142 t146 _ ?side1 ?side2 A30.out).mono ?_); (case side1 => repeat (first | exact (Kd.R_reads' HO144.out).2.2 | (with_reducible refine Kd.C_alloc ?_ _) | (with_reducible refine Kd.C_drewN ?_ _) | (with_reducible refine Kd.C_drew ?_))); (case side2 => exact (Kd.R_reads' HO144.out).2.1); rintro e w34 ⟨rfl, hb⟩; have n0_ := Aside0.mk (Kd.R_below (rk_ HO144.out) hb); have n1_ := Aside0.mk (blk_below (g := gb137) (o := .cells #[.int .i64 a1_0, .string a1_1, .string a1_2] 35 (0, 0)) (bk_ BK137.out) hb); have n2_ := Aside0.mk (below_step (hs_) hb); clear HO144; clear BK137; clear HB; have HO144 := n0_; have BK137 := n1_; have HB := n2_; clear n0_ n1_ n2_; (try clear hb); (try clear hb2); (try clear hk); (try clear hi); clear tk2_))
       go_meet
       case rel => exact ⟨_, (!((l0.length : Int) == 1024)), (by first | rfl | (simp; done) | (simp [*]; done) | (simp [ne_nil_bool]; done) | (simp [*, ne_nil_bool]; done)), H', ⟨by have := HJ3.out; first | omega | exact Nat.le_refl _⟩, ⟨by (with_reducible repeat (first | apply Kd.R_alloc | apply Kd.R_drewN | apply Kd.R_drew)); exact Kd.R_mono HO144.out (fun _ hk => hk.2)⟩, ⟨bk_ BK137.out⟩, ⟨hs_⟩⟩
      ·rw [if_neg c31] at H
       have c31b0 : (t146 == 4) = false := beq_eq_false_iff_ne.mpr c31
       have c31b1 : (t146 != 4) = true := bne_iff_ne.mpr c31
       have H' := Aside0.mk H
       clear H
       obtain ⟨Ao35, co35, eo35⟩ := Kd.R_slice HO144.out
       subst eo35
       have tk3_ : True := trivial
       have tk4_ : True := trivial
       go_wp2_with (first | (have _t := tk3_; (with_reducible refine gate_callee (f := 18) rfl ?_); refine goesL_ (some 43) rfl rfl Tryd.func18 (by kernel_rfl) rfl #[.slice Ao35 t142.length co35] rfl (by (try simp only [List.map_toArray, List.map_cons, List.map_nil]); first | done | rfl | (simp only [List.length_drop, List.length_take]; rfl)) ?_; (with_reducible refine (tree_Check.calls kj3 _ _ t142 t145 _ ?side1 ?side2 A26.out).mono ?_); (case side1 => repeat (first | exact (Kd.R_reads' HO144.out).2.2 | (with_reducible refine Kd.C_alloc ?_ _) | (with_reducible refine Kd.C_drewN ?_ _) | (with_reducible refine Kd.C_drew ?_))); (case side2 => exact (Kd.R_reads' HO144.out).2.1); rintro e w36 ⟨rfl, hb⟩; refine ⟨_, rfl, ?_⟩; have n0_ := Aside0.mk (Kd.R_below (rk_ HO144.out) hb); have n1_ := Aside0.mk (blk_below (g := gb137) (o := .cells #[.int .i64 a1_0, .string a1_1, .string a1_2] 35 (0, 0)) (bk_ BK137.out) hb); have n2_ := Aside0.mk (below_step (hs_) hb); clear HO144; clear BK137; clear HB; have HO144 := n0_; have BK137 := n1_; have HB := n2_; clear n0_ n1_ n2_; (try clear hb); (try clear hb2); (try clear hk); (try clear hi); clear tk3_) | (go_at_call 18; have _t := tk4_; (with_reducible refine (tree_Check.calls kj3 _ _ t142 t146 _ ?side1 ?side2 A30.out).mono ?_); (case side1 => repeat (first | exact (Kd.R_reads' HO144.out).2.2 | (with_reducible refine Kd.C_alloc ?_ _) | (with_reducible refine Kd.C_drewN ?_ _) | (with_reducible refine Kd.C_drew ?_))); (case side2 => exact (Kd.R_reads' HO144.out).2.1); rintro e w37 ⟨rfl, hb⟩; have n0_ := Aside0.mk (Kd.R_below (rk_ HO144.out) hb); have n1_ := Aside0.mk (blk_below (g := gb137) (o := .cells #[.int .i64 a1_0, .string a1_1, .string a1_2] 35 (0, 0)) (bk_ BK137.out) hb); have n2_ := Aside0.mk (below_step (hs_) hb); clear HO144; clear BK137; clear HB; have HO144 := n0_; have BK137 := n1_; have HB := n2_; clear n0_ n1_ n2_; (try clear hb); (try clear hb2); (try clear hk); (try clear hi); clear tk4_))
       go_meet
       case rel => exact ⟨_, (!false), (by first | rfl | (simp; done) | (simp [*]; done) | (simp [ne_nil_bool]; done) | (simp [*, ne_nil_bool]; done)), H', ⟨by have := HJ3.out; first | omega | exact Nat.le_refl _⟩, ⟨by (with_reducible repeat (first | apply Kd.R_alloc | apply Kd.R_drewN | apply Kd.R_drew)); exact Kd.R_mono HO144.out (fun _ hk => hk.2)⟩, ⟨bk_ BK137.out⟩, ⟨hs_⟩⟩
    case rest =>
     clear HC23
     try clear c1
     try clear c2
     try clear p2
     try clear c3
     try clear p6
     try clear c7
     try clear c8
     try clear c8b0
     try clear c11
     try clear c11b0
     try clear c11b1
     try clear c14
     try clear c15
     try clear c18
     try clear c19
     try clear c27
     try clear c27b0
     try clear c27b1
     try clear c28
     try clear c31
     try clear c31b0
     try clear c31b1
     try clear hcz13_0
     try clear hcz13_1
     try clear hcz13_2
     try clear hcz15_0
     try clear hcz15_1
     try clear hcz15_2
     try clear hcz17_0
     try clear hcz17_1
     try clear hcz17_2
     try clear hcz24_0
     try clear hcz24_1
     try clear hcz24_2
     try clear hcz9_0
     try clear hcz9_1
     try clear hcz9_2
     try clear hfz13_0
     try clear hfz13_1
     try clear hfz13_2
     try clear hfz15_0
     try clear hfz15_1
     try clear hfz15_2
     try clear hfz17_0
     try clear hfz17_1
     try clear hfz17_2
     try clear hfz24_0
     try clear hfz24_1
     try clear hfz24_2
     try clear hfz9_0
     try clear hfz9_1
     try clear hfz9_2
     try clear p2
     try clear p6
     obtain ⟨kq, x55_22, rfl, HA, HJ22, HO_7, BK137, HB⟩ := hcut
     cases kq with
     | zero => exact absurd HA.out (by simp [graftagelaw15_TreePut.j1])
     | succ kj22 =>
      have H := HA.out
      clear HA
      simp only [graftagelaw15_TreePut.j1] at H
      by_cases c38 : x55_22 = true
      ·subst c38
       have H1 : (some false) = some r := by rw [if_pos rfl] at H; exact H
       clear H
       have H := H1
       clear H1
       exact absurd ((Option.some.inj H).trans hr_) (by simp)
      ·replace c38 := Bool.eq_false_iff.mpr c38
       subst c38
       have H1 : ((tree_Find.f kj22 t142 a1_1).bind fun bt147 => ((tree_Find.f kj22 t142 a2).bind fun bt152 => ((tree_Find.f kj22 l0 a2).bind fun bt157 => ((tree_Drop.f kj22 t142 a1_1).bind fun t162 => ((tree_Find.f kj22 t162 a1_1).bind fun bt165 => (if bt147.2.2.2 = true then (if (bt147.1 == a1_0 && (bt147.2.1.toList == a1_1.toList && (bt147.2.2.1.toList == a1_2.toList))) = true then (if bt165.2.2.2 = true then (some false) else (if a2.toList = a1_1.toList then (if (!(bt157.1 == a1_0) || (!(bt157.2.1.toList == a1_1.toList) || (!(bt157.2.2.1.toList == a1_2.toList)))) = true then ((graftagelaw15_lives.f kj22).bind fun t170 => (some t170)) else ((graftageref15_Same.f kj22 t142 l0).bind fun t171 => (if t171 = true then ((graftagelaw15_lives.f kj22).bind fun t172 => (some t172)) else (some false)))) else (if (bt152.1 == bt157.1 && (bt152.2.1.toList == bt157.2.1.toList && (bt152.2.2.1.toList == bt157.2.2.1.toList))) = true then (if (bt152.2.2.2 == bt157.2.2.2) = true then ((graftagelaw15_lives.f kj22).bind fun t173 => (some t173)) else (some false)) else (some false)))) else (some false)) else (some false))))))) = some r := by rw [if_neg (show ¬ (false = true) by decide)] at H; exact H
       clear H
       have H := H1
       clear H1
       replace H := Option.bind_eq_some_iff.mp H
       obtain ⟨⟨t147, t148, t149, t150⟩, A390, H⟩ := H
       replace H : ((tree_Find.f kj22 t142 a2).bind fun bt152 => ((tree_Find.f kj22 l0 a2).bind fun bt157 => ((tree_Drop.f kj22 t142 a1_1).bind fun t162 => ((tree_Find.f kj22 t162 a1_1).bind fun bt165 => (if t150 = true then (if (t147 == a1_0 && (t148.toList == a1_1.toList && (t149.toList == a1_2.toList))) = true then (if bt165.2.2.2 = true then (some false) else (if a2.toList = a1_1.toList then (if (!(bt157.1 == a1_0) || (!(bt157.2.1.toList == a1_1.toList) || (!(bt157.2.2.1.toList == a1_2.toList)))) = true then ((graftagelaw15_lives.f kj22).bind fun t170 => (some t170)) else ((graftageref15_Same.f kj22 t142 l0).bind fun t171 => (if t171 = true then ((graftagelaw15_lives.f kj22).bind fun t172 => (some t172)) else (some false)))) else (if (bt152.1 == bt157.1 && (bt152.2.1.toList == bt157.2.1.toList && (bt152.2.2.1.toList == bt157.2.2.1.toList))) = true then (if (bt152.2.2.2 == bt157.2.2.2) = true then ((graftagelaw15_lives.f kj22).bind fun t173 => (some t173)) else (some false)) else (some false)))) else (some false)) else (some false)))))) = some r := H
       have A39 := Aside0.mk A390
       clear A390
       replace H := Option.bind_eq_some_iff.mp H
       obtain ⟨⟨t152, t153, t154, t155⟩, A400, H⟩ := H
       replace H : ((tree_Find.f kj22 l0 a2).bind fun bt157 => ((tree_Drop.f kj22 t142 a1_1).bind fun t162 => ((tree_Find.f kj22 t162 a1_1).bind fun bt165 => (if t150 = true then (if (t147 == a1_0 && (t148.toList == a1_1.toList && (t149.toList == a1_2.toList))) = true then (if bt165.2.2.2 = true then (some false) else (if a2.toList = a1_1.toList then (if (!(bt157.1 == a1_0) || (!(bt157.2.1.toList == a1_1.toList) || (!(bt157.2.2.1.toList == a1_2.toList)))) = true then ((graftagelaw15_lives.f kj22).bind fun t170 => (some t170)) else ((graftageref15_Same.f kj22 t142 l0).bind fun t171 => (if t171 = true then ((graftagelaw15_lives.f kj22).bind fun t172 => (some t172)) else (some false)))) else (if (t152 == bt157.1 && (t153.toList == bt157.2.1.toList && (t154.toList == bt157.2.2.1.toList))) = true then (if (t155 == bt157.2.2.2) = true then ((graftagelaw15_lives.f kj22).bind fun t173 => (some t173)) else (some false)) else (some false)))) else (some false)) else (some false))))) = some r := H
       have A40 := Aside0.mk A400
       clear A400
       replace H := Option.bind_eq_some_iff.mp H
       obtain ⟨⟨t157, t158, t159, t160⟩, A410, H⟩ := H
       replace H : ((tree_Drop.f kj22 t142 a1_1).bind fun t162 => ((tree_Find.f kj22 t162 a1_1).bind fun bt165 => (if t150 = true then (if (t147 == a1_0 && (t148.toList == a1_1.toList && (t149.toList == a1_2.toList))) = true then (if bt165.2.2.2 = true then (some false) else (if a2.toList = a1_1.toList then (if (!(t157 == a1_0) || (!(t158.toList == a1_1.toList) || (!(t159.toList == a1_2.toList)))) = true then ((graftagelaw15_lives.f kj22).bind fun t170 => (some t170)) else ((graftageref15_Same.f kj22 t142 l0).bind fun t171 => (if t171 = true then ((graftagelaw15_lives.f kj22).bind fun t172 => (some t172)) else (some false)))) else (if (t152 == t157 && (t153.toList == t158.toList && (t154.toList == t159.toList))) = true then (if (t155 == t160) = true then ((graftagelaw15_lives.f kj22).bind fun t173 => (some t173)) else (some false)) else (some false)))) else (some false)) else (some false)))) = some r := H
       have A41 := Aside0.mk A410
       clear A410
       replace H := Option.bind_eq_some_iff.mp H
       obtain ⟨t162, A420, H⟩ := H
       replace H : ((tree_Find.f kj22 t162 a1_1).bind fun bt165 => (if t150 = true then (if (t147 == a1_0 && (t148.toList == a1_1.toList && (t149.toList == a1_2.toList))) = true then (if bt165.2.2.2 = true then (some false) else (if a2.toList = a1_1.toList then (if (!(t157 == a1_0) || (!(t158.toList == a1_1.toList) || (!(t159.toList == a1_2.toList)))) = true then ((graftagelaw15_lives.f kj22).bind fun t170 => (some t170)) else ((graftageref15_Same.f kj22 t142 l0).bind fun t171 => (if t171 = true then ((graftagelaw15_lives.f kj22).bind fun t172 => (some t172)) else (some false)))) else (if (t152 == t157 && (t153.toList == t158.toList && (t154.toList == t159.toList))) = true then (if (t155 == t160) = true then ((graftagelaw15_lives.f kj22).bind fun t173 => (some t173)) else (some false)) else (some false)))) else (some false)) else (some false))) = some r := H
       have A42 := Aside0.mk A420
       clear A420
       replace H := Option.bind_eq_some_iff.mp H
       obtain ⟨⟨t165, t166, t167, t168⟩, A430, H⟩ := H
       replace H : (if t150 = true then (if (t147 == a1_0 && (t148.toList == a1_1.toList && (t149.toList == a1_2.toList))) = true then (if t168 = true then (some false) else (if a2.toList = a1_1.toList then (if (!(t157 == a1_0) || (!(t158.toList == a1_1.toList) || (!(t159.toList == a1_2.toList)))) = true then ((graftagelaw15_lives.f kj22).bind fun t170 => (some t170)) else ((graftageref15_Same.f kj22 t142 l0).bind fun t171 => (if t171 = true then ((graftagelaw15_lives.f kj22).bind fun t172 => (some t172)) else (some false)))) else (if (t152 == t157 && (t153.toList == t158.toList && (t154.toList == t159.toList))) = true then (if (t155 == t160) = true then ((graftagelaw15_lives.f kj22).bind fun t173 => (some t173)) else (some false)) else (some false)))) else (some false)) else (some false)) = some r := H
       have A43 := Aside0.mk A430
       clear A430
       by_cases c44 : t150 = true
       ·subst c44
        have H1 : (if (t147 == a1_0 && (t148.toList == a1_1.toList && (t149.toList == a1_2.toList))) = true then (if t168 = true then (some false) else (if a2.toList = a1_1.toList then (if (!(t157 == a1_0) || (!(t158.toList == a1_1.toList) || (!(t159.toList == a1_2.toList)))) = true then ((graftagelaw15_lives.f kj22).bind fun t170 => (some t170)) else ((graftageref15_Same.f kj22 t142 l0).bind fun t171 => (if t171 = true then ((graftagelaw15_lives.f kj22).bind fun t172 => (some t172)) else (some false)))) else (if (t152 == t157 && (t153.toList == t158.toList && (t154.toList == t159.toList))) = true then (if (t155 == t160) = true then ((graftagelaw15_lives.f kj22).bind fun t173 => (some t173)) else (some false)) else (some false)))) else (some false)) = some r := by rw [if_pos rfl] at H; exact H
        clear H
        have H := H1
        clear H1
        by_cases c45 : (t147 == a1_0 && (t148.toList == a1_1.toList && (t149.toList == a1_2.toList))) = true
        ·rw [if_pos c45] at H
         have c45b0 : (t147 == a1_0 && (t148.toList == a1_1.toList && (t149.toList == a1_2.toList))) = true := c45
         (try (have c45b1 : decide (t147 = a1_0 && (t148.toList == a1_1.toList && (t149.toList == a1_2.toList))) = true := by simpa using c45))
         (try (have c45b2 : (t147 == a1_0 && (t148.toList == a1_1.toList && (t149.toList == a1_2.toList))) = true := by simpa using c45))
         clear c45
         by_cases c46 : t168 = true
         ·subst c46
          have H1 : (some false) = some r := by rw [if_pos rfl] at H; exact H
          clear H
          have H := H1
          clear H1
          exact absurd ((Option.some.inj H).trans hr_) (by simp)
         ·replace c46 := Bool.eq_false_iff.mpr c46
          subst c46
          have H1 : (if a2.toList = a1_1.toList then (if (!(t157 == a1_0) || (!(t158.toList == a1_1.toList) || (!(t159.toList == a1_2.toList)))) = true then ((graftagelaw15_lives.f kj22).bind fun t170 => (some t170)) else ((graftageref15_Same.f kj22 t142 l0).bind fun t171 => (if t171 = true then ((graftagelaw15_lives.f kj22).bind fun t172 => (some t172)) else (some false)))) else (if (t152 == t157 && (t153.toList == t158.toList && (t154.toList == t159.toList))) = true then (if (t155 == t160) = true then ((graftagelaw15_lives.f kj22).bind fun t173 => (some t173)) else (some false)) else (some false))) = some r := by rw [if_neg (show ¬ (false = true) by decide)] at H; exact H
          clear H
          have H := H1
          clear H1
          by_cases c47 : a2.toList = a1_1.toList
          ·rw [if_pos c47] at H
           have c47b0 : (a2.toList == a1_1.toList) = true := beq_iff_eq.mpr c47
           have c47b1 : (a2.toList != a1_1.toList) = false := bne_eq_false_iff_eq.mpr c47
           clear c47
           by_cases c48 : (!(t157 == a1_0) || (!(t158.toList == a1_1.toList) || (!(t159.toList == a1_2.toList)))) = true
           ·rw [if_pos c48] at H
            have c48b0 : (!(t157 == a1_0) || (!(t158.toList == a1_1.toList) || (!(t159.toList == a1_2.toList)))) = true := c48
            clear c48
            replace H := Option.bind_eq_some_iff.mp H
            obtain ⟨t170, A490, H⟩ := H
            replace H : (some t170) = some r := H
            have A49 := Aside0.mk A490
            clear A490
            obtain rfl := Option.some.inj H
            have hcz50_0 : wc.cell? ⟨gb137, 0, none⟩ = some (.int .i64 a1_0) := (blk_cell BK137.out 0).trans rfl
            have hcz50_1 : wc.cell? ⟨gb137, 1, none⟩ = some (.string a1_1) := (blk_cell BK137.out 1).trans rfl
            have hcz50_2 : wc.cell? ⟨gb137, 2, none⟩ = some (.string a1_2) := (blk_cell BK137.out 2).trans rfl
            have hfz50_0 := blk_frozen BK137.out 0
            have hfz50_1 := blk_frozen BK137.out 1
            have hfz50_2 := blk_frozen BK137.out 2
            obtain ⟨Ao51, co51, eo51⟩ := Kd.R_slice HO_7.out
            subst eo51
            try go_wp2_with (first | ((with_reducible refine gate_callee (f := 25) rfl ?_); refine goesL_ (some 60) rfl rfl Tryd.func25 (by kernel_rfl) rfl #[.slice Ao51 t142.length co51, .string a1_1] rfl (by (try simp only [List.map_toArray, List.map_cons, List.map_nil]); first | done | rfl | (simp only [List.length_drop, List.length_take]; rfl)) ?_; (with_reducible refine (tree_Find.calls kj22 _ _ t142 a1_1 t147 t148 t149 true _ ?side1 ?side2 A39.out).mono ?_); (case side1 => repeat (first | exact (Kd.R_reads' HO_7.out).2.2 | (with_reducible refine Kd.C_alloc ?_ _) | (with_reducible refine Kd.C_drewN ?_ _) | (with_reducible refine Kd.C_drew ?_))); (case side2 => exact (Kd.R_reads' HO_7.out).2.1); rintro e w52 ⟨rfl, hb⟩; refine ⟨_, rfl, ?_⟩; have n0_ := Aside0.mk (Kd.R_below (rk_ HO_7.out) hb); have n1_ := Aside0.mk (blk_below (g := gb137) (o := .cells #[.int .i64 a1_0, .string a1_1, .string a1_2] 35 (0, 0)) (bk_ BK137.out) hb); have n2_ := Aside0.mk (below_step (hs_) hb); clear HO_7; clear BK137; clear HB; have HO_7 := n0_; have BK137 := n1_; have HB := n2_; clear n0_ n1_ n2_; (try clear hb); (try clear hb2); (try clear hk); (try clear hi)) | ((with_reducible refine gate_dst (N := 8) rfl ?_); (try (refine gate_guard (by rfl) ?_; dsimp only)); refine box_event ?hg (N := 8) ?hd (cs := #[.int .i64 0, .string (⟨#[]⟩ : ByteArray), .string (⟨#[]⟩ : ByteArray)]) (t := 35) ?hr ?_; (case hd => rfl); (case hg => rfl); (case hr => first | (go_simp; done) | (go_simp; rfl)); intro gb151 hg w53 hbox hb; have n0_ := Aside0.mk (Kd.R_below (Kd.R_elderB (rk_ HO_7.out) gb151 (Nat.le_of_eq hg.symm)) hb); have n1_ := Aside0.mk (blk_below (g := gb137) (o := .cells #[.int .i64 a1_0, .string a1_1, .string a1_2] 35 (0, 0)) (bk_ BK137.out) hb); have n2_ := Aside0.mk (below_step (hs_) hb); have n3_ := Aside0.mk (hbox); have n4_ := Aside0.mk ((by rw [hg]; exact (below_size (hs_)) : w.heap.size ≤ gb151)); have n5_ := Aside0.mk ((by rw [hg]; exact (below_size (hs_)) : w.heap.size ≤ gb151)); have n6_ := Aside0.mk ((by rw [hg]; exact Nat.ne_of_lt (blk_lt (g := gb137) (o := .cells #[.int .i64 a1_0, .string a1_1, .string a1_2] 35 (0, 0)) (bk_ BK137.out)) : gb137 ≠ gb151)); have n7_ := Aside0.mk ((by rw [hg]; exact Nat.ne_of_gt (blk_lt (g := gb137) (o := .cells #[.int .i64 a1_0, .string a1_1, .string a1_2] 35 (0, 0)) (bk_ BK137.out)) : gb151 ≠ gb137)); clear HO_7; clear BK137; clear HB; have HO_7 := n0_; have BK137 := n1_; have HB := n2_; have BK151 := n3_; have GW151 := n4_; have GE151 := n5_; have NB137_151 := n6_; have NB151_137 := n7_; clear n0_ n1_ n2_ n3_ n4_ n5_ n6_ n7_; clear hb hbox hg; have hnb54 := NB151_137.out; have hnc54 := NB137_151.out; have hcz55_0 : w53.cell? ⟨gb151, 0, none⟩ = some (.int .i64 0) := (blk_cell BK151.out 0).trans rfl; have hcz55_1 : w53.cell? ⟨gb151, 1, none⟩ = some (.string (⟨#[]⟩ : ByteArray)) := (blk_cell BK151.out 1).trans rfl; have hcz55_2 : w53.cell? ⟨gb151, 2, none⟩ = some (.string (⟨#[]⟩ : ByteArray)) := (blk_cell BK151.out 2).trans rfl; have hfz55_0 := blk_frozen BK151.out 0; have hfz55_1 := blk_frozen BK151.out 1; have hfz55_2 := blk_frozen BK151.out 2) | ((with_reducible refine gate_callee (f := 25) rfl ?_); refine goesL_ (some 66) rfl rfl Tryd.func25 (by kernel_rfl) rfl #[.slice Ao51 t142.length co51, .string a2] rfl (by (try simp only [List.map_toArray, List.map_cons, List.map_nil]); first | done | rfl | (simp only [List.length_drop, List.length_take]; rfl)) ?_; (with_reducible refine (tree_Find.calls kj22 _ _ t142 a2 t152 t153 t154 t155 _ ?side1 ?side2 A40.out).mono ?_); (case side1 => refine (Kd.R_reads' (e := 35) (base := w.heap.size) (ok := fun k_ => (k_ ≠ gb137 ∧ k_ ≠ gb151)) (n := t142.length) (c := co51) ?_).2.2; exact (by (with_reducible repeat (first | apply Kd.R_alloc | apply Kd.R_drewN | apply Kd.R_drew)); exact (Kd.R_mono (Kd.R_far (p := ⟨gb151, 2, none⟩) (Kd.R_far (p := ⟨gb151, 1, none⟩) (Kd.R_far (p := ⟨gb151, 0, none⟩) (Kd.R_mono HO_7.out (fun k_ hk => (⟨hk, hk.2⟩ : _ ∧ k_ ≠ gb151))) (fun _ hk => hk.2) (.int .i64 t147)) (fun _ hk => hk.2) (.string t148)) (fun _ hk => hk.2) (.string t149)) (fun _ h_ => h_.1)))); (case side2 => exact (Kd.R_reads' HO_7.out).2.1); rintro e w56 ⟨rfl, hb⟩; refine ⟨_, rfl, ?_⟩; have n0_ := Aside0.mk (Kd.R_below (by (with_reducible repeat (first | apply Kd.R_alloc | apply Kd.R_drewN | apply Kd.R_drew)); exact (Kd.R_mono (Kd.R_far (p := ⟨gb151, 2, none⟩) (Kd.R_far (p := ⟨gb151, 1, none⟩) (Kd.R_far (p := ⟨gb151, 0, none⟩) (Kd.R_mono HO_7.out (fun k_ hk => (⟨hk, hk.2⟩ : _ ∧ k_ ≠ gb151))) (fun _ hk => hk.2) (.int .i64 t147)) (fun _ hk => hk.2) (.string t148)) (fun _ hk => hk.2) (.string t149)) (fun _ h_ => h_.1))) hb); have n1_ := Aside0.mk (blk_below (g := gb137) (o := .cells #[.int .i64 a1_0, .string a1_1, .string a1_2] 35 (0, 0)) (by (with_reducible repeat (first | refine blk_drewN ?_ _ | refine blk_drew ?_ | refine blk_alloc ?_ _)); refine blk_far ?_ NB137_151.out _; (with_reducible repeat (first | refine blk_drewN ?_ _ | refine blk_drew ?_ | refine blk_alloc ?_ _)); refine blk_far ?_ NB137_151.out _; (with_reducible repeat (first | refine blk_drewN ?_ _ | refine blk_drew ?_ | refine blk_alloc ?_ _)); refine blk_far ?_ NB137_151.out _; (with_reducible repeat (first | refine blk_drewN ?_ _ | refine blk_drew ?_ | refine blk_alloc ?_ _)); exact BK137.out) hb); have n2_ := Aside0.mk (blk_below (g := gb151) (o := .cells #[.int .i64 t147, .string t148, .string t149] 35 (0, 0)) (by (with_reducible repeat (first | refine blk_drewN ?_ _ | refine blk_drew ?_ | refine blk_alloc ?_ _)); refine blk_put (cs := #[.int .i64 t147, .string t148, .string (⟨#[]⟩ : ByteArray)]) ?_ 2 _ rfl; (with_reducible repeat (first | refine blk_drewN ?_ _ | refine blk_drew ?_ | refine blk_alloc ?_ _)); refine blk_put (cs := #[.int .i64 t147, .string (⟨#[]⟩ : ByteArray), .string (⟨#[]⟩ : ByteArray)]) ?_ 1 _ rfl; (with_reducible repeat (first | refine blk_drewN ?_ _ | refine blk_drew ?_ | refine blk_alloc ?_ _)); refine blk_put (cs := #[.int .i64 0, .string (⟨#[]⟩ : ByteArray), .string (⟨#[]⟩ : ByteArray)]) ?_ 0 _ rfl; (with_reducible repeat (first | refine blk_drewN ?_ _ | refine blk_drew ?_ | refine blk_alloc ?_ _)); exact BK151.out) hb); have n3_ := Aside0.mk (below_step (hs_) hb); clear HO_7; clear BK137; clear BK151; clear HB; have HO_7 := n0_; have BK137 := n1_; have BK151 := n2_; have HB := n3_; clear n0_ n1_ n2_ n3_; (try clear hb); (try clear hb2); (try clear hk); (try clear hi)) | ((with_reducible refine gate_dst (N := 10) rfl ?_); (try (refine gate_guard (by rfl) ?_; dsimp only)); refine box_event ?hg (N := 10) ?hd (cs := #[.int .i64 0, .string (⟨#[]⟩ : ByteArray), .string (⟨#[]⟩ : ByteArray)]) (t := 35) ?hr ?_; (case hd => rfl); (case hg => rfl); (case hr => first | (go_simp; done) | (go_simp; rfl)); intro gb156 hg w57 hbox hb; have n0_ := Aside0.mk (Kd.R_below (Kd.R_elderB (rk_ HO_7.out) gb156 (Nat.le_of_eq hg.symm)) hb); have n1_ := Aside0.mk (blk_below (g := gb137) (o := .cells #[.int .i64 a1_0, .string a1_1, .string a1_2] 35 (0, 0)) (bk_ BK137.out) hb); have n2_ := Aside0.mk (blk_below (g := gb151) (o := .cells #[.int .i64 t147, .string t148, .string t149] 35 (0, 0)) (bk_ BK151.out) hb); have n3_ := Aside0.mk (below_step (hs_) hb); have n4_ := Aside0.mk (hbox); have n5_ := Aside0.mk ((by rw [hg]; exact (below_size (hs_)) : w.heap.size ≤ gb156)); have n6_ := Aside0.mk ((by rw [hg]; exact (below_size (hs_)) : w.heap.size ≤ gb156)); have n7_ := Aside0.mk ((by rw [hg]; exact Nat.ne_of_lt (blk_lt (g := gb137) (o := .cells #[.int .i64 a1_0, .string a1_1, .string a1_2] 35 (0, 0)) (bk_ BK137.out)) : gb137 ≠ gb156)); have n8_ := Aside0.mk ((by rw [hg]; exact Nat.ne_of_gt (blk_lt (g := gb137) (o := .cells #[.int .i64 a1_0, .string a1_1, .string a1_2] 35 (0, 0)) (bk_ BK137.out)) : gb156 ≠ gb137)); have n9_ := Aside0.mk ((by rw [hg]; exact Nat.ne_of_lt (blk_lt (g := gb151) (o := .cells #[.int .i64 t147, .string t148, .string t149] 35 (0, 0)) (bk_ BK151.out)) : gb151 ≠ gb156)); have n10_ := Aside0.mk ((by rw [hg]; exact Nat.ne_of_gt (blk_lt (g := gb151) (o := .cells #[.int .i64 t147, .string t148, .string t149] 35 (0, 0)) (bk_ BK151.out)) : gb156 ≠ gb151)); clear HO_7; clear BK137; clear BK151; clear HB; have HO_7 := n0_; have BK137 := n1_; have BK151 := n2_; have HB := n3_; have BK156 := n4_; have GW156 := n5_; have GE156 := n6_; have NB137_156 := n7_; have NB156_137 := n8_; have NB151_156 := n9_; have NB156_151 := n10_; clear n0_ n1_ n2_ n3_ n4_ n5_ n6_ n7_ n8_ n9_ n10_; clear hb hbox hg; have hnb58 := NB156_137.out; have hnc58 := NB137_156.out; have hnb59 := NB156_151.out; have hnc59 := NB151_156.out; have hcz60_0 : w57.cell? ⟨gb156, 0, none⟩ = some (.int .i64 0) := (blk_cell BK156.out 0).trans rfl; have hcz60_1 : w57.cell? ⟨gb156, 1, none⟩ = some (.string (⟨#[]⟩ : ByteArray)) := (blk_cell BK156.out 1).trans rfl; have hcz60_2 : w57.cell? ⟨gb156, 2, none⟩ = some (.string (⟨#[]⟩ : ByteArray)) := (blk_cell BK156.out 2).trans rfl; have hfz60_0 := blk_frozen BK156.out 0; have hfz60_1 := blk_frozen BK156.out 1; have hfz60_2 := blk_frozen BK156.out 2) | ((with_reducible refine gate_callee (f := 25) rfl ?_); refine goesL_ (some 72) rfl rfl Tryd.func25 (by kernel_rfl) rfl #[.slice A0 l0.length c0, .string a2] rfl (by (try simp only [List.map_toArray, List.map_cons, List.map_nil]); first | done | rfl | (simp only [List.length_drop, List.length_take]; rfl)) ?_; (with_reducible refine (tree_Find.calls kj22 _ _ l0 a2 t157 t158 t159 t160 _ ?side1 ?side2 A41.out).mono ?_); (case side1 => exact Kd.C_below HR0.out (hs_)); (case side2 => exact HC0.out); rintro e w61 ⟨rfl, hb⟩; refine ⟨_, rfl, ?_⟩; have n0_ := Aside0.mk (Kd.R_below (by (with_reducible repeat (first | apply Kd.R_alloc | apply Kd.R_drewN | apply Kd.R_drew)); exact (Kd.R_mono (Kd.R_far (p := ⟨gb156, 2, none⟩) (Kd.R_far (p := ⟨gb156, 1, none⟩) (Kd.R_far (p := ⟨gb156, 0, none⟩) (Kd.R_mono HO_7.out (fun k_ hk => (⟨hk, hk.2⟩ : _ ∧ k_ ≠ gb156))) (fun _ hk => hk.2) (.int .i64 t152)) (fun _ hk => hk.2) (.string t153)) (fun _ hk => hk.2) (.string t154)) (fun _ h_ => h_.1))) hb); have n1_ := Aside0.mk (blk_below (g := gb137) (o := .cells #[.int .i64 a1_0, .string a1_1, .string a1_2] 35 (0, 0)) (by (with_reducible repeat (first | refine blk_drewN ?_ _ | refine blk_drew ?_ | refine blk_alloc ?_ _)); refine blk_far ?_ NB137_156.out _; (with_reducible repeat (first | refine blk_drewN ?_ _ | refine blk_drew ?_ | refine blk_alloc ?_ _)); refine blk_far ?_ NB137_156.out _; (with_reducible repeat (first | refine blk_drewN ?_ _ | refine blk_drew ?_ | refine blk_alloc ?_ _)); refine blk_far ?_ NB137_156.out _; (with_reducible repeat (first | refine blk_drewN ?_ _ | refine blk_drew ?_ | refine blk_alloc ?_ _)); exact BK137.out) hb); have n2_ := Aside0.mk (blk_below (g := gb151) (o := .cells #[.int .i64 t147, .string t148, .string t149] 35 (0, 0)) (by (with_reducible repeat (first | refine blk_drewN ?_ _ | refine blk_drew ?_ | refine blk_alloc ?_ _)); refine blk_far ?_ NB151_156.out _; (with_reducible repeat (first | refine blk_drewN ?_ _ | refine blk_drew ?_ | refine blk_alloc ?_ _)); refine blk_far ?_ NB151_156.out _; (with_reducible repeat (first | refine blk_drewN ?_ _ | refine blk_drew ?_ | refine blk_alloc ?_ _)); refine blk_far ?_ NB151_156.out _; (with_reducible repeat (first | refine blk_drewN ?_ _ | refine blk_drew ?_ | refine blk_alloc ?_ _)); exact BK151.out) hb); have n3_ := Aside0.mk (blk_below (g := gb156) (o := .cells #[.int .i64 t152, .string t153, .string t154] 35 (0, 0)) (by (with_reducible repeat (first | refine blk_drewN ?_ _ | refine blk_drew ?_ | refine blk_alloc ?_ _)); refine blk_put (cs := #[.int .i64 t152, .string t153, .string (⟨#[]⟩ : ByteArray)]) ?_ 2 _ rfl; (with_reducible repeat (first | refine blk_drewN ?_ _ | refine blk_drew ?_ | refine blk_alloc ?_ _)); refine blk_put (cs := #[.int .i64 t152, .string (⟨#[]⟩ : ByteArray), .string (⟨#[]⟩ : ByteArray)]) ?_ 1 _ rfl; (with_reducible repeat (first | refine blk_drewN ?_ _ | refine blk_drew ?_ | refine blk_alloc ?_ _)); refine blk_put (cs := #[.int .i64 0, .string (⟨#[]⟩ : ByteArray), .string (⟨#[]⟩ : ByteArray)]) ?_ 0 _ rfl; (with_reducible repeat (first | refine blk_drewN ?_ _ | refine blk_drew ?_ | refine blk_alloc ?_ _)); exact BK156.out) hb); have n4_ := Aside0.mk (below_step (hs_) hb); clear HO_7; clear BK137; clear BK151; clear BK156; clear HB; have HO_7 := n0_; have BK137 := n1_; have BK151 := n2_; have BK156 := n3_; have HB := n4_; clear n0_ n1_ n2_ n3_ n4_; (try clear hb); (try clear hb2); (try clear hk); (try clear hi)) | ((with_reducible refine gate_dst (N := 12) rfl ?_); (try (refine gate_guard (by rfl) ?_; dsimp only)); refine box_event ?hg (N := 12) ?hd (cs := #[.int .i64 0, .string (⟨#[]⟩ : ByteArray), .string (⟨#[]⟩ : ByteArray)]) (t := 35) ?hr ?_; (case hd => rfl); (case hg => rfl); (case hr => first | (go_simp; done) | (go_simp; rfl)); intro gb161 hg w62 hbox hb; have n0_ := Aside0.mk (Kd.R_below (Kd.R_elderB (rk_ HO_7.out) gb161 (Nat.le_of_eq hg.symm)) hb); have n1_ := Aside0.mk (blk_below (g := gb137) (o := .cells #[.int .i64 a1_0, .string a1_1, .string a1_2] 35 (0, 0)) (bk_ BK137.out) hb); have n2_ := Aside0.mk (blk_below (g := gb151) (o := .cells #[.int .i64 t147, .string t148, .string t149] 35 (0, 0)) (bk_ BK151.out) hb); have n3_ := Aside0.mk (blk_below (g := gb156) (o := .cells #[.int .i64 t152, .string t153, .string t154] 35 (0, 0)) (bk_ BK156.out) hb); have n4_ := Aside0.mk (below_step (hs_) hb); have n5_ := Aside0.mk (hbox); have n6_ := Aside0.mk ((by rw [hg]; exact (below_size (hs_)) : w.heap.size ≤ gb161)); have n7_ := Aside0.mk ((by rw [hg]; exact (below_size (hs_)) : w.heap.size ≤ gb161)); have n8_ := Aside0.mk ((by rw [hg]; exact Nat.ne_of_lt (blk_lt (g := gb137) (o := .cells #[.int .i64 a1_0, .string a1_1, .string a1_2] 35 (0, 0)) (bk_ BK137.out)) : gb137 ≠ gb161)); have n9_ := Aside0.mk ((by rw [hg]; exact Nat.ne_of_gt (blk_lt (g := gb137) (o := .cells #[.int .i64 a1_0, .string a1_1, .string a1_2] 35 (0, 0)) (bk_ BK137.out)) : gb161 ≠ gb137)); have n10_ := Aside0.mk ((by rw [hg]; exact Nat.ne_of_lt (blk_lt (g := gb151) (o := .cells #[.int .i64 t147, .string t148, .string t149] 35 (0, 0)) (bk_ BK151.out)) : gb151 ≠ gb161)); have n11_ := Aside0.mk ((by rw [hg]; exact Nat.ne_of_gt (blk_lt (g := gb151) (o := .cells #[.int .i64 t147, .string t148, .string t149] 35 (0, 0)) (bk_ BK151.out)) : gb161 ≠ gb151)); have n12_ := Aside0.mk ((by rw [hg]; exact Nat.ne_of_lt (blk_lt (g := gb156) (o := .cells #[.int .i64 t152, .string t153, .string t154] 35 (0, 0)) (bk_ BK156.out)) : gb156 ≠ gb161)); have n13_ := Aside0.mk ((by rw [hg]; exact Nat.ne_of_gt (blk_lt (g := gb156) (o := .cells #[.int .i64 t152, .string t153, .string t154] 35 (0, 0)) (bk_ BK156.out)) : gb161 ≠ gb156)); clear HO_7; clear BK137; clear BK151; clear BK156; clear HB; have HO_7 := n0_; have BK137 := n1_; have BK151 := n2_; have BK156 := n3_; have HB := n4_; have BK161 := n5_; have GW161 := n6_; have GE161 := n7_; have NB137_161 := n8_; have NB161_137 := n9_; have NB151_161 := n10_; have NB161_151 := n11_; have NB156_161 := n12_; have NB161_156 := n13_; clear n0_ n1_ n2_ n3_ n4_ n5_ n6_ n7_ n8_ n9_ n10_ n11_ n12_ n13_; clear hb hbox hg; have hnb63 := NB161_137.out; have hnc63 := NB137_161.out; have hnb64 := NB161_151.out; have hnc64 := NB151_161.out; have hnb65 := NB161_156.out; have hnc65 := NB156_161.out; have hcz66_0 : w62.cell? ⟨gb161, 0, none⟩ = some (.int .i64 0) := (blk_cell BK161.out 0).trans rfl; have hcz66_1 : w62.cell? ⟨gb161, 1, none⟩ = some (.string (⟨#[]⟩ : ByteArray)) := (blk_cell BK161.out 1).trans rfl; have hcz66_2 : w62.cell? ⟨gb161, 2, none⟩ = some (.string (⟨#[]⟩ : ByteArray)) := (blk_cell BK161.out 2).trans rfl; have hfz66_0 := blk_frozen BK161.out 0; have hfz66_1 := blk_frozen BK161.out 1; have hfz66_2 := blk_frozen BK161.out 2))
            have n0_ : Aside0 (Kd.R k35 35 (((w62.setCell ⟨gb161, 0, none⟩ (.int .i64 t157)).setCell ⟨gb161, 1, none⟩ (.string t158)).setCell ⟨gb161, 2, none⟩ (.string t159)) w.heap.size (fun k_ => k_ ≠ gb137 ∧ k_ ≠ gb151 ∧ k_ ≠ gb156 ∧ k_ ≠ gb161) (.slice Ao51 t142.length co51) t142) := ⟨by (with_reducible repeat (first | apply Kd.R_alloc | apply Kd.R_drewN | apply Kd.R_drew)); exact Kd.R_mono (Kd.R_far (p := ⟨gb161, 2, none⟩) (Kd.R_far (p := ⟨gb161, 1, none⟩) (Kd.R_far (p := ⟨gb161, 0, none⟩) (Kd.R_mono HO_7.out (fun k_ hk => (⟨hk, hk.2⟩ : _ ∧ k_ ≠ gb161))) (fun _ hk => hk.2) (.int .i64 t157)) (fun _ hk => hk.2) (.string t158)) (fun _ hk => hk.2) (.string t159)) (fun _ hk => ⟨hk.1.1.1.1, ⟨hk.1.1.1.2, ⟨hk.1.1.2, hk.1.2⟩⟩⟩)⟩
            have n1_ : Aside0 ((((w62.setCell ⟨gb161, 0, none⟩ (.int .i64 t157)).setCell ⟨gb161, 1, none⟩ (.string t158)).setCell ⟨gb161, 2, none⟩ (.string t159)).heap[gb137]? = some (.cells #[.int .i64 a1_0, .string a1_1, .string a1_2] 35 (0, 0))) := ⟨by (with_reducible repeat (first | refine blk_drewN ?_ _ | refine blk_drew ?_ | refine blk_alloc ?_ _)); refine blk_far ?_ NB137_161.out _; (with_reducible repeat (first | refine blk_drewN ?_ _ | refine blk_drew ?_ | refine blk_alloc ?_ _)); refine blk_far ?_ NB137_161.out _; (with_reducible repeat (first | refine blk_drewN ?_ _ | refine blk_drew ?_ | refine blk_alloc ?_ _)); refine blk_far ?_ NB137_161.out _; (with_reducible repeat (first | refine blk_drewN ?_ _ | refine blk_drew ?_ | refine blk_alloc ?_ _)); exact BK137.out⟩
            have n2_ : Aside0 ((((w62.setCell ⟨gb161, 0, none⟩ (.int .i64 t157)).setCell ⟨gb161, 1, none⟩ (.string t158)).setCell ⟨gb161, 2, none⟩ (.string t159)).heap[gb151]? = some (.cells #[.int .i64 t147, .string t148, .string t149] 35 (0, 0))) := ⟨by (with_reducible repeat (first | refine blk_drewN ?_ _ | refine blk_drew ?_ | refine blk_alloc ?_ _)); refine blk_far ?_ NB151_161.out _; (with_reducible repeat (first | refine blk_drewN ?_ _ | refine blk_drew ?_ | refine blk_alloc ?_ _)); refine blk_far ?_ NB151_161.out _; (with_reducible repeat (first | refine blk_drewN ?_ _ | refine blk_drew ?_ | refine blk_alloc ?_ _)); refine blk_far ?_ NB151_161.out _; (with_reducible repeat (first | refine blk_drewN ?_ _ | refine blk_drew ?_ | refine blk_alloc ?_ _)); exact BK151.out⟩
            have n3_ : Aside0 ((((w62.setCell ⟨gb161, 0, none⟩ (.int .i64 t157)).setCell ⟨gb161, 1, none⟩ (.string t158)).setCell ⟨gb161, 2, none⟩ (.string t159)).heap[gb156]? = some (.cells #[.int .i64 t152, .string t153, .string t154] 35 (0, 0))) := ⟨by (with_reducible repeat (first | refine blk_drewN ?_ _ | refine blk_drew ?_ | refine blk_alloc ?_ _)); refine blk_far ?_ NB156_161.out _; (with_reducible repeat (first | refine blk_drewN ?_ _ | refine blk_drew ?_ | refine blk_alloc ?_ _)); refine blk_far ?_ NB156_161.out _; (with_reducible repeat (first | refine blk_drewN ?_ _ | refine blk_drew ?_ | refine blk_alloc ?_ _)); refine blk_far ?_ NB156_161.out _; (with_reducible repeat (first | refine blk_drewN ?_ _ | refine blk_drew ?_ | refine blk_alloc ?_ _)); exact BK156.out⟩
            have n4_ : Aside0 ((((w62.setCell ⟨gb161, 0, none⟩ (.int .i64 t157)).setCell ⟨gb161, 1, none⟩ (.string t158)).setCell ⟨gb161, 2, none⟩ (.string t159)).heap[gb161]? = some (.cells #[.int .i64 t157, .string t158, .string t159] 35 (0, 0))) := ⟨by (with_reducible repeat (first | refine blk_drewN ?_ _ | refine blk_drew ?_ | refine blk_alloc ?_ _)); refine blk_put (cs := #[.int .i64 t157, .string t158, .string (⟨#[]⟩ : ByteArray)]) ?_ 2 _ rfl; (with_reducible repeat (first | refine blk_drewN ?_ _ | refine blk_drew ?_ | refine blk_alloc ?_ _)); refine blk_put (cs := #[.int .i64 t157, .string (⟨#[]⟩ : ByteArray), .string (⟨#[]⟩ : ByteArray)]) ?_ 1 _ rfl; (with_reducible repeat (first | refine blk_drewN ?_ _ | refine blk_drew ?_ | refine blk_alloc ?_ _)); refine blk_put (cs := #[.int .i64 0, .string (⟨#[]⟩ : ByteArray), .string (⟨#[]⟩ : ByteArray)]) ?_ 0 _ rfl; (with_reducible repeat (first | refine blk_drewN ?_ _ | refine blk_drew ?_ | refine blk_alloc ?_ _)); exact BK161.out⟩
            have n5_ : Aside0 (Below w.heap.size w (((w62.setCell ⟨gb161, 0, none⟩ (.int .i64 t157)).setCell ⟨gb161, 1, none⟩ (.string t158)).setCell ⟨gb161, 2, none⟩ (.string t159))) := ⟨hs_⟩
            (try clear HO_7)
            (try clear BK137)
            (try clear BK151)
            (try clear BK156)
            (try clear BK161)
            (try clear HB)
            generalize (((w62.setCell ⟨gb161, 0, none⟩ (.int .i64 t157)).setCell ⟨gb161, 1, none⟩ (.string t158)).setCell ⟨gb161, 2, none⟩ (.string t159)) = w67 at n0_ n1_ n2_ n3_ n4_ n5_ ⊢
            have HO_7 := n0_
            have BK137 := n1_
            have BK151 := n2_
            have BK156 := n3_
            have BK161 := n4_
            have HB := n5_
            clear n0_ n1_ n2_ n3_ n4_ n5_
            have n0_ := Aside0.mk (Kd.R_drew HO_7.out)
            have n1_ := Aside0.mk (blk_drew BK137.out)
            have n2_ := Aside0.mk (blk_drew BK151.out)
            have n3_ := Aside0.mk (blk_drew BK156.out)
            have n4_ := Aside0.mk (blk_drew BK161.out)
            have n5_ := Aside0.mk (below_drew1 HB.out)
            clear HO_7
            clear BK137
            clear BK151
            clear BK156
            clear BK161
            clear HB
            have HO_7 := n0_
            have BK137 := n1_
            have BK151 := n2_
            have BK156 := n3_
            have BK161 := n4_
            have HB := n5_
            clear n0_ n1_ n2_ n3_ n4_ n5_
            refine start_ (n := 13) (S := fun w' => w'.cell? ⟨gb137, 0, none⟩ = some (.int .i64 a1_0) ∧ w'.cell? ⟨gb137, 1, none⟩ = some (.string a1_1) ∧ w'.cell? ⟨gb137, 2, none⟩ = some (.string a1_2)) (ds := []) #[false, false, false, false, false, false, false, false, false, false, false, false, false] (by kernel_rfl) rfl rfl ⟨(blk_cell BK137.out 0).trans rfl, (blk_cell BK137.out 1).trans rfl, (blk_cell BK137.out 2).trans rfl⟩ (fun hHeld => ?_); refine with_tabW graftagelaw15_TreePut.tab9 graftagelaw15_TreePut.bits9 (fun HT_ HW_ => ?_)
            generalize w67.drew = w68 at HO_7 BK137 BK151 BK156 BK161 HB hHeld ⊢
            refine pure_ (i := 0) (N := some 76) (v := ?_) (a' := ?_) #[true, false, false, false, false, false, false, false, false, false, false, false, false] rfl rfl (any_of HT_.out (by kernel_rfl)) (fun _ _ _ h => h) (Or.inl ⟨by rfl, ?_⟩) ?_ ?_
            rotate_left
            ·intro w'
             go_simp
             with_reducible rfl
            rotate_left
            ·simp only [Act.put, List.setIfInBounds_toArray, List.set_cons_zero, List.set_cons_succ, i64_w, i32_w]
             rfl
            refine pure_ (i := 1) (N := some 77) (v := ?_) (a' := ?_) #[true, true, false, false, false, false, false, false, false, false, false, false, false] rfl rfl (any_of HT_.out (by kernel_rfl)) (fun _ _ _ h => h) (Or.inl ⟨by rfl, ?_⟩) ?_ ?_
            rotate_left
            ·intro w'
             go_simp
             with_reducible rfl
            rotate_left
            ·simp only [Act.put, List.setIfInBounds_toArray, List.set_cons_zero, List.set_cons_succ, i64_w, i32_w]
             rfl
            refine pure_ (i := 4) (N := some 80) (v := ?_) (a' := ?_) #[true, true, false, false, true, false, false, false, false, false, false, false, false] rfl rfl (any_of HT_.out (by kernel_rfl)) (fun _ _ _ h => h) (Or.inl ⟨by rfl, ?_⟩) ?_ ?_
            rotate_left
            ·intro w'
             go_simp
             with_reducible rfl
            rotate_left
            ·simp only [Act.put, List.setIfInBounds_toArray, List.set_cons_zero, List.set_cons_succ, i64_w, i32_w]
             rfl
            refine take_ (i := 2) (N := some 78) (v := ?_) (a' := ?_) #[true, true, true, false, true, false, false, false, false, false, false, false, false] rfl rfl (take_ofW HT_.out HW_.out (by kernel_rfl)) (fun _ _ _ h => h) (Or.inl ⟨by rfl, ?_⟩) hHeld ?_ ?_
            rotate_left
            ·rintro w' ⟨s0, s1, s2⟩
             go_simp
             with_reducible rfl
            rotate_left
            ·simp only [Act.put, List.setIfInBounds_toArray, List.set_cons_zero, List.set_cons_succ, i64_w, i32_w]
             rfl
            refine take_ (i := 5) (N := some 81) (v := ?_) (a' := ?_) #[true, true, true, false, true, true, false, false, false, false, false, false, false] rfl rfl (take_ofW HT_.out HW_.out (by kernel_rfl)) (fun _ _ _ h => h) (Or.inl ⟨by rfl, ?_⟩) hHeld ?_ ?_
            rotate_left
            ·rintro w' ⟨s0, s1, s2⟩
             go_simp
             with_reducible rfl
            rotate_left
            ·simp only [Act.put, List.setIfInBounds_toArray, List.set_cons_zero, List.set_cons_succ, i64_w, i32_w]
             rfl
            refine join_ (σ := Value × Nat) 2 #[true, true, true, true, true, true, true, true, true, true, true, false, false] (fun s_ => [(79, s_.1), (82, .tuple #[.agg #[.int .i64 t165, .string t166, .string t167], .bool false]), (14, .pointer (some ⟨s_.2, 0, none⟩)), (75, .tuple #[.agg #[.int .i64 t165, .string t166, .string t167], .bool false]), (83, .agg #[.int .i64 t165, .string t166, .string t167]), (84, .bool false)]) (fun s_ w' => (w'.cell? ⟨gb137, 0, none⟩ = some (.int .i64 a1_0) ∧ w'.cell? ⟨gb137, 1, none⟩ = some (.string a1_1) ∧ w'.cell? ⟨gb137, 2, none⟩ = some (.string a1_2)) ∧ (Kd.R k35 35 w' w.heap.size (fun k_ => some k_ ≠ (.slice Ao51 t142.length co51 : Value).ownBlock ∧ k_ ≠ gb137 ∧ k_ ≠ gb151 ∧ k_ ≠ gb156 ∧ k_ ≠ gb161 ∧ k_ ≠ s_.2) s_.1 t162) ∧ (Kd.R k35 35 w' w.heap.size (fun k_ => some k_ ≠ (s_.1 : Value).ownBlock ∧ k_ ≠ gb137 ∧ k_ ≠ gb151 ∧ k_ ≠ gb156 ∧ k_ ≠ gb161 ∧ k_ ≠ s_.2) (.slice Ao51 t142.length co51) t142) ∧ (w'.heap[gb137]? = some (.cells #[.int .i64 a1_0, .string a1_1, .string a1_2] 35 (0, 0))) ∧ (w'.heap[gb151]? = some (.cells #[.int .i64 t147, .string t148, .string t149] 35 (0, 0))) ∧ (w'.heap[gb156]? = some (.cells #[.int .i64 t152, .string t153, .string t154] 35 (0, 0))) ∧ (w'.heap[gb161]? = some (.cells #[.int .i64 t157, .string t158, .string t159] 35 (0, 0))) ∧ (w'.heap[s_.2]? = some (.cells #[.int .i64 0, .string (⟨#[]⟩ : ByteArray), .string (⟨#[]⟩ : ByteArray)] 35 (0, 0))) ∧ (w.heap.size ≤ s_.2) ∧ (w.heap.size ≤ s_.2) ∧ (gb137 ≠ s_.2) ∧ (s_.2 ≠ gb137) ∧ (gb151 ≠ s_.2) ∧ (s_.2 ≠ gb151) ∧ (gb156 ≠ s_.2) ∧ (s_.2 ≠ gb156) ∧ (gb161 ≠ s_.2) ∧ (s_.2 ≠ gb161) ∧ (Below w.heap.size w w')) ?_ ?_
            rotate_left
            ·intro hCont
             refine two_ (i := 3) (j := 10) (Ni := some 79) (Nj := some 14) #[true, true, true, true, true, true, false, false, false, false, false, false, false] #[true, true, true, false, true, true, false, false, false, false, true, false, false] rfl rfl rfl rfl (two_of HT_.out (by kernel_rfl)) (by decide) (by decide) (fun K hK => ?_) (fun K hK => ?_)
             ·skip
              refine goes_ Tryd.func30 (by kernel_rfl) rfl #[.slice Ao51 t142.length co51, .string a1_1] (by rfl) rfl rfl (by (try simp only [List.map_toArray, List.map_cons, List.map_nil]); first | done | rfl | (simp only [List.length_drop, List.length_take]; rfl)) ?_
              with_reducible refine (tree_Drop.calls kj22 _ _ t142 a1_1 t162 _ ?side1 ?side2 A42.out).mono ?_
              (case side1 => repeat (first | exact (Kd.R_reads' HO_7.out).2.2 | (with_reducible refine Kd.C_alloc ?_ _) | (with_reducible refine Kd.C_drewN ?_ _) | (with_reducible refine Kd.C_drew ?_)))
              (case side2 => exact (Kd.R_reads' HO_7.out).2.1)
              rintro e w69 ⟨v163, rfl, ho0, hb⟩
              refine ⟨_, rfl, ?_⟩
              have n0_ := Aside0.mk (Kd.R_elder' (rk_ HO_7.out) (Kd.R_base ho0) hb)
              have n1_ := Aside0.mk (Kd.R_lower (Kd.R_newB (Kd.R_newB (Kd.R_newB (Kd.R_newB (Kd.R_new' ho0 (Kd.R_lt (rk_ HO_7.out))) (g := gb137) (o := .cells #[.int .i64 a1_0, .string a1_1, .string a1_2] 35 (0, 0)) (bk_ BK137.out)) (g := gb151) (o := .cells #[.int .i64 t147, .string t148, .string t149] 35 (0, 0)) (bk_ BK151.out)) (g := gb156) (o := .cells #[.int .i64 t152, .string t153, .string t154] 35 (0, 0)) (bk_ BK156.out)) (g := gb161) (o := .cells #[.int .i64 t157, .string t158, .string t159] 35 (0, 0)) (bk_ BK161.out)) (below_size (hs_)))
              have n2_ := Aside0.mk (blk_below (g := gb137) (o := .cells #[.int .i64 a1_0, .string a1_1, .string a1_2] 35 (0, 0)) (bk_ BK137.out) hb)
              have n3_ := Aside0.mk (blk_below (g := gb151) (o := .cells #[.int .i64 t147, .string t148, .string t149] 35 (0, 0)) (bk_ BK151.out) hb)
              have n4_ := Aside0.mk (blk_below (g := gb156) (o := .cells #[.int .i64 t152, .string t153, .string t154] 35 (0, 0)) (bk_ BK156.out) hb)
              have n5_ := Aside0.mk (blk_below (g := gb161) (o := .cells #[.int .i64 t157, .string t158, .string t159] 35 (0, 0)) (bk_ BK161.out) hb)
              have n6_ := Aside0.mk (below_step (hs_) hb)
              clear HO_7
              clear BK137
              clear BK151
              clear BK156
              clear BK161
              clear HB
              have HO_7 := n0_
              have HO164 := n1_
              have BK137 := n2_
              have BK151 := n3_
              have BK156 := n4_
              have BK161 := n5_
              have HB := n6_
              clear n0_ n1_ n2_ n3_ n4_ n5_ n6_
              (try clear hb)
              (try clear hb2)
              (try clear hk)
              (try clear hi)
              (try clear ho0)
              obtain ⟨Ao70, co70, eo70⟩ := Kd.R_slice HO164.out
              (first | subst eo70 | (injection eo70 with f1_ f2_ f3_; have f4_ := f1_.symm; have f5_ := f3_.symm; clear f1_ f2_ f3_; subst f4_; subst f5_))
              refine hK.out _ _ ⟨(blk_cell BK137.out 0).trans rfl, (blk_cell BK137.out 1).trans rfl, (blk_cell BK137.out 2).trans rfl⟩ (fun hHeld => ?_)
              clear hK K
              refine norm_ (a' := ?_) ?_ ?_
              rotate_left
              ·show Act.put _ (some 79) _ = _
               simp only [Act.put, List.setIfInBounds_toArray, List.set_cons_zero, List.set_cons_succ, i64_w, i32_w]
               rfl
              refine two_ (i := 6) (j := 10) (Ni := some 82) (Nj := some 14) #[true, true, true, true, true, true, true, false, false, false, false, false, false] #[true, true, true, true, true, true, false, false, false, false, true, false, false] rfl rfl rfl rfl (two_of HT_.out (by kernel_rfl)) (by decide) (by decide) (fun K hK => ?_) (fun K hK => ?_)
              ·skip
               refine goes_ Tryd.func25 (by kernel_rfl) rfl #[.slice Ao70 t162.length co70, .string a1_1] (by rfl) rfl rfl (by (try simp only [List.map_toArray, List.map_cons, List.map_nil]); first | done | rfl | (simp only [List.length_drop, List.length_take]; rfl)) ?_
               with_reducible refine (tree_Find.calls kj22 _ _ t162 a1_1 t165 t166 t167 false _ ?side1 ?side2 A43.out).mono ?_
               (case side1 => repeat (first | exact (Kd.R_reads' HO164.out).2.2 | (with_reducible refine Kd.C_alloc ?_ _) | (with_reducible refine Kd.C_drewN ?_ _) | (with_reducible refine Kd.C_drew ?_)))
               (case side2 => exact (Kd.R_reads' HO164.out).2.1)
               rintro e w71 ⟨rfl, hb⟩
               refine ⟨_, rfl, ?_⟩
               have n0_ := Aside0.mk (Kd.R_below (rk_ HO_7.out) hb)
               have n1_ := Aside0.mk (Kd.R_below (rk_ HO164.out) hb)
               have n2_ := Aside0.mk (blk_below (g := gb137) (o := .cells #[.int .i64 a1_0, .string a1_1, .string a1_2] 35 (0, 0)) (bk_ BK137.out) hb)
               have n3_ := Aside0.mk (blk_below (g := gb151) (o := .cells #[.int .i64 t147, .string t148, .string t149] 35 (0, 0)) (bk_ BK151.out) hb)
               have n4_ := Aside0.mk (blk_below (g := gb156) (o := .cells #[.int .i64 t152, .string t153, .string t154] 35 (0, 0)) (bk_ BK156.out) hb)
               have n5_ := Aside0.mk (blk_below (g := gb161) (o := .cells #[.int .i64 t157, .string t158, .string t159] 35 (0, 0)) (bk_ BK161.out) hb)
               have n6_ := Aside0.mk (below_step (hs_) hb)
               clear HO_7
               clear HO164
               clear BK137
               clear BK151
               clear BK156
               clear BK161
               clear HB
               have HO_7 := n0_
               have HO164 := n1_
               have BK137 := n2_
               have BK151 := n3_
               have BK156 := n4_
               have BK161 := n5_
               have HB := n6_
               clear n0_ n1_ n2_ n3_ n4_ n5_ n6_
               (try clear hb)
               (try clear hb2)
               (try clear hk)
               (try clear hi)
               refine hK.out _ _ ⟨(blk_cell BK137.out 0).trans rfl, (blk_cell BK137.out 1).trans rfl, (blk_cell BK137.out 2).trans rfl⟩ (fun hHeld => ?_)
               clear hK K
               refine norm_ (a' := ?_) ?_ ?_
               rotate_left
               ·show Act.put _ (some 82) _ = _
                simp only [Act.put, List.setIfInBounds_toArray, List.set_cons_zero, List.set_cons_succ, i64_w, i32_w]
                rfl
               refine pure_ (i := 7) (N := some 75) (v := ?_) (a' := ?_) #[true, true, true, true, true, true, true, true, false, false, false, false, false] rfl rfl (any_of HT_.out (by kernel_rfl)) (fun _ _ _ h => h) (Or.inl ⟨by rfl, ?_⟩) ?_ ?_
               rotate_left
               ·intro w'
                go_simp
                with_reducible rfl
               rotate_left
               ·simp only [Act.put, List.setIfInBounds_toArray, List.set_cons_zero, List.set_cons_succ, i64_w, i32_w]
                rfl
               refine pure_ (i := 8) (N := some 83) (v := ?_) (a' := ?_) #[true, true, true, true, true, true, true, true, true, false, false, false, false] rfl rfl (any_of HT_.out (by kernel_rfl)) (fun _ _ _ h => h) (Or.inl ⟨by rfl, ?_⟩) ?_ ?_
               rotate_left
               ·intro w'
                go_simp
                with_reducible rfl
               rotate_left
               ·simp only [Act.put, List.setIfInBounds_toArray, List.set_cons_zero, List.set_cons_succ, i64_w, i32_w]
                rfl
               refine pure_ (i := 9) (N := some 84) (v := ?_) (a' := ?_) #[true, true, true, true, true, true, true, true, true, true, false, false, false] rfl rfl (any_of HT_.out (by kernel_rfl)) (fun _ _ _ h => h) (Or.inl ⟨by rfl, ?_⟩) ?_ ?_
               rotate_left
               ·intro w'
                go_simp
                with_reducible rfl
               rotate_left
               ·simp only [Act.put, List.setIfInBounds_toArray, List.set_cons_zero, List.set_cons_succ, i64_w, i32_w]
                rfl
               refine one_ (i := 10) (N := some 14) #[true, true, true, true, true, true, true, true, true, true, true, false, false] rfl rfl (one_of HT_.out (by kernel_rfl)) (by decide) (fun K hK => ?_)
               refine box_step ?hg (N := 14) ?hd (cs := #[.int .i64 0, .string (⟨#[]⟩ : ByteArray), .string (⟨#[]⟩ : ByteArray)]) (t := 35) ?hr ?_; (case hd => rfl); (case hg => rfl); (case hr => first | (go_simp; done) | (go_simp; rfl))
               intro gb169 hg w72 hbox hb
               have n0_ := Aside0.mk (Kd.R_below (Kd.R_elderB (rk_ HO_7.out) gb169 (Nat.le_of_eq hg.symm)) hb)
               have n1_ := Aside0.mk (Kd.R_below (Kd.R_elderB (rk_ HO164.out) gb169 (Nat.le_of_eq hg.symm)) hb)
               have n2_ := Aside0.mk (blk_below (g := gb137) (o := .cells #[.int .i64 a1_0, .string a1_1, .string a1_2] 35 (0, 0)) (bk_ BK137.out) hb)
               have n3_ := Aside0.mk (blk_below (g := gb151) (o := .cells #[.int .i64 t147, .string t148, .string t149] 35 (0, 0)) (bk_ BK151.out) hb)
               have n4_ := Aside0.mk (blk_below (g := gb156) (o := .cells #[.int .i64 t152, .string t153, .string t154] 35 (0, 0)) (bk_ BK156.out) hb)
               have n5_ := Aside0.mk (blk_below (g := gb161) (o := .cells #[.int .i64 t157, .string t158, .string t159] 35 (0, 0)) (bk_ BK161.out) hb)
               have n6_ := Aside0.mk (below_step (hs_) hb)
               have n7_ := Aside0.mk (hbox)
               have n8_ := Aside0.mk ((by rw [hg]; exact (below_size (hs_)) : w.heap.size ≤ gb169))
               have n9_ := Aside0.mk ((by rw [hg]; exact (below_size (hs_)) : w.heap.size ≤ gb169))
               have n10_ := Aside0.mk ((by rw [hg]; exact Nat.ne_of_lt (blk_lt (g := gb137) (o := .cells #[.int .i64 a1_0, .string a1_1, .string a1_2] 35 (0, 0)) (bk_ BK137.out)) : gb137 ≠ gb169))
               have n11_ := Aside0.mk ((by rw [hg]; exact Nat.ne_of_gt (blk_lt (g := gb137) (o := .cells #[.int .i64 a1_0, .string a1_1, .string a1_2] 35 (0, 0)) (bk_ BK137.out)) : gb169 ≠ gb137))
               have n12_ := Aside0.mk ((by rw [hg]; exact Nat.ne_of_lt (blk_lt (g := gb151) (o := .cells #[.int .i64 t147, .string t148, .string t149] 35 (0, 0)) (bk_ BK151.out)) : gb151 ≠ gb169))
               have n13_ := Aside0.mk ((by rw [hg]; exact Nat.ne_of_gt (blk_lt (g := gb151) (o := .cells #[.int .i64 t147, .string t148, .string t149] 35 (0, 0)) (bk_ BK151.out)) : gb169 ≠ gb151))
               have n14_ := Aside0.mk ((by rw [hg]; exact Nat.ne_of_lt (blk_lt (g := gb156) (o := .cells #[.int .i64 t152, .string t153, .string t154] 35 (0, 0)) (bk_ BK156.out)) : gb156 ≠ gb169))
               have n15_ := Aside0.mk ((by rw [hg]; exact Nat.ne_of_gt (blk_lt (g := gb156) (o := .cells #[.int .i64 t152, .string t153, .string t154] 35 (0, 0)) (bk_ BK156.out)) : gb169 ≠ gb156))
               have n16_ := Aside0.mk ((by rw [hg]; exact Nat.ne_of_lt (blk_lt (g := gb161) (o := .cells #[.int .i64 t157, .string t158, .string t159] 35 (0, 0)) (bk_ BK161.out)) : gb161 ≠ gb169))
               have n17_ := Aside0.mk ((by rw [hg]; exact Nat.ne_of_gt (blk_lt (g := gb161) (o := .cells #[.int .i64 t157, .string t158, .string t159] 35 (0, 0)) (bk_ BK161.out)) : gb169 ≠ gb161))
               clear HO_7
               clear HO164
               clear BK137
               clear BK151
               clear BK156
               clear BK161
               clear HB
               have HO_7 := n0_
               have HO164 := n1_
               have BK137 := n2_
               have BK151 := n3_
               have BK156 := n4_
               have BK161 := n5_
               have HB := n6_
               have BK169 := n7_
               have GW169 := n8_
               have GE169 := n9_
               have NB137_169 := n10_
               have NB169_137 := n11_
               have NB151_169 := n12_
               have NB169_151 := n13_
               have NB156_169 := n14_
               have NB169_156 := n15_
               have NB161_169 := n16_
               have NB169_161 := n17_
               clear n0_ n1_ n2_ n3_ n4_ n5_ n6_ n7_ n8_ n9_ n10_ n11_ n12_ n13_ n14_ n15_ n16_ n17_
               clear hb hbox hg
               refine hK.out _ _ ⟨(blk_cell BK137.out 0).trans rfl, (blk_cell BK137.out 1).trans rfl, (blk_cell BK137.out 2).trans rfl⟩ (fun hHeld => ?_)
               clear hK K
               refine norm_ (a' := ?_) ?_ ?_
               rotate_left
               ·show Act.put _ (some 14) _ = _
                simp only [Act.put, List.setIfInBounds_toArray, List.set_cons_zero, List.set_cons_succ, i64_w, i32_w]
                rfl
               exact norm_ (by simp only [putAll, Act.put, List.setIfInBounds_toArray, List.set_cons_zero, List.set_cons_succ]) (hCont (.slice Ao70 t162.length co70, gb169) _ ⟨hHeld, (by (with_reducible repeat (first | apply Kd.R_alloc | apply Kd.R_drewN | apply Kd.R_drew)); exact Kd.R_mono HO164.out (fun _ hk => ⟨hk.1.1.1.1.1.2, ⟨hk.1.1.1.1.2, ⟨hk.1.1.1.2, ⟨hk.1.1.2, ⟨hk.1.2, hk.2⟩⟩⟩⟩⟩)), (by (with_reducible repeat (first | apply Kd.R_alloc | apply Kd.R_drewN | apply Kd.R_drew)); exact Kd.R_mono HO_7.out (fun _ hk => ⟨hk.1.2, ⟨hk.1.1.1, ⟨hk.1.1.2.1, ⟨hk.1.1.2.2.1, ⟨hk.1.1.2.2.2, hk.2⟩⟩⟩⟩⟩)), (bk_ BK137.out), (bk_ BK151.out), (bk_ BK156.out), (bk_ BK161.out), (bk_ BK169.out), GW169.out, GE169.out, NB137_169.out, NB169_137.out, NB151_169.out, NB169_151.out, NB156_169.out, NB169_156.out, NB161_169.out, NB169_161.out, (hs_)⟩)
              ·skip
               refine box_step ?hg (N := 14) ?hd (cs := #[.int .i64 0, .string (⟨#[]⟩ : ByteArray), .string (⟨#[]⟩ : ByteArray)]) (t := 35) ?hr ?_; (case hd => rfl); (case hg => rfl); (case hr => first | (go_simp; done) | (go_simp; rfl))
               intro gb169 hg w70 hbox hb
               have n0_ := Aside0.mk (Kd.R_below (Kd.R_elderB (rk_ HO_7.out) gb169 (Nat.le_of_eq hg.symm)) hb)
               have n1_ := Aside0.mk (Kd.R_below (Kd.R_elderB (rk_ HO164.out) gb169 (Nat.le_of_eq hg.symm)) hb)
               have n2_ := Aside0.mk (blk_below (g := gb137) (o := .cells #[.int .i64 a1_0, .string a1_1, .string a1_2] 35 (0, 0)) (bk_ BK137.out) hb)
               have n3_ := Aside0.mk (blk_below (g := gb151) (o := .cells #[.int .i64 t147, .string t148, .string t149] 35 (0, 0)) (bk_ BK151.out) hb)
               have n4_ := Aside0.mk (blk_below (g := gb156) (o := .cells #[.int .i64 t152, .string t153, .string t154] 35 (0, 0)) (bk_ BK156.out) hb)
               have n5_ := Aside0.mk (blk_below (g := gb161) (o := .cells #[.int .i64 t157, .string t158, .string t159] 35 (0, 0)) (bk_ BK161.out) hb)
               have n6_ := Aside0.mk (below_step (hs_) hb)
               have n7_ := Aside0.mk (hbox)
               have n8_ := Aside0.mk ((by rw [hg]; exact (below_size (hs_)) : w.heap.size ≤ gb169))
               have n9_ := Aside0.mk ((by rw [hg]; exact (below_size (hs_)) : w.heap.size ≤ gb169))
               have n10_ := Aside0.mk ((by rw [hg]; exact Nat.ne_of_lt (blk_lt (g := gb137) (o := .cells #[.int .i64 a1_0, .string a1_1, .string a1_2] 35 (0, 0)) (bk_ BK137.out)) : gb137 ≠ gb169))
               have n11_ := Aside0.mk ((by rw [hg]; exact Nat.ne_of_gt (blk_lt (g := gb137) (o := .cells #[.int .i64 a1_0, .string a1_1, .string a1_2] 35 (0, 0)) (bk_ BK137.out)) : gb169 ≠ gb137))
               have n12_ := Aside0.mk ((by rw [hg]; exact Nat.ne_of_lt (blk_lt (g := gb151) (o := .cells #[.int .i64 t147, .string t148, .string t149] 35 (0, 0)) (bk_ BK151.out)) : gb151 ≠ gb169))
               have n13_ := Aside0.mk ((by rw [hg]; exact Nat.ne_of_gt (blk_lt (g := gb151) (o := .cells #[.int .i64 t147, .string t148, .string t149] 35 (0, 0)) (bk_ BK151.out)) : gb169 ≠ gb151))
               have n14_ := Aside0.mk ((by rw [hg]; exact Nat.ne_of_lt (blk_lt (g := gb156) (o := .cells #[.int .i64 t152, .string t153, .string t154] 35 (0, 0)) (bk_ BK156.out)) : gb156 ≠ gb169))
               have n15_ := Aside0.mk ((by rw [hg]; exact Nat.ne_of_gt (blk_lt (g := gb156) (o := .cells #[.int .i64 t152, .string t153, .string t154] 35 (0, 0)) (bk_ BK156.out)) : gb169 ≠ gb156))
               have n16_ := Aside0.mk ((by rw [hg]; exact Nat.ne_of_lt (blk_lt (g := gb161) (o := .cells #[.int .i64 t157, .string t158, .string t159] 35 (0, 0)) (bk_ BK161.out)) : gb161 ≠ gb169))
               have n17_ := Aside0.mk ((by rw [hg]; exact Nat.ne_of_gt (blk_lt (g := gb161) (o := .cells #[.int .i64 t157, .string t158, .string t159] 35 (0, 0)) (bk_ BK161.out)) : gb169 ≠ gb161))
               clear HO_7
               clear HO164
               clear BK137
               clear BK151
               clear BK156
               clear BK161
               clear HB
               have HO_7 := n0_
               have HO164 := n1_
               have BK137 := n2_
               have BK151 := n3_
               have BK156 := n4_
               have BK161 := n5_
               have HB := n6_
               have BK169 := n7_
               have GW169 := n8_
               have GE169 := n9_
               have NB137_169 := n10_
               have NB169_137 := n11_
               have NB151_169 := n12_
               have NB169_151 := n13_
               have NB156_169 := n14_
               have NB169_156 := n15_
               have NB161_169 := n16_
               have NB169_161 := n17_
               clear n0_ n1_ n2_ n3_ n4_ n5_ n6_ n7_ n8_ n9_ n10_ n11_ n12_ n13_ n14_ n15_ n16_ n17_
               clear hb hbox hg
               obtain ⟨Ao71, co71, eo71⟩ := Kd.R_slice HO164.out
               (first | subst eo71 | (injection eo71 with f1_ f2_ f3_; have f4_ := f1_.symm; have f5_ := f3_.symm; clear f1_ f2_ f3_; subst f4_; subst f5_))
               refine hK.out _ _ ⟨(blk_cell BK137.out 0).trans rfl, (blk_cell BK137.out 1).trans rfl, (blk_cell BK137.out 2).trans rfl⟩ (fun hHeld => ?_)
               clear hK K
               refine norm_ (a' := ?_) ?_ ?_
               rotate_left
               ·show Act.put _ (some 14) _ = _
                simp only [Act.put, List.setIfInBounds_toArray, List.set_cons_zero, List.set_cons_succ, i64_w, i32_w]
                rfl
               refine one_ (i := 6) (N := some 82) #[true, true, true, true, true, true, true, false, false, false, true, false, false] rfl rfl (one_of HT_.out (by kernel_rfl)) (by decide) (fun K hK => ?_)
               refine goes_ Tryd.func25 (by kernel_rfl) rfl #[.slice Ao71 t162.length co71, .string a1_1] (by rfl) rfl rfl (by (try simp only [List.map_toArray, List.map_cons, List.map_nil]); first | done | rfl | (simp only [List.length_drop, List.length_take]; rfl)) ?_
               with_reducible refine (tree_Find.calls kj22 _ _ t162 a1_1 t165 t166 t167 false _ ?side1 ?side2 A43.out).mono ?_
               (case side1 => repeat (first | exact (Kd.R_reads' HO164.out).2.2 | (with_reducible refine Kd.C_alloc ?_ _) | (with_reducible refine Kd.C_drewN ?_ _) | (with_reducible refine Kd.C_drew ?_)))
               (case side2 => exact (Kd.R_reads' HO164.out).2.1)
               rintro e w72 ⟨rfl, hb⟩
               refine ⟨_, rfl, ?_⟩
               have n0_ := Aside0.mk (Kd.R_below (rk_ HO_7.out) hb)
               have n1_ := Aside0.mk (Kd.R_below (rk_ HO164.out) hb)
               have n2_ := Aside0.mk (blk_below (g := gb137) (o := .cells #[.int .i64 a1_0, .string a1_1, .string a1_2] 35 (0, 0)) (bk_ BK137.out) hb)
               have n3_ := Aside0.mk (blk_below (g := gb151) (o := .cells #[.int .i64 t147, .string t148, .string t149] 35 (0, 0)) (bk_ BK151.out) hb)
               have n4_ := Aside0.mk (blk_below (g := gb156) (o := .cells #[.int .i64 t152, .string t153, .string t154] 35 (0, 0)) (bk_ BK156.out) hb)
               have n5_ := Aside0.mk (blk_below (g := gb161) (o := .cells #[.int .i64 t157, .string t158, .string t159] 35 (0, 0)) (bk_ BK161.out) hb)
               have n6_ := Aside0.mk (blk_below (g := gb169) (o := .cells #[.int .i64 0, .string (⟨#[]⟩ : ByteArray), .string (⟨#[]⟩ : ByteArray)] 35 (0, 0)) (bk_ BK169.out) hb)
               have n7_ := Aside0.mk (below_step (hs_) hb)
               clear HO_7
               clear HO164
               clear BK137
               clear BK151
               clear BK156
               clear BK161
               clear BK169
               clear HB
               have HO_7 := n0_
               have HO164 := n1_
               have BK137 := n2_
               have BK151 := n3_
               have BK156 := n4_
               have BK161 := n5_
               have BK169 := n6_
               have HB := n7_
               clear n0_ n1_ n2_ n3_ n4_ n5_ n6_ n7_
               (try clear hb)
               (try clear hb2)
               (try clear hk)
               (try clear hi)
               refine hK.out _ _ ⟨(blk_cell BK137.out 0).trans rfl, (blk_cell BK137.out 1).trans rfl, (blk_cell BK137.out 2).trans rfl⟩ (fun hHeld => ?_)
               clear hK K
               refine norm_ (a' := ?_) ?_ ?_
               rotate_left
               ·show Act.put _ (some 82) _ = _
                simp only [Act.put, List.setIfInBounds_toArray, List.set_cons_zero, List.set_cons_succ, i64_w, i32_w]
                rfl
               refine pure_ (i := 7) (N := some 75) (v := ?_) (a' := ?_) #[true, true, true, true, true, true, true, true, false, false, true, false, false] rfl rfl (any_of HT_.out (by kernel_rfl)) (fun _ _ _ h => h) (Or.inl ⟨by rfl, ?_⟩) ?_ ?_
               rotate_left
               ·intro w'
                go_simp
                with_reducible rfl
               rotate_left
               ·simp only [Act.put, List.setIfInBounds_toArray, List.set_cons_zero, List.set_cons_succ, i64_w, i32_w]
                rfl
               refine pure_ (i := 8) (N := some 83) (v := ?_) (a' := ?_) #[true, true, true, true, true, true, true, true, true, false, true, false, false] rfl rfl (any_of HT_.out (by kernel_rfl)) (fun _ _ _ h => h) (Or.inl ⟨by rfl, ?_⟩) ?_ ?_
               rotate_left
               ·intro w'
                go_simp
                with_reducible rfl
               rotate_left
               ·simp only [Act.put, List.setIfInBounds_toArray, List.set_cons_zero, List.set_cons_succ, i64_w, i32_w]
                rfl
               refine pure_ (i := 9) (N := some 84) (v := ?_) (a' := ?_) #[true, true, true, true, true, true, true, true, true, true, true, false, false] rfl rfl (any_of HT_.out (by kernel_rfl)) (fun _ _ _ h => h) (Or.inl ⟨by rfl, ?_⟩) ?_ ?_
               rotate_left
               ·intro w'
                go_simp
                with_reducible rfl
               rotate_left
               ·simp only [Act.put, List.setIfInBounds_toArray, List.set_cons_zero, List.set_cons_succ, i64_w, i32_w]
                rfl
               exact norm_ (by simp only [putAll, Act.put, List.setIfInBounds_toArray, List.set_cons_zero, List.set_cons_succ]) (hCont (.slice Ao71 t162.length co71, gb169) _ ⟨hHeld, (by (with_reducible repeat (first | apply Kd.R_alloc | apply Kd.R_drewN | apply Kd.R_drew)); exact Kd.R_mono HO164.out (fun _ hk => ⟨hk.1.1.1.1.1.2, ⟨hk.1.1.1.1.2, ⟨hk.1.1.1.2, ⟨hk.1.1.2, ⟨hk.1.2, hk.2⟩⟩⟩⟩⟩)), (by (with_reducible repeat (first | apply Kd.R_alloc | apply Kd.R_drewN | apply Kd.R_drew)); exact Kd.R_mono HO_7.out (fun _ hk => ⟨hk.1.2, ⟨hk.1.1.1, ⟨hk.1.1.2.1, ⟨hk.1.1.2.2.1, ⟨hk.1.1.2.2.2, hk.2⟩⟩⟩⟩⟩)), (bk_ BK137.out), (bk_ BK151.out), (bk_ BK156.out), (bk_ BK161.out), (bk_ BK169.out), GW169.out, GE169.out, NB137_169.out, NB169_137.out, NB151_169.out, NB169_151.out, NB156_169.out, NB169_156.out, NB161_169.out, NB169_161.out, (hs_)⟩)
             ·skip
              refine box_step ?hg (N := 14) ?hd (cs := #[.int .i64 0, .string (⟨#[]⟩ : ByteArray), .string (⟨#[]⟩ : ByteArray)]) (t := 35) ?hr ?_; (case hd => rfl); (case hg => rfl); (case hr => first | (go_simp; done) | (go_simp; rfl))
              intro gb169 hg w69 hbox hb
              have n0_ := Aside0.mk (Kd.R_below (Kd.R_elderB (rk_ HO_7.out) gb169 (Nat.le_of_eq hg.symm)) hb)
              have n1_ := Aside0.mk (blk_below (g := gb137) (o := .cells #[.int .i64 a1_0, .string a1_1, .string a1_2] 35 (0, 0)) (bk_ BK137.out) hb)
              have n2_ := Aside0.mk (blk_below (g := gb151) (o := .cells #[.int .i64 t147, .string t148, .string t149] 35 (0, 0)) (bk_ BK151.out) hb)
              have n3_ := Aside0.mk (blk_below (g := gb156) (o := .cells #[.int .i64 t152, .string t153, .string t154] 35 (0, 0)) (bk_ BK156.out) hb)
              have n4_ := Aside0.mk (blk_below (g := gb161) (o := .cells #[.int .i64 t157, .string t158, .string t159] 35 (0, 0)) (bk_ BK161.out) hb)
              have n5_ := Aside0.mk (below_step (hs_) hb)
              have n6_ := Aside0.mk (hbox)
              have n7_ := Aside0.mk ((by rw [hg]; exact (below_size (hs_)) : w.heap.size ≤ gb169))
              have n8_ := Aside0.mk ((by rw [hg]; exact (below_size (hs_)) : w.heap.size ≤ gb169))
              have n9_ := Aside0.mk ((by rw [hg]; exact Nat.ne_of_lt (blk_lt (g := gb137) (o := .cells #[.int .i64 a1_0, .string a1_1, .string a1_2] 35 (0, 0)) (bk_ BK137.out)) : gb137 ≠ gb169))
              have n10_ := Aside0.mk ((by rw [hg]; exact Nat.ne_of_gt (blk_lt (g := gb137) (o := .cells #[.int .i64 a1_0, .string a1_1, .string a1_2] 35 (0, 0)) (bk_ BK137.out)) : gb169 ≠ gb137))
              have n11_ := Aside0.mk ((by rw [hg]; exact Nat.ne_of_lt (blk_lt (g := gb151) (o := .cells #[.int .i64 t147, .string t148, .string t149] 35 (0, 0)) (bk_ BK151.out)) : gb151 ≠ gb169))
              have n12_ := Aside0.mk ((by rw [hg]; exact Nat.ne_of_gt (blk_lt (g := gb151) (o := .cells #[.int .i64 t147, .string t148, .string t149] 35 (0, 0)) (bk_ BK151.out)) : gb169 ≠ gb151))
              have n13_ := Aside0.mk ((by rw [hg]; exact Nat.ne_of_lt (blk_lt (g := gb156) (o := .cells #[.int .i64 t152, .string t153, .string t154] 35 (0, 0)) (bk_ BK156.out)) : gb156 ≠ gb169))
              have n14_ := Aside0.mk ((by rw [hg]; exact Nat.ne_of_gt (blk_lt (g := gb156) (o := .cells #[.int .i64 t152, .string t153, .string t154] 35 (0, 0)) (bk_ BK156.out)) : gb169 ≠ gb156))
              have n15_ := Aside0.mk ((by rw [hg]; exact Nat.ne_of_lt (blk_lt (g := gb161) (o := .cells #[.int .i64 t157, .string t158, .string t159] 35 (0, 0)) (bk_ BK161.out)) : gb161 ≠ gb169))
              have n16_ := Aside0.mk ((by rw [hg]; exact Nat.ne_of_gt (blk_lt (g := gb161) (o := .cells #[.int .i64 t157, .string t158, .string t159] 35 (0, 0)) (bk_ BK161.out)) : gb169 ≠ gb161))
              clear HO_7
              clear BK137
              clear BK151
              clear BK156
              clear BK161
              clear HB
              have HO_7 := n0_
              have BK137 := n1_
              have BK151 := n2_
              have BK156 := n3_
              have BK161 := n4_
              have HB := n5_
              have BK169 := n6_
              have GW169 := n7_
              have GE169 := n8_
              have NB137_169 := n9_
              have NB169_137 := n10_
              have NB151_169 := n11_
              have NB169_151 := n12_
              have NB156_169 := n13_
              have NB169_156 := n14_
              have NB161_169 := n15_
              have NB169_161 := n16_
              clear n0_ n1_ n2_ n3_ n4_ n5_ n6_ n7_ n8_ n9_ n10_ n11_ n12_ n13_ n14_ n15_ n16_
              clear hb hbox hg
              refine hK.out _ _ ⟨(blk_cell BK137.out 0).trans rfl, (blk_cell BK137.out 1).trans rfl, (blk_cell BK137.out 2).trans rfl⟩ (fun hHeld => ?_)
              clear hK K
              refine norm_ (a' := ?_) ?_ ?_
              rotate_left
              ·show Act.put _ (some 14) _ = _
               simp only [Act.put, List.setIfInBounds_toArray, List.set_cons_zero, List.set_cons_succ, i64_w, i32_w]
               rfl
              refine one_ (i := 3) (N := some 79) #[true, true, true, true, true, true, false, false, false, false, true, false, false] rfl rfl (one_of HT_.out (by kernel_rfl)) (by decide) (fun K hK => ?_)
              refine goes_ Tryd.func30 (by kernel_rfl) rfl #[.slice Ao51 t142.length co51, .string a1_1] (by rfl) rfl rfl (by (try simp only [List.map_toArray, List.map_cons, List.map_nil]); first | done | rfl | (simp only [List.length_drop, List.length_take]; rfl)) ?_
              with_reducible refine (tree_Drop.calls kj22 _ _ t142 a1_1 t162 _ ?side1 ?side2 A42.out).mono ?_
              (case side1 => repeat (first | exact (Kd.R_reads' HO_7.out).2.2 | (with_reducible refine Kd.C_alloc ?_ _) | (with_reducible refine Kd.C_drewN ?_ _) | (with_reducible refine Kd.C_drew ?_)))
              (case side2 => exact (Kd.R_reads' HO_7.out).2.1)
              rintro e w70 ⟨v163, rfl, ho0, hb⟩
              refine ⟨_, rfl, ?_⟩
              have n0_ := Aside0.mk (Kd.R_elder' (rk_ HO_7.out) (Kd.R_base ho0) hb)
              have n1_ := Aside0.mk (Kd.R_lower (Kd.R_newB (Kd.R_newB (Kd.R_newB (Kd.R_newB (Kd.R_newB (Kd.R_new' ho0 (Kd.R_lt (rk_ HO_7.out))) (g := gb137) (o := .cells #[.int .i64 a1_0, .string a1_1, .string a1_2] 35 (0, 0)) (bk_ BK137.out)) (g := gb151) (o := .cells #[.int .i64 t147, .string t148, .string t149] 35 (0, 0)) (bk_ BK151.out)) (g := gb156) (o := .cells #[.int .i64 t152, .string t153, .string t154] 35 (0, 0)) (bk_ BK156.out)) (g := gb161) (o := .cells #[.int .i64 t157, .string t158, .string t159] 35 (0, 0)) (bk_ BK161.out)) (g := gb169) (o := .cells #[.int .i64 0, .string (⟨#[]⟩ : ByteArray), .string (⟨#[]⟩ : ByteArray)] 35 (0, 0)) (bk_ BK169.out)) (below_size (hs_)))
              have n2_ := Aside0.mk (blk_below (g := gb137) (o := .cells #[.int .i64 a1_0, .string a1_1, .string a1_2] 35 (0, 0)) (bk_ BK137.out) hb)
              have n3_ := Aside0.mk (blk_below (g := gb151) (o := .cells #[.int .i64 t147, .string t148, .string t149] 35 (0, 0)) (bk_ BK151.out) hb)
              have n4_ := Aside0.mk (blk_below (g := gb156) (o := .cells #[.int .i64 t152, .string t153, .string t154] 35 (0, 0)) (bk_ BK156.out) hb)
              have n5_ := Aside0.mk (blk_below (g := gb161) (o := .cells #[.int .i64 t157, .string t158, .string t159] 35 (0, 0)) (bk_ BK161.out) hb)
              have n6_ := Aside0.mk (blk_below (g := gb169) (o := .cells #[.int .i64 0, .string (⟨#[]⟩ : ByteArray), .string (⟨#[]⟩ : ByteArray)] 35 (0, 0)) (bk_ BK169.out) hb)
              have n7_ := Aside0.mk (below_step (hs_) hb)
              clear HO_7
              clear BK137
              clear BK151
              clear BK156
              clear BK161
              clear BK169
              clear HB
              have HO_7 := n0_
              have HO164 := n1_
              have BK137 := n2_
              have BK151 := n3_
              have BK156 := n4_
              have BK161 := n5_
              have BK169 := n6_
              have HB := n7_
              clear n0_ n1_ n2_ n3_ n4_ n5_ n6_ n7_
              (try clear hb)
              (try clear hb2)
              (try clear hk)
              (try clear hi)
              (try clear ho0)
              obtain ⟨Ao71, co71, eo71⟩ := Kd.R_slice HO164.out
              (first | subst eo71 | (injection eo71 with f1_ f2_ f3_; have f4_ := f1_.symm; have f5_ := f3_.symm; clear f1_ f2_ f3_; subst f4_; subst f5_))
              refine hK.out _ _ ⟨(blk_cell BK137.out 0).trans rfl, (blk_cell BK137.out 1).trans rfl, (blk_cell BK137.out 2).trans rfl⟩ (fun hHeld => ?_)
              clear hK K
              refine norm_ (a' := ?_) ?_ ?_
              rotate_left
              ·show Act.put _ (some 79) _ = _
               simp only [Act.put, List.setIfInBounds_toArray, List.set_cons_zero, List.set_cons_succ, i64_w, i32_w]
               rfl
              refine one_ (i := 6) (N := some 82) #[true, true, true, true, true, true, true, false, false, false, true, false, false] rfl rfl (one_of HT_.out (by kernel_rfl)) (by decide) (fun K hK => ?_)
              refine goes_ Tryd.func25 (by kernel_rfl) rfl #[.slice Ao71 t162.length co71, .string a1_1] (by rfl) rfl rfl (by (try simp only [List.map_toArray, List.map_cons, List.map_nil]); first | done | rfl | (simp only [List.length_drop, List.length_take]; rfl)) ?_
              with_reducible refine (tree_Find.calls kj22 _ _ t162 a1_1 t165 t166 t167 false _ ?side1 ?side2 A43.out).mono ?_
              (case side1 => repeat (first | exact (Kd.R_reads' HO164.out).2.2 | (with_reducible refine Kd.C_alloc ?_ _) | (with_reducible refine Kd.C_drewN ?_ _) | (with_reducible refine Kd.C_drew ?_)))
              (case side2 => exact (Kd.R_reads' HO164.out).2.1)
              rintro e w72 ⟨rfl, hb⟩
              refine ⟨_, rfl, ?_⟩
              have n0_ := Aside0.mk (Kd.R_below (rk_ HO_7.out) hb)
              have n1_ := Aside0.mk (Kd.R_below (rk_ HO164.out) hb)
              have n2_ := Aside0.mk (blk_below (g := gb137) (o := .cells #[.int .i64 a1_0, .string a1_1, .string a1_2] 35 (0, 0)) (bk_ BK137.out) hb)
              have n3_ := Aside0.mk (blk_below (g := gb151) (o := .cells #[.int .i64 t147, .string t148, .string t149] 35 (0, 0)) (bk_ BK151.out) hb)
              have n4_ := Aside0.mk (blk_below (g := gb156) (o := .cells #[.int .i64 t152, .string t153, .string t154] 35 (0, 0)) (bk_ BK156.out) hb)
              have n5_ := Aside0.mk (blk_below (g := gb161) (o := .cells #[.int .i64 t157, .string t158, .string t159] 35 (0, 0)) (bk_ BK161.out) hb)
              have n6_ := Aside0.mk (blk_below (g := gb169) (o := .cells #[.int .i64 0, .string (⟨#[]⟩ : ByteArray), .string (⟨#[]⟩ : ByteArray)] 35 (0, 0)) (bk_ BK169.out) hb)
              have n7_ := Aside0.mk (below_step (hs_) hb)
              clear HO_7
              clear HO164
              clear BK137
              clear BK151
              clear BK156
              clear BK161
              clear BK169
              clear HB
              have HO_7 := n0_
              have HO164 := n1_
              have BK137 := n2_
              have BK151 := n3_
              have BK156 := n4_
              have BK161 := n5_
              have BK169 := n6_
              have HB := n7_
              clear n0_ n1_ n2_ n3_ n4_ n5_ n6_ n7_
              (try clear hb)
              (try clear hb2)
              (try clear hk)
              (try clear hi)
              refine hK.out _ _ ⟨(blk_cell BK137.out 0).trans rfl, (blk_cell BK137.out 1).trans rfl, (blk_cell BK137.out 2).trans rfl⟩ (fun hHeld => ?_)
              clear hK K
              refine norm_ (a' := ?_) ?_ ?_
              rotate_left
              ·show Act.put _ (some 82) _ = _
               simp only [Act.put, List.setIfInBounds_toArray, List.set_cons_zero, List.set_cons_succ, i64_w, i32_w]
               rfl
              refine pure_ (i := 7) (N := some 75) (v := ?_) (a' := ?_) #[true, true, true, true, true, true, true, true, false, false, true, false, false] rfl rfl (any_of HT_.out (by kernel_rfl)) (fun _ _ _ h => h) (Or.inl ⟨by rfl, ?_⟩) ?_ ?_
              rotate_left
              ·intro w'
               go_simp
               with_reducible rfl
              rotate_left
              ·simp only [Act.put, List.setIfInBounds_toArray, List.set_cons_zero, List.set_cons_succ, i64_w, i32_w]
               rfl
              refine pure_ (i := 8) (N := some 83) (v := ?_) (a' := ?_) #[true, true, true, true, true, true, true, true, true, false, true, false, false] rfl rfl (any_of HT_.out (by kernel_rfl)) (fun _ _ _ h => h) (Or.inl ⟨by rfl, ?_⟩) ?_ ?_
              rotate_left
              ·intro w'
               go_simp
               with_reducible rfl
              rotate_left
              ·simp only [Act.put, List.setIfInBounds_toArray, List.set_cons_zero, List.set_cons_succ, i64_w, i32_w]
               rfl
              refine pure_ (i := 9) (N := some 84) (v := ?_) (a' := ?_) #[true, true, true, true, true, true, true, true, true, true, true, false, false] rfl rfl (any_of HT_.out (by kernel_rfl)) (fun _ _ _ h => h) (Or.inl ⟨by rfl, ?_⟩) ?_ ?_
              rotate_left
              ·intro w'
               go_simp
               with_reducible rfl
              rotate_left
              ·simp only [Act.put, List.setIfInBounds_toArray, List.set_cons_zero, List.set_cons_succ, i64_w, i32_w]
               rfl
              exact norm_ (by simp only [putAll, Act.put, List.setIfInBounds_toArray, List.set_cons_zero, List.set_cons_succ]) (hCont (.slice Ao71 t162.length co71, gb169) _ ⟨hHeld, (by (with_reducible repeat (first | apply Kd.R_alloc | apply Kd.R_drewN | apply Kd.R_drew)); exact Kd.R_mono HO164.out (fun _ hk => ⟨hk.1.1.1.1.1.2, ⟨hk.1.1.1.1.2, ⟨hk.1.1.1.2, ⟨hk.1.1.2, ⟨hk.1.2, hk.2⟩⟩⟩⟩⟩)), (by (with_reducible repeat (first | apply Kd.R_alloc | apply Kd.R_drewN | apply Kd.R_drew)); exact Kd.R_mono HO_7.out (fun _ hk => ⟨hk.2, ⟨hk.1.1.1, ⟨hk.1.1.2.1, ⟨hk.1.1.2.2.1, ⟨hk.1.1.2.2.2, hk.1.2⟩⟩⟩⟩⟩)), (bk_ BK137.out), (bk_ BK151.out), (bk_ BK156.out), (bk_ BK161.out), (bk_ BK169.out), GW169.out, GE169.out, NB137_169.out, NB169_137.out, NB151_169.out, NB169_151.out, NB156_169.out, NB169_156.out, NB161_169.out, NB169_161.out, (hs_)⟩)
            rintro ⟨v163, gb169⟩ w73 ⟨hS_, h0_, h1_, h2_, h3_, h4_, h5_, h6_, h7_, h8_, h9_, h10_, h11_, h12_, h13_, h14_, h15_, h16_, h17_⟩
            have n0_ : Aside0 (Kd.R k35 35 w73 w.heap.size (fun k_ => some k_ ≠ (.slice Ao51 t142.length co51 : Value).ownBlock ∧ k_ ≠ gb137 ∧ k_ ≠ gb151 ∧ k_ ≠ gb156 ∧ k_ ≠ gb161 ∧ k_ ≠ gb169) v163 t162) := ⟨h0_⟩
            have n1_ : Aside0 (Kd.R k35 35 w73 w.heap.size (fun k_ => some k_ ≠ (v163 : Value).ownBlock ∧ k_ ≠ gb137 ∧ k_ ≠ gb151 ∧ k_ ≠ gb156 ∧ k_ ≠ gb161 ∧ k_ ≠ gb169) (.slice Ao51 t142.length co51) t142) := ⟨h1_⟩
            have n2_ : Aside0 (w73.heap[gb137]? = some (.cells #[.int .i64 a1_0, .string a1_1, .string a1_2] 35 (0, 0))) := ⟨h2_⟩
            have n3_ : Aside0 (w73.heap[gb151]? = some (.cells #[.int .i64 t147, .string t148, .string t149] 35 (0, 0))) := ⟨h3_⟩
            have n4_ : Aside0 (w73.heap[gb156]? = some (.cells #[.int .i64 t152, .string t153, .string t154] 35 (0, 0))) := ⟨h4_⟩
            have n5_ : Aside0 (w73.heap[gb161]? = some (.cells #[.int .i64 t157, .string t158, .string t159] 35 (0, 0))) := ⟨h5_⟩
            have n6_ : Aside0 (w73.heap[gb169]? = some (.cells #[.int .i64 0, .string (⟨#[]⟩ : ByteArray), .string (⟨#[]⟩ : ByteArray)] 35 (0, 0))) := ⟨h6_⟩
            have n7_ : Aside0 (w.heap.size ≤ gb169) := ⟨h7_⟩
            have n8_ : Aside0 (w.heap.size ≤ gb169) := ⟨h8_⟩
            have n9_ : Aside0 (gb137 ≠ gb169) := ⟨h9_⟩
            have n10_ : Aside0 (gb169 ≠ gb137) := ⟨h10_⟩
            have n11_ : Aside0 (gb151 ≠ gb169) := ⟨h11_⟩
            have n12_ : Aside0 (gb169 ≠ gb151) := ⟨h12_⟩
            have n13_ : Aside0 (gb156 ≠ gb169) := ⟨h13_⟩
            have n14_ : Aside0 (gb169 ≠ gb156) := ⟨h14_⟩
            have n15_ : Aside0 (gb161 ≠ gb169) := ⟨h15_⟩
            have n16_ : Aside0 (gb169 ≠ gb161) := ⟨h16_⟩
            have n17_ : Aside0 (Below w.heap.size w w73) := ⟨h17_⟩
            clear HO_7
            clear BK137
            clear BK151
            clear BK156
            clear BK161
            clear HB
            clear h0_ h1_ h2_ h3_ h4_ h5_ h6_ h7_ h8_ h9_ h10_ h11_ h12_ h13_ h14_ h15_ h16_ h17_
            have HO164 := n0_
            have HO_7 := n1_
            have BK137 := n2_
            have BK151 := n3_
            have BK156 := n4_
            have BK161 := n5_
            have BK169 := n6_
            have GW169 := n7_
            have GE169 := n8_
            have NB137_169 := n9_
            have NB169_137 := n10_
            have NB151_169 := n11_
            have NB169_151 := n12_
            have NB156_169 := n13_
            have NB169_156 := n14_
            have NB161_169 := n15_
            have NB169_161 := n16_
            have HB := n17_
            clear n0_ n1_ n2_ n3_ n4_ n5_ n6_ n7_ n8_ n9_ n10_ n11_ n12_ n13_ n14_ n15_ n16_ n17_
            have hHeld : w73.cell? ⟨gb137, 0, none⟩ = some (.int .i64 a1_0) ∧ w73.cell? ⟨gb137, 1, none⟩ = some (.string a1_1) ∧ w73.cell? ⟨gb137, 2, none⟩ = some (.string a1_2) := hS_
            refine norm_ (a' := ?_) ?_ ?_
            rotate_left
            ·simp only [putAll, Act.put, List.setIfInBounds_toArray, List.set_cons_zero, List.set_cons_succ]
             rfl
            refine one_ (i := 11) (N := none) #[true, true, true, true, true, true, true, true, true, true, true, true, false] rfl rfl (one_of HT_.out (by kernel_rfl)) (by decide) (fun K hK => ?_)
            have hs74 : w73.cell? ⟨gb169, 0, none⟩ = some (.int .i64 0) := (blk_cell BK169.out 0).trans rfl
            have hfs74 := blk_frozen BK169.out 0
            have hns74_0 := NB137_169.out
            have hns74_1 := NB151_169.out
            have hns74_2 := NB156_169.out
            have hns74_3 := NB161_169.out
            have hms74_0 := NB169_137.out
            have hms74_1 := NB169_151.out
            have hms74_2 := NB169_156.out
            have hms74_3 := NB169_161.out
            have hs75 : w73.cell? ⟨gb169, 1, none⟩ = some (.string (⟨#[]⟩ : ByteArray)) := (blk_cell BK169.out 1).trans rfl
            have hfs75 := blk_frozen BK169.out 1
            have hns75_0 := NB137_169.out
            have hns75_1 := NB151_169.out
            have hns75_2 := NB156_169.out
            have hns75_3 := NB161_169.out
            have hms75_0 := NB169_137.out
            have hms75_1 := NB169_151.out
            have hms75_2 := NB169_156.out
            have hms75_3 := NB169_161.out
            have hs76 : w73.cell? ⟨gb169, 2, none⟩ = some (.string (⟨#[]⟩ : ByteArray)) := (blk_cell BK169.out 2).trans rfl
            have hfs76 := blk_frozen BK169.out 2
            have hns76_0 := NB137_169.out
            have hns76_1 := NB151_169.out
            have hns76_2 := NB156_169.out
            have hns76_3 := NB161_169.out
            have hms76_0 := NB169_137.out
            have hms76_1 := NB169_151.out
            have hms76_2 := NB169_156.out
            have hms76_3 := NB169_161.out
            refine skip_ (w1 := ?_) (by rfl) rfl ?_ ?_
            rotate_left
            ·go_simp
             rfl
            refine hK.out _ _ ⟨((cell_far (p := ⟨gb169, _, none⟩) NB137_169.out _).trans (((cell_far (p := ⟨gb169, _, none⟩) NB137_169.out _).trans (((cell_far (p := ⟨gb169, _, none⟩) NB137_169.out _).trans (hHeld.1)))))), ((cell_far (p := ⟨gb169, _, none⟩) NB137_169.out _).trans (((cell_far (p := ⟨gb169, _, none⟩) NB137_169.out _).trans (((cell_far (p := ⟨gb169, _, none⟩) NB137_169.out _).trans (hHeld.2.1)))))), ((cell_far (p := ⟨gb169, _, none⟩) NB137_169.out _).trans (((cell_far (p := ⟨gb169, _, none⟩) NB137_169.out _).trans (((cell_far (p := ⟨gb169, _, none⟩) NB137_169.out _).trans (hHeld.2.2))))))⟩ (fun hHeld => ?_)
            clear hK K
            refine pure_ (i := 12) (N := some 15) (v := ?_) (a' := ?_) #[true, true, true, true, true, true, true, true, true, true, true, true, true] rfl rfl (any_of HT_.out (by kernel_rfl)) (fun _ _ _ h => h) (Or.inl ⟨by rfl, ?_⟩) ?_ ?_
            rotate_left
            ·intro w'
             go_simp
             with_reducible rfl
            rotate_left
            ·simp only [Act.put, List.setIfInBounds_toArray, List.set_cons_zero, List.set_cons_succ, i64_w, i32_w]
             rfl
            refine done_ (done_of HT_.out (by kernel_rfl)) ?_
            have hnb77 := NB151_169.out
            have hnc77 := NB169_151.out
            have hcz78_0 : w73.cell? ⟨gb151, 0, none⟩ = some (.int .i64 t147) := (blk_cell BK151.out 0).trans rfl
            have hcz78_1 : w73.cell? ⟨gb151, 1, none⟩ = some (.string t148) := (blk_cell BK151.out 1).trans rfl
            have hcz78_2 : w73.cell? ⟨gb151, 2, none⟩ = some (.string t149) := (blk_cell BK151.out 2).trans rfl
            have hfz78_0 := blk_frozen BK151.out 0
            have hfz78_1 := blk_frozen BK151.out 1
            have hfz78_2 := blk_frozen BK151.out 2
            have hnb79 := NB137_169.out
            have hnc79 := NB169_137.out
            have hcz80_0 : w73.cell? ⟨gb137, 0, none⟩ = some (.int .i64 a1_0) := (blk_cell BK137.out 0).trans rfl
            have hcz80_1 : w73.cell? ⟨gb137, 1, none⟩ = some (.string a1_1) := (blk_cell BK137.out 1).trans rfl
            have hcz80_2 : w73.cell? ⟨gb137, 2, none⟩ = some (.string a1_2) := (blk_cell BK137.out 2).trans rfl
            have hfz80_0 := blk_frozen BK137.out 0
            have hfz80_1 := blk_frozen BK137.out 1
            have hfz80_2 := blk_frozen BK137.out 2
            have hnb81 := NB161_169.out
            have hnc81 := NB169_161.out
            have hcz82_0 : w73.cell? ⟨gb161, 0, none⟩ = some (.int .i64 t157) := (blk_cell BK161.out 0).trans rfl
            have hcz82_1 : w73.cell? ⟨gb161, 1, none⟩ = some (.string t158) := (blk_cell BK161.out 1).trans rfl
            have hcz82_2 : w73.cell? ⟨gb161, 2, none⟩ = some (.string t159) := (blk_cell BK161.out 2).trans rfl
            have hfz82_0 := blk_frozen BK161.out 0
            have hfz82_1 := blk_frozen BK161.out 1
            have hfz82_2 := blk_frozen BK161.out 2
            try go_wp2_with (first | (go_at_call 15; (with_reducible refine (graftagelaw15_lives.calls kj22  t170 _ A49.out).mono ?_); rintro e w83 ⟨rfl, hb⟩; have n0_ := Aside0.mk (Kd.R_below (by (with_reducible repeat (first | apply Kd.R_alloc | apply Kd.R_drewN | apply Kd.R_drew)); exact (Kd.R_mono (Kd.R_far (p := ⟨gb169, 2, none⟩) (Kd.R_far (p := ⟨gb169, 1, none⟩) (Kd.R_far (p := ⟨gb169, 0, none⟩) (Kd.R_mono HO_7.out (fun k_ hk => (⟨hk, hk.2.2.2.2.2⟩ : _ ∧ k_ ≠ gb169))) (fun _ hk => hk.2) (.int .i64 t165)) (fun _ hk => hk.2) (.string t166)) (fun _ hk => hk.2) (.string t167)) (fun _ h_ => h_.1))) hb); have n1_ := Aside0.mk (Kd.R_below (by (with_reducible repeat (first | apply Kd.R_alloc | apply Kd.R_drewN | apply Kd.R_drew)); exact (Kd.R_mono (Kd.R_far (p := ⟨gb169, 2, none⟩) (Kd.R_far (p := ⟨gb169, 1, none⟩) (Kd.R_far (p := ⟨gb169, 0, none⟩) (Kd.R_mono HO164.out (fun k_ hk => (⟨hk, hk.2.2.2.2.2⟩ : _ ∧ k_ ≠ gb169))) (fun _ hk => hk.2) (.int .i64 t165)) (fun _ hk => hk.2) (.string t166)) (fun _ hk => hk.2) (.string t167)) (fun _ h_ => h_.1))) hb); have n2_ := Aside0.mk (blk_below (g := gb137) (o := .cells #[.int .i64 a1_0, .string a1_1, .string a1_2] 35 (0, 0)) (by (with_reducible repeat (first | refine blk_drewN ?_ _ | refine blk_drew ?_ | refine blk_alloc ?_ _)); refine blk_far ?_ NB137_169.out _; (with_reducible repeat (first | refine blk_drewN ?_ _ | refine blk_drew ?_ | refine blk_alloc ?_ _)); refine blk_far ?_ NB137_169.out _; (with_reducible repeat (first | refine blk_drewN ?_ _ | refine blk_drew ?_ | refine blk_alloc ?_ _)); refine blk_far ?_ NB137_169.out _; (with_reducible repeat (first | refine blk_drewN ?_ _ | refine blk_drew ?_ | refine blk_alloc ?_ _)); exact BK137.out) hb); have n3_ := Aside0.mk (blk_below (g := gb151) (o := .cells #[.int .i64 t147, .string t148, .string t149] 35 (0, 0)) (by (with_reducible repeat (first | refine blk_drewN ?_ _ | refine blk_drew ?_ | refine blk_alloc ?_ _)); refine blk_far ?_ NB151_169.out _; (with_reducible repeat (first | refine blk_drewN ?_ _ | refine blk_drew ?_ | refine blk_alloc ?_ _)); refine blk_far ?_ NB151_169.out _; (with_reducible repeat (first | refine blk_drewN ?_ _ | refine blk_drew ?_ | refine blk_alloc ?_ _)); refine blk_far ?_ NB151_169.out _; (with_reducible repeat (first | refine blk_drewN ?_ _ | refine blk_drew ?_ | refine blk_alloc ?_ _)); exact BK151.out) hb); have n4_ := Aside0.mk (blk_below (g := gb156) (o := .cells #[.int .i64 t152, .string t153, .string t154] 35 (0, 0)) (by (with_reducible repeat (first | refine blk_drewN ?_ _ | refine blk_drew ?_ | refine blk_alloc ?_ _)); refine blk_far ?_ NB156_169.out _; (with_reducible repeat (first | refine blk_drewN ?_ _ | refine blk_drew ?_ | refine blk_alloc ?_ _)); refine blk_far ?_ NB156_169.out _; (with_reducible repeat (first | refine blk_drewN ?_ _ | refine blk_drew ?_ | refine blk_alloc ?_ _)); refine blk_far ?_ NB156_169.out _; (with_reducible repeat (first | refine blk_drewN ?_ _ | refine blk_drew ?_ | refine blk_alloc ?_ _)); exact BK156.out) hb); have n5_ := Aside0.mk (blk_below (g := gb161) (o := .cells #[.int .i64 t157, .string t158, .string t159] 35 (0, 0)) (by (with_reducible repeat (first | refine blk_drewN ?_ _ | refine blk_drew ?_ | refine blk_alloc ?_ _)); refine blk_far ?_ NB161_169.out _; (with_reducible repeat (first | refine blk_drewN ?_ _ | refine blk_drew ?_ | refine blk_alloc ?_ _)); refine blk_far ?_ NB161_169.out _; (with_reducible repeat (first | refine blk_drewN ?_ _ | refine blk_drew ?_ | refine blk_alloc ?_ _)); refine blk_far ?_ NB161_169.out _; (with_reducible repeat (first | refine blk_drewN ?_ _ | refine blk_drew ?_ | refine blk_alloc ?_ _)); exact BK161.out) hb); have n6_ := Aside0.mk (blk_below (g := gb169) (o := .cells #[.int .i64 t165, .string t166, .string t167] 35 (0, 0)) (by (with_reducible repeat (first | refine blk_drewN ?_ _ | refine blk_drew ?_ | refine blk_alloc ?_ _)); refine blk_put (cs := #[.int .i64 t165, .string t166, .string (⟨#[]⟩ : ByteArray)]) ?_ 2 _ rfl; (with_reducible repeat (first | refine blk_drewN ?_ _ | refine blk_drew ?_ | refine blk_alloc ?_ _)); refine blk_put (cs := #[.int .i64 t165, .string (⟨#[]⟩ : ByteArray), .string (⟨#[]⟩ : ByteArray)]) ?_ 1 _ rfl; (with_reducible repeat (first | refine blk_drewN ?_ _ | refine blk_drew ?_ | refine blk_alloc ?_ _)); refine blk_put (cs := #[.int .i64 0, .string (⟨#[]⟩ : ByteArray), .string (⟨#[]⟩ : ByteArray)]) ?_ 0 _ rfl; (with_reducible repeat (first | refine blk_drewN ?_ _ | refine blk_drew ?_ | refine blk_alloc ?_ _)); exact BK169.out) hb); have n7_ := Aside0.mk (below_step (hs_) hb); clear HO_7; clear HO164; clear BK137; clear BK151; clear BK156; clear BK161; clear BK169; clear HB; have HO_7 := n0_; have HO164 := n1_; have BK137 := n2_; have BK151 := n3_; have BK156 := n4_; have BK161 := n5_; have BK169 := n6_; have HB := n7_; clear n0_ n1_ n2_ n3_ n4_ n5_ n6_ n7_; (try clear hb); (try clear hb2); (try clear hk); (try clear hi)))
            go_ret
            exact ⟨by first | rfl | (simp [errW_none, errW_some] <;> rfl) | (simp [*, errW_none, errW_some] <;> rfl) | (simp [ne_nil_bool]; done) | (simp [*, ne_nil_bool]; done), hs_⟩
           ·rw [if_neg c48] at H
            have c48b0 : (!(t157 == a1_0) || (!(t158.toList == a1_1.toList) || (!(t159.toList == a1_2.toList)))) = false := by simpa using c48
            clear c48
            replace H := Option.bind_eq_some_iff.mp H
            obtain ⟨t171, A840, H⟩ := H
            replace H : (if t171 = true then ((graftagelaw15_lives.f kj22).bind fun t172 => (some t172)) else (some false)) = some r := H
            have A84 := Aside0.mk A840
            clear A840
            by_cases c85 : t171 = true
            ·subst c85
             have H1 : ((graftagelaw15_lives.f kj22).bind fun t172 => (some t172)) = some r := by rw [if_pos rfl] at H; exact H
             clear H
             have H := H1
             clear H1
             replace H := Option.bind_eq_some_iff.mp H
             obtain ⟨t172, A860, H⟩ := H
             replace H : (some t172) = some r := H
             have A86 := Aside0.mk A860
             clear A860
             obtain rfl := Option.some.inj H
             have hcz87_0 : wc.cell? ⟨gb137, 0, none⟩ = some (.int .i64 a1_0) := (blk_cell BK137.out 0).trans rfl
             have hcz87_1 : wc.cell? ⟨gb137, 1, none⟩ = some (.string a1_1) := (blk_cell BK137.out 1).trans rfl
             have hcz87_2 : wc.cell? ⟨gb137, 2, none⟩ = some (.string a1_2) := (blk_cell BK137.out 2).trans rfl
             have hfz87_0 := blk_frozen BK137.out 0
             have hfz87_1 := blk_frozen BK137.out 1
             have hfz87_2 := blk_frozen BK137.out 2
             obtain ⟨Ao88, co88, eo88⟩ := Kd.R_slice HO_7.out
             subst eo88
             try go_wp2_with (first | ((with_reducible refine gate_callee (f := 25) rfl ?_); refine goesL_ (some 60) rfl rfl Tryd.func25 (by kernel_rfl) rfl #[.slice Ao88 t142.length co88, .string a1_1] rfl (by (try simp only [List.map_toArray, List.map_cons, List.map_nil]); first | done | rfl | (simp only [List.length_drop, List.length_take]; rfl)) ?_; (with_reducible refine (tree_Find.calls kj22 _ _ t142 a1_1 t147 t148 t149 true _ ?side1 ?side2 A39.out).mono ?_); (case side1 => repeat (first | exact (Kd.R_reads' HO_7.out).2.2 | (with_reducible refine Kd.C_alloc ?_ _) | (with_reducible refine Kd.C_drewN ?_ _) | (with_reducible refine Kd.C_drew ?_))); (case side2 => exact (Kd.R_reads' HO_7.out).2.1); rintro e w89 ⟨rfl, hb⟩; refine ⟨_, rfl, ?_⟩; have n0_ := Aside0.mk (Kd.R_below (rk_ HO_7.out) hb); have n1_ := Aside0.mk (blk_below (g := gb137) (o := .cells #[.int .i64 a1_0, .string a1_1, .string a1_2] 35 (0, 0)) (bk_ BK137.out) hb); have n2_ := Aside0.mk (below_step (hs_) hb); clear HO_7; clear BK137; clear HB; have HO_7 := n0_; have BK137 := n1_; have HB := n2_; clear n0_ n1_ n2_; (try clear hb); (try clear hb2); (try clear hk); (try clear hi)) | ((with_reducible refine gate_dst (N := 8) rfl ?_); (try (refine gate_guard (by rfl) ?_; dsimp only)); refine box_event ?hg (N := 8) ?hd (cs := #[.int .i64 0, .string (⟨#[]⟩ : ByteArray), .string (⟨#[]⟩ : ByteArray)]) (t := 35) ?hr ?_; (case hd => rfl); (case hg => rfl); (case hr => first | (go_simp; done) | (go_simp; rfl)); intro gb151 hg w90 hbox hb; have n0_ := Aside0.mk (Kd.R_below (Kd.R_elderB (rk_ HO_7.out) gb151 (Nat.le_of_eq hg.symm)) hb); have n1_ := Aside0.mk (blk_below (g := gb137) (o := .cells #[.int .i64 a1_0, .string a1_1, .string a1_2] 35 (0, 0)) (bk_ BK137.out) hb); have n2_ := Aside0.mk (below_step (hs_) hb); have n3_ := Aside0.mk (hbox); have n4_ := Aside0.mk ((by rw [hg]; exact (below_size (hs_)) : w.heap.size ≤ gb151)); have n5_ := Aside0.mk ((by rw [hg]; exact (below_size (hs_)) : w.heap.size ≤ gb151)); have n6_ := Aside0.mk ((by rw [hg]; exact Nat.ne_of_lt (blk_lt (g := gb137) (o := .cells #[.int .i64 a1_0, .string a1_1, .string a1_2] 35 (0, 0)) (bk_ BK137.out)) : gb137 ≠ gb151)); have n7_ := Aside0.mk ((by rw [hg]; exact Nat.ne_of_gt (blk_lt (g := gb137) (o := .cells #[.int .i64 a1_0, .string a1_1, .string a1_2] 35 (0, 0)) (bk_ BK137.out)) : gb151 ≠ gb137)); clear HO_7; clear BK137; clear HB; have HO_7 := n0_; have BK137 := n1_; have HB := n2_; have BK151 := n3_; have GW151 := n4_; have GE151 := n5_; have NB137_151 := n6_; have NB151_137 := n7_; clear n0_ n1_ n2_ n3_ n4_ n5_ n6_ n7_; clear hb hbox hg; have hnb91 := NB151_137.out; have hnc91 := NB137_151.out; have hcz92_0 : w90.cell? ⟨gb151, 0, none⟩ = some (.int .i64 0) := (blk_cell BK151.out 0).trans rfl; have hcz92_1 : w90.cell? ⟨gb151, 1, none⟩ = some (.string (⟨#[]⟩ : ByteArray)) := (blk_cell BK151.out 1).trans rfl; have hcz92_2 : w90.cell? ⟨gb151, 2, none⟩ = some (.string (⟨#[]⟩ : ByteArray)) := (blk_cell BK151.out 2).trans rfl; have hfz92_0 := blk_frozen BK151.out 0; have hfz92_1 := blk_frozen BK151.out 1; have hfz92_2 := blk_frozen BK151.out 2) | ((with_reducible refine gate_callee (f := 25) rfl ?_); refine goesL_ (some 66) rfl rfl Tryd.func25 (by kernel_rfl) rfl #[.slice Ao88 t142.length co88, .string a2] rfl (by (try simp only [List.map_toArray, List.map_cons, List.map_nil]); first | done | rfl | (simp only [List.length_drop, List.length_take]; rfl)) ?_; (with_reducible refine (tree_Find.calls kj22 _ _ t142 a2 t152 t153 t154 t155 _ ?side1 ?side2 A40.out).mono ?_); (case side1 => refine (Kd.R_reads' (e := 35) (base := w.heap.size) (ok := fun k_ => (k_ ≠ gb137 ∧ k_ ≠ gb151)) (n := t142.length) (c := co88) ?_).2.2; exact (by (with_reducible repeat (first | apply Kd.R_alloc | apply Kd.R_drewN | apply Kd.R_drew)); exact (Kd.R_mono (Kd.R_far (p := ⟨gb151, 2, none⟩) (Kd.R_far (p := ⟨gb151, 1, none⟩) (Kd.R_far (p := ⟨gb151, 0, none⟩) (Kd.R_mono HO_7.out (fun k_ hk => (⟨hk, hk.2⟩ : _ ∧ k_ ≠ gb151))) (fun _ hk => hk.2) (.int .i64 t147)) (fun _ hk => hk.2) (.string t148)) (fun _ hk => hk.2) (.string t149)) (fun _ h_ => h_.1)))); (case side2 => exact (Kd.R_reads' HO_7.out).2.1); rintro e w93 ⟨rfl, hb⟩; refine ⟨_, rfl, ?_⟩; have n0_ := Aside0.mk (Kd.R_below (by (with_reducible repeat (first | apply Kd.R_alloc | apply Kd.R_drewN | apply Kd.R_drew)); exact (Kd.R_mono (Kd.R_far (p := ⟨gb151, 2, none⟩) (Kd.R_far (p := ⟨gb151, 1, none⟩) (Kd.R_far (p := ⟨gb151, 0, none⟩) (Kd.R_mono HO_7.out (fun k_ hk => (⟨hk, hk.2⟩ : _ ∧ k_ ≠ gb151))) (fun _ hk => hk.2) (.int .i64 t147)) (fun _ hk => hk.2) (.string t148)) (fun _ hk => hk.2) (.string t149)) (fun _ h_ => h_.1))) hb); have n1_ := Aside0.mk (blk_below (g := gb137) (o := .cells #[.int .i64 a1_0, .string a1_1, .string a1_2] 35 (0, 0)) (by (with_reducible repeat (first | refine blk_drewN ?_ _ | refine blk_drew ?_ | refine blk_alloc ?_ _)); refine blk_far ?_ NB137_151.out _; (with_reducible repeat (first | refine blk_drewN ?_ _ | refine blk_drew ?_ | refine blk_alloc ?_ _)); refine blk_far ?_ NB137_151.out _; (with_reducible repeat (first | refine blk_drewN ?_ _ | refine blk_drew ?_ | refine blk_alloc ?_ _)); refine blk_far ?_ NB137_151.out _; (with_reducible repeat (first | refine blk_drewN ?_ _ | refine blk_drew ?_ | refine blk_alloc ?_ _)); exact BK137.out) hb); have n2_ := Aside0.mk (blk_below (g := gb151) (o := .cells #[.int .i64 t147, .string t148, .string t149] 35 (0, 0)) (by (with_reducible repeat (first | refine blk_drewN ?_ _ | refine blk_drew ?_ | refine blk_alloc ?_ _)); refine blk_put (cs := #[.int .i64 t147, .string t148, .string (⟨#[]⟩ : ByteArray)]) ?_ 2 _ rfl; (with_reducible repeat (first | refine blk_drewN ?_ _ | refine blk_drew ?_ | refine blk_alloc ?_ _)); refine blk_put (cs := #[.int .i64 t147, .string (⟨#[]⟩ : ByteArray), .string (⟨#[]⟩ : ByteArray)]) ?_ 1 _ rfl; (with_reducible repeat (first | refine blk_drewN ?_ _ | refine blk_drew ?_ | refine blk_alloc ?_ _)); refine blk_put (cs := #[.int .i64 0, .string (⟨#[]⟩ : ByteArray), .string (⟨#[]⟩ : ByteArray)]) ?_ 0 _ rfl; (with_reducible repeat (first | refine blk_drewN ?_ _ | refine blk_drew ?_ | refine blk_alloc ?_ _)); exact BK151.out) hb); have n3_ := Aside0.mk (below_step (hs_) hb); clear HO_7; clear BK137; clear BK151; clear HB; have HO_7 := n0_; have BK137 := n1_; have BK151 := n2_; have HB := n3_; clear n0_ n1_ n2_ n3_; (try clear hb); (try clear hb2); (try clear hk); (try clear hi)) | ((with_reducible refine gate_dst (N := 10) rfl ?_); (try (refine gate_guard (by rfl) ?_; dsimp only)); refine box_event ?hg (N := 10) ?hd (cs := #[.int .i64 0, .string (⟨#[]⟩ : ByteArray), .string (⟨#[]⟩ : ByteArray)]) (t := 35) ?hr ?_; (case hd => rfl); (case hg => rfl); (case hr => first | (go_simp; done) | (go_simp; rfl)); intro gb156 hg w94 hbox hb; have n0_ := Aside0.mk (Kd.R_below (Kd.R_elderB (rk_ HO_7.out) gb156 (Nat.le_of_eq hg.symm)) hb); have n1_ := Aside0.mk (blk_below (g := gb137) (o := .cells #[.int .i64 a1_0, .string a1_1, .string a1_2] 35 (0, 0)) (bk_ BK137.out) hb); have n2_ := Aside0.mk (blk_below (g := gb151) (o := .cells #[.int .i64 t147, .string t148, .string t149] 35 (0, 0)) (bk_ BK151.out) hb); have n3_ := Aside0.mk (below_step (hs_) hb); have n4_ := Aside0.mk (hbox); have n5_ := Aside0.mk ((by rw [hg]; exact (below_size (hs_)) : w.heap.size ≤ gb156)); have n6_ := Aside0.mk ((by rw [hg]; exact (below_size (hs_)) : w.heap.size ≤ gb156)); have n7_ := Aside0.mk ((by rw [hg]; exact Nat.ne_of_lt (blk_lt (g := gb137) (o := .cells #[.int .i64 a1_0, .string a1_1, .string a1_2] 35 (0, 0)) (bk_ BK137.out)) : gb137 ≠ gb156)); have n8_ := Aside0.mk ((by rw [hg]; exact Nat.ne_of_gt (blk_lt (g := gb137) (o := .cells #[.int .i64 a1_0, .string a1_1, .string a1_2] 35 (0, 0)) (bk_ BK137.out)) : gb156 ≠ gb137)); have n9_ := Aside0.mk ((by rw [hg]; exact Nat.ne_of_lt (blk_lt (g := gb151) (o := .cells #[.int .i64 t147, .string t148, .string t149] 35 (0, 0)) (bk_ BK151.out)) : gb151 ≠ gb156)); have n10_ := Aside0.mk ((by rw [hg]; exact Nat.ne_of_gt (blk_lt (g := gb151) (o := .cells #[.int .i64 t147, .string t148, .string t149] 35 (0, 0)) (bk_ BK151.out)) : gb156 ≠ gb151)); clear HO_7; clear BK137; clear BK151; clear HB; have HO_7 := n0_; have BK137 := n1_; have BK151 := n2_; have HB := n3_; have BK156 := n4_; have GW156 := n5_; have GE156 := n6_; have NB137_156 := n7_; have NB156_137 := n8_; have NB151_156 := n9_; have NB156_151 := n10_; clear n0_ n1_ n2_ n3_ n4_ n5_ n6_ n7_ n8_ n9_ n10_; clear hb hbox hg; have hnb95 := NB156_137.out; have hnc95 := NB137_156.out; have hnb96 := NB156_151.out; have hnc96 := NB151_156.out; have hcz97_0 : w94.cell? ⟨gb156, 0, none⟩ = some (.int .i64 0) := (blk_cell BK156.out 0).trans rfl; have hcz97_1 : w94.cell? ⟨gb156, 1, none⟩ = some (.string (⟨#[]⟩ : ByteArray)) := (blk_cell BK156.out 1).trans rfl; have hcz97_2 : w94.cell? ⟨gb156, 2, none⟩ = some (.string (⟨#[]⟩ : ByteArray)) := (blk_cell BK156.out 2).trans rfl; have hfz97_0 := blk_frozen BK156.out 0; have hfz97_1 := blk_frozen BK156.out 1; have hfz97_2 := blk_frozen BK156.out 2) | ((with_reducible refine gate_callee (f := 25) rfl ?_); refine goesL_ (some 72) rfl rfl Tryd.func25 (by kernel_rfl) rfl #[.slice A0 l0.length c0, .string a2] rfl (by (try simp only [List.map_toArray, List.map_cons, List.map_nil]); first | done | rfl | (simp only [List.length_drop, List.length_take]; rfl)) ?_; (with_reducible refine (tree_Find.calls kj22 _ _ l0 a2 t157 t158 t159 t160 _ ?side1 ?side2 A41.out).mono ?_); (case side1 => exact Kd.C_below HR0.out (hs_)); (case side2 => exact HC0.out); rintro e w98 ⟨rfl, hb⟩; refine ⟨_, rfl, ?_⟩; have n0_ := Aside0.mk (Kd.R_below (by (with_reducible repeat (first | apply Kd.R_alloc | apply Kd.R_drewN | apply Kd.R_drew)); exact (Kd.R_mono (Kd.R_far (p := ⟨gb156, 2, none⟩) (Kd.R_far (p := ⟨gb156, 1, none⟩) (Kd.R_far (p := ⟨gb156, 0, none⟩) (Kd.R_mono HO_7.out (fun k_ hk => (⟨hk, hk.2⟩ : _ ∧ k_ ≠ gb156))) (fun _ hk => hk.2) (.int .i64 t152)) (fun _ hk => hk.2) (.string t153)) (fun _ hk => hk.2) (.string t154)) (fun _ h_ => h_.1))) hb); have n1_ := Aside0.mk (blk_below (g := gb137) (o := .cells #[.int .i64 a1_0, .string a1_1, .string a1_2] 35 (0, 0)) (by (with_reducible repeat (first | refine blk_drewN ?_ _ | refine blk_drew ?_ | refine blk_alloc ?_ _)); refine blk_far ?_ NB137_156.out _; (with_reducible repeat (first | refine blk_drewN ?_ _ | refine blk_drew ?_ | refine blk_alloc ?_ _)); refine blk_far ?_ NB137_156.out _; (with_reducible repeat (first | refine blk_drewN ?_ _ | refine blk_drew ?_ | refine blk_alloc ?_ _)); refine blk_far ?_ NB137_156.out _; (with_reducible repeat (first | refine blk_drewN ?_ _ | refine blk_drew ?_ | refine blk_alloc ?_ _)); exact BK137.out) hb); have n2_ := Aside0.mk (blk_below (g := gb151) (o := .cells #[.int .i64 t147, .string t148, .string t149] 35 (0, 0)) (by (with_reducible repeat (first | refine blk_drewN ?_ _ | refine blk_drew ?_ | refine blk_alloc ?_ _)); refine blk_far ?_ NB151_156.out _; (with_reducible repeat (first | refine blk_drewN ?_ _ | refine blk_drew ?_ | refine blk_alloc ?_ _)); refine blk_far ?_ NB151_156.out _; (with_reducible repeat (first | refine blk_drewN ?_ _ | refine blk_drew ?_ | refine blk_alloc ?_ _)); refine blk_far ?_ NB151_156.out _; (with_reducible repeat (first | refine blk_drewN ?_ _ | refine blk_drew ?_ | refine blk_alloc ?_ _)); exact BK151.out) hb); have n3_ := Aside0.mk (blk_below (g := gb156) (o := .cells #[.int .i64 t152, .string t153, .string t154] 35 (0, 0)) (by (with_reducible repeat (first | refine blk_drewN ?_ _ | refine blk_drew ?_ | refine blk_alloc ?_ _)); refine blk_put (cs := #[.int .i64 t152, .string t153, .string (⟨#[]⟩ : ByteArray)]) ?_ 2 _ rfl; (with_reducible repeat (first | refine blk_drewN ?_ _ | refine blk_drew ?_ | refine blk_alloc ?_ _)); refine blk_put (cs := #[.int .i64 t152, .string (⟨#[]⟩ : ByteArray), .string (⟨#[]⟩ : ByteArray)]) ?_ 1 _ rfl; (with_reducible repeat (first | refine blk_drewN ?_ _ | refine blk_drew ?_ | refine blk_alloc ?_ _)); refine blk_put (cs := #[.int .i64 0, .string (⟨#[]⟩ : ByteArray), .string (⟨#[]⟩ : ByteArray)]) ?_ 0 _ rfl; (with_reducible repeat (first | refine blk_drewN ?_ _ | refine blk_drew ?_ | refine blk_alloc ?_ _)); exact BK156.out) hb); have n4_ := Aside0.mk (below_step (hs_) hb); clear HO_7; clear BK137; clear BK151; clear BK156; clear HB; have HO_7 := n0_; have BK137 := n1_; have BK151 := n2_; have BK156 := n3_; have HB := n4_; clear n0_ n1_ n2_ n3_ n4_; (try clear hb); (try clear hb2); (try clear hk); (try clear hi)) | ((with_reducible refine gate_dst (N := 12) rfl ?_); (try (refine gate_guard (by rfl) ?_; dsimp only)); refine box_event ?hg (N := 12) ?hd (cs := #[.int .i64 0, .string (⟨#[]⟩ : ByteArray), .string (⟨#[]⟩ : ByteArray)]) (t := 35) ?hr ?_; (case hd => rfl); (case hg => rfl); (case hr => first | (go_simp; done) | (go_simp; rfl)); intro gb161 hg w99 hbox hb; have n0_ := Aside0.mk (Kd.R_below (Kd.R_elderB (rk_ HO_7.out) gb161 (Nat.le_of_eq hg.symm)) hb); have n1_ := Aside0.mk (blk_below (g := gb137) (o := .cells #[.int .i64 a1_0, .string a1_1, .string a1_2] 35 (0, 0)) (bk_ BK137.out) hb); have n2_ := Aside0.mk (blk_below (g := gb151) (o := .cells #[.int .i64 t147, .string t148, .string t149] 35 (0, 0)) (bk_ BK151.out) hb); have n3_ := Aside0.mk (blk_below (g := gb156) (o := .cells #[.int .i64 t152, .string t153, .string t154] 35 (0, 0)) (bk_ BK156.out) hb); have n4_ := Aside0.mk (below_step (hs_) hb); have n5_ := Aside0.mk (hbox); have n6_ := Aside0.mk ((by rw [hg]; exact (below_size (hs_)) : w.heap.size ≤ gb161)); have n7_ := Aside0.mk ((by rw [hg]; exact (below_size (hs_)) : w.heap.size ≤ gb161)); have n8_ := Aside0.mk ((by rw [hg]; exact Nat.ne_of_lt (blk_lt (g := gb137) (o := .cells #[.int .i64 a1_0, .string a1_1, .string a1_2] 35 (0, 0)) (bk_ BK137.out)) : gb137 ≠ gb161)); have n9_ := Aside0.mk ((by rw [hg]; exact Nat.ne_of_gt (blk_lt (g := gb137) (o := .cells #[.int .i64 a1_0, .string a1_1, .string a1_2] 35 (0, 0)) (bk_ BK137.out)) : gb161 ≠ gb137)); have n10_ := Aside0.mk ((by rw [hg]; exact Nat.ne_of_lt (blk_lt (g := gb151) (o := .cells #[.int .i64 t147, .string t148, .string t149] 35 (0, 0)) (bk_ BK151.out)) : gb151 ≠ gb161)); have n11_ := Aside0.mk ((by rw [hg]; exact Nat.ne_of_gt (blk_lt (g := gb151) (o := .cells #[.int .i64 t147, .string t148, .string t149] 35 (0, 0)) (bk_ BK151.out)) : gb161 ≠ gb151)); have n12_ := Aside0.mk ((by rw [hg]; exact Nat.ne_of_lt (blk_lt (g := gb156) (o := .cells #[.int .i64 t152, .string t153, .string t154] 35 (0, 0)) (bk_ BK156.out)) : gb156 ≠ gb161)); have n13_ := Aside0.mk ((by rw [hg]; exact Nat.ne_of_gt (blk_lt (g := gb156) (o := .cells #[.int .i64 t152, .string t153, .string t154] 35 (0, 0)) (bk_ BK156.out)) : gb161 ≠ gb156)); clear HO_7; clear BK137; clear BK151; clear BK156; clear HB; have HO_7 := n0_; have BK137 := n1_; have BK151 := n2_; have BK156 := n3_; have HB := n4_; have BK161 := n5_; have GW161 := n6_; have GE161 := n7_; have NB137_161 := n8_; have NB161_137 := n9_; have NB151_161 := n10_; have NB161_151 := n11_; have NB156_161 := n12_; have NB161_156 := n13_; clear n0_ n1_ n2_ n3_ n4_ n5_ n6_ n7_ n8_ n9_ n10_ n11_ n12_ n13_; clear hb hbox hg; have hnb100 := NB161_137.out; have hnc100 := NB137_161.out; have hnb101 := NB161_151.out; have hnc101 := NB151_161.out; have hnb102 := NB161_156.out; have hnc102 := NB156_161.out; have hcz103_0 : w99.cell? ⟨gb161, 0, none⟩ = some (.int .i64 0) := (blk_cell BK161.out 0).trans rfl; have hcz103_1 : w99.cell? ⟨gb161, 1, none⟩ = some (.string (⟨#[]⟩ : ByteArray)) := (blk_cell BK161.out 1).trans rfl; have hcz103_2 : w99.cell? ⟨gb161, 2, none⟩ = some (.string (⟨#[]⟩ : ByteArray)) := (blk_cell BK161.out 2).trans rfl; have hfz103_0 := blk_frozen BK161.out 0; have hfz103_1 := blk_frozen BK161.out 1; have hfz103_2 := blk_frozen BK161.out 2))
             have n0_ : Aside0 (Kd.R k35 35 (((w99.setCell ⟨gb161, 0, none⟩ (.int .i64 t157)).setCell ⟨gb161, 1, none⟩ (.string t158)).setCell ⟨gb161, 2, none⟩ (.string t159)) w.heap.size (fun k_ => k_ ≠ gb137 ∧ k_ ≠ gb151 ∧ k_ ≠ gb156 ∧ k_ ≠ gb161) (.slice Ao88 t142.length co88) t142) := ⟨by (with_reducible repeat (first | apply Kd.R_alloc | apply Kd.R_drewN | apply Kd.R_drew)); exact Kd.R_mono (Kd.R_far (p := ⟨gb161, 2, none⟩) (Kd.R_far (p := ⟨gb161, 1, none⟩) (Kd.R_far (p := ⟨gb161, 0, none⟩) (Kd.R_mono HO_7.out (fun k_ hk => (⟨hk, hk.2⟩ : _ ∧ k_ ≠ gb161))) (fun _ hk => hk.2) (.int .i64 t157)) (fun _ hk => hk.2) (.string t158)) (fun _ hk => hk.2) (.string t159)) (fun _ hk => ⟨hk.1.1.1.1, ⟨hk.1.1.1.2, ⟨hk.1.1.2, hk.1.2⟩⟩⟩)⟩
             have n1_ : Aside0 ((((w99.setCell ⟨gb161, 0, none⟩ (.int .i64 t157)).setCell ⟨gb161, 1, none⟩ (.string t158)).setCell ⟨gb161, 2, none⟩ (.string t159)).heap[gb137]? = some (.cells #[.int .i64 a1_0, .string a1_1, .string a1_2] 35 (0, 0))) := ⟨by (with_reducible repeat (first | refine blk_drewN ?_ _ | refine blk_drew ?_ | refine blk_alloc ?_ _)); refine blk_far ?_ NB137_161.out _; (with_reducible repeat (first | refine blk_drewN ?_ _ | refine blk_drew ?_ | refine blk_alloc ?_ _)); refine blk_far ?_ NB137_161.out _; (with_reducible repeat (first | refine blk_drewN ?_ _ | refine blk_drew ?_ | refine blk_alloc ?_ _)); refine blk_far ?_ NB137_161.out _; (with_reducible repeat (first | refine blk_drewN ?_ _ | refine blk_drew ?_ | refine blk_alloc ?_ _)); exact BK137.out⟩
             have n2_ : Aside0 ((((w99.setCell ⟨gb161, 0, none⟩ (.int .i64 t157)).setCell ⟨gb161, 1, none⟩ (.string t158)).setCell ⟨gb161, 2, none⟩ (.string t159)).heap[gb151]? = some (.cells #[.int .i64 t147, .string t148, .string t149] 35 (0, 0))) := ⟨by (with_reducible repeat (first | refine blk_drewN ?_ _ | refine blk_drew ?_ | refine blk_alloc ?_ _)); refine blk_far ?_ NB151_161.out _; (with_reducible repeat (first | refine blk_drewN ?_ _ | refine blk_drew ?_ | refine blk_alloc ?_ _)); refine blk_far ?_ NB151_161.out _; (with_reducible repeat (first | refine blk_drewN ?_ _ | refine blk_drew ?_ | refine blk_alloc ?_ _)); refine blk_far ?_ NB151_161.out _; (with_reducible repeat (first | refine blk_drewN ?_ _ | refine blk_drew ?_ | refine blk_alloc ?_ _)); exact BK151.out⟩
             have n3_ : Aside0 ((((w99.setCell ⟨gb161, 0, none⟩ (.int .i64 t157)).setCell ⟨gb161, 1, none⟩ (.string t158)).setCell ⟨gb161, 2, none⟩ (.string t159)).heap[gb156]? = some (.cells #[.int .i64 t152, .string t153, .string t154] 35 (0, 0))) := ⟨by (with_reducible repeat (first | refine blk_drewN ?_ _ | refine blk_drew ?_ | refine blk_alloc ?_ _)); refine blk_far ?_ NB156_161.out _; (with_reducible repeat (first | refine blk_drewN ?_ _ | refine blk_drew ?_ | refine blk_alloc ?_ _)); refine blk_far ?_ NB156_161.out _; (with_reducible repeat (first | refine blk_drewN ?_ _ | refine blk_drew ?_ | refine blk_alloc ?_ _)); refine blk_far ?_ NB156_161.out _; (with_reducible repeat (first | refine blk_drewN ?_ _ | refine blk_drew ?_ | refine blk_alloc ?_ _)); exact BK156.out⟩
             have n4_ : Aside0 ((((w99.setCell ⟨gb161, 0, none⟩ (.int .i64 t157)).setCell ⟨gb161, 1, none⟩ (.string t158)).setCell ⟨gb161, 2, none⟩ (.string t159)).heap[gb161]? = some (.cells #[.int .i64 t157, .string t158, .string t159] 35 (0, 0))) := ⟨by (with_reducible repeat (first | refine blk_drewN ?_ _ | refine blk_drew ?_ | refine blk_alloc ?_ _)); refine blk_put (cs := #[.int .i64 t157, .string t158, .string (⟨#[]⟩ : ByteArray)]) ?_ 2 _ rfl; (with_reducible repeat (first | refine blk_drewN ?_ _ | refine blk_drew ?_ | refine blk_alloc ?_ _)); refine blk_put (cs := #[.int .i64 t157, .string (⟨#[]⟩ : ByteArray), .string (⟨#[]⟩ : ByteArray)]) ?_ 1 _ rfl; (with_reducible repeat (first | refine blk_drewN ?_ _ | refine blk_drew ?_ | refine blk_alloc ?_ _)); refine blk_put (cs := #[.int .i64 0, .string (⟨#[]⟩ : ByteArray), .string (⟨#[]⟩ : ByteArray)]) ?_ 0 _ rfl; (with_reducible repeat (first | refine blk_drewN ?_ _ | refine blk_drew ?_ | refine blk_alloc ?_ _)); exact BK161.out⟩
             have n5_ : Aside0 (Below w.heap.size w (((w99.setCell ⟨gb161, 0, none⟩ (.int .i64 t157)).setCell ⟨gb161, 1, none⟩ (.string t158)).setCell ⟨gb161, 2, none⟩ (.string t159))) := ⟨hs_⟩
             (try clear HO_7)
             (try clear BK137)
             (try clear BK151)
             (try clear BK156)
             (try clear BK161)
             (try clear HB)
             generalize (((w99.setCell ⟨gb161, 0, none⟩ (.int .i64 t157)).setCell ⟨gb161, 1, none⟩ (.string t158)).setCell ⟨gb161, 2, none⟩ (.string t159)) = w104 at n0_ n1_ n2_ n3_ n4_ n5_ ⊢
             have HO_7 := n0_
             have BK137 := n1_
             have BK151 := n2_
             have BK156 := n3_
             have BK161 := n4_
             have HB := n5_
             clear n0_ n1_ n2_ n3_ n4_ n5_
             have n0_ := Aside0.mk (Kd.R_drew HO_7.out)
             have n1_ := Aside0.mk (blk_drew BK137.out)
             have n2_ := Aside0.mk (blk_drew BK151.out)
             have n3_ := Aside0.mk (blk_drew BK156.out)
             have n4_ := Aside0.mk (blk_drew BK161.out)
             have n5_ := Aside0.mk (below_drew1 HB.out)
             clear HO_7
             clear BK137
             clear BK151
             clear BK156
             clear BK161
             clear HB
             have HO_7 := n0_
             have BK137 := n1_
             have BK151 := n2_
             have BK156 := n3_
             have BK161 := n4_
             have HB := n5_
             clear n0_ n1_ n2_ n3_ n4_ n5_
             refine start_ (n := 13) (S := fun w' => w'.cell? ⟨gb137, 0, none⟩ = some (.int .i64 a1_0) ∧ w'.cell? ⟨gb137, 1, none⟩ = some (.string a1_1) ∧ w'.cell? ⟨gb137, 2, none⟩ = some (.string a1_2)) (ds := []) #[false, false, false, false, false, false, false, false, false, false, false, false, false] (by kernel_rfl) rfl rfl ⟨(blk_cell BK137.out 0).trans rfl, (blk_cell BK137.out 1).trans rfl, (blk_cell BK137.out 2).trans rfl⟩ (fun hHeld => ?_); refine with_tabW graftagelaw15_TreePut.tab9 graftagelaw15_TreePut.bits9 (fun HT_ HW_ => ?_)
             generalize w104.drew = w105 at HO_7 BK137 BK151 BK156 BK161 HB hHeld ⊢
             refine pure_ (i := 0) (N := some 76) (v := ?_) (a' := ?_) #[true, false, false, false, false, false, false, false, false, false, false, false, false] rfl rfl (any_of HT_.out (by kernel_rfl)) (fun _ _ _ h => h) (Or.inl ⟨by rfl, ?_⟩) ?_ ?_
             rotate_left
             ·intro w'
              go_simp
              with_reducible rfl
             rotate_left
             ·simp only [Act.put, List.setIfInBounds_toArray, List.set_cons_zero, List.set_cons_succ, i64_w, i32_w]
              rfl
             refine pure_ (i := 1) (N := some 77) (v := ?_) (a' := ?_) #[true, true, false, false, false, false, false, false, false, false, false, false, false] rfl rfl (any_of HT_.out (by kernel_rfl)) (fun _ _ _ h => h) (Or.inl ⟨by rfl, ?_⟩) ?_ ?_
             rotate_left
             ·intro w'
              go_simp
              with_reducible rfl
             rotate_left
             ·simp only [Act.put, List.setIfInBounds_toArray, List.set_cons_zero, List.set_cons_succ, i64_w, i32_w]
              rfl
             refine pure_ (i := 4) (N := some 80) (v := ?_) (a' := ?_) #[true, true, false, false, true, false, false, false, false, false, false, false, false] rfl rfl (any_of HT_.out (by kernel_rfl)) (fun _ _ _ h => h) (Or.inl ⟨by rfl, ?_⟩) ?_ ?_
             rotate_left
             ·intro w'
              go_simp
              with_reducible rfl
             rotate_left
             ·simp only [Act.put, List.setIfInBounds_toArray, List.set_cons_zero, List.set_cons_succ, i64_w, i32_w]
              rfl
             refine take_ (i := 2) (N := some 78) (v := ?_) (a' := ?_) #[true, true, true, false, true, false, false, false, false, false, false, false, false] rfl rfl (take_ofW HT_.out HW_.out (by kernel_rfl)) (fun _ _ _ h => h) (Or.inl ⟨by rfl, ?_⟩) hHeld ?_ ?_
             rotate_left
             ·rintro w' ⟨s0, s1, s2⟩
              go_simp
              with_reducible rfl
             rotate_left
             ·simp only [Act.put, List.setIfInBounds_toArray, List.set_cons_zero, List.set_cons_succ, i64_w, i32_w]
              rfl
             refine take_ (i := 5) (N := some 81) (v := ?_) (a' := ?_) #[true, true, true, false, true, true, false, false, false, false, false, false, false] rfl rfl (take_ofW HT_.out HW_.out (by kernel_rfl)) (fun _ _ _ h => h) (Or.inl ⟨by rfl, ?_⟩) hHeld ?_ ?_
             rotate_left
             ·rintro w' ⟨s0, s1, s2⟩
              go_simp
              with_reducible rfl
             rotate_left
             ·simp only [Act.put, List.setIfInBounds_toArray, List.set_cons_zero, List.set_cons_succ, i64_w, i32_w]
              rfl
             refine join_ (σ := Value × Nat) 2 #[true, true, true, true, true, true, true, true, true, true, true, false, false] (fun s_ => [(79, s_.1), (82, .tuple #[.agg #[.int .i64 t165, .string t166, .string t167], .bool false]), (14, .pointer (some ⟨s_.2, 0, none⟩)), (75, .tuple #[.agg #[.int .i64 t165, .string t166, .string t167], .bool false]), (83, .agg #[.int .i64 t165, .string t166, .string t167]), (84, .bool false)]) (fun s_ w' => (w'.cell? ⟨gb137, 0, none⟩ = some (.int .i64 a1_0) ∧ w'.cell? ⟨gb137, 1, none⟩ = some (.string a1_1) ∧ w'.cell? ⟨gb137, 2, none⟩ = some (.string a1_2)) ∧ (Kd.R k35 35 w' w.heap.size (fun k_ => some k_ ≠ (.slice Ao88 t142.length co88 : Value).ownBlock ∧ k_ ≠ gb137 ∧ k_ ≠ gb151 ∧ k_ ≠ gb156 ∧ k_ ≠ gb161 ∧ k_ ≠ s_.2) s_.1 t162) ∧ (Kd.R k35 35 w' w.heap.size (fun k_ => some k_ ≠ (s_.1 : Value).ownBlock ∧ k_ ≠ gb137 ∧ k_ ≠ gb151 ∧ k_ ≠ gb156 ∧ k_ ≠ gb161 ∧ k_ ≠ s_.2) (.slice Ao88 t142.length co88) t142) ∧ (w'.heap[gb137]? = some (.cells #[.int .i64 a1_0, .string a1_1, .string a1_2] 35 (0, 0))) ∧ (w'.heap[gb151]? = some (.cells #[.int .i64 t147, .string t148, .string t149] 35 (0, 0))) ∧ (w'.heap[gb156]? = some (.cells #[.int .i64 t152, .string t153, .string t154] 35 (0, 0))) ∧ (w'.heap[gb161]? = some (.cells #[.int .i64 t157, .string t158, .string t159] 35 (0, 0))) ∧ (w'.heap[s_.2]? = some (.cells #[.int .i64 0, .string (⟨#[]⟩ : ByteArray), .string (⟨#[]⟩ : ByteArray)] 35 (0, 0))) ∧ (w.heap.size ≤ s_.2) ∧ (w.heap.size ≤ s_.2) ∧ (gb137 ≠ s_.2) ∧ (s_.2 ≠ gb137) ∧ (gb151 ≠ s_.2) ∧ (s_.2 ≠ gb151) ∧ (gb156 ≠ s_.2) ∧ (s_.2 ≠ gb156) ∧ (gb161 ≠ s_.2) ∧ (s_.2 ≠ gb161) ∧ (Below w.heap.size w w')) ?_ ?_
             rotate_left
             ·intro hCont
              refine two_ (i := 3) (j := 10) (Ni := some 79) (Nj := some 14) #[true, true, true, true, true, true, false, false, false, false, false, false, false] #[true, true, true, false, true, true, false, false, false, false, true, false, false] rfl rfl rfl rfl (two_of HT_.out (by kernel_rfl)) (by decide) (by decide) (fun K hK => ?_) (fun K hK => ?_)
              ·skip
               refine goes_ Tryd.func30 (by kernel_rfl) rfl #[.slice Ao88 t142.length co88, .string a1_1] (by rfl) rfl rfl (by (try simp only [List.map_toArray, List.map_cons, List.map_nil]); first | done | rfl | (simp only [List.length_drop, List.length_take]; rfl)) ?_
               with_reducible refine (tree_Drop.calls kj22 _ _ t142 a1_1 t162 _ ?side1 ?side2 A42.out).mono ?_
               (case side1 => repeat (first | exact (Kd.R_reads' HO_7.out).2.2 | (with_reducible refine Kd.C_alloc ?_ _) | (with_reducible refine Kd.C_drewN ?_ _) | (with_reducible refine Kd.C_drew ?_)))
               (case side2 => exact (Kd.R_reads' HO_7.out).2.1)
               rintro e w106 ⟨v163, rfl, ho0, hb⟩
               refine ⟨_, rfl, ?_⟩
               have n0_ := Aside0.mk (Kd.R_elder' (rk_ HO_7.out) (Kd.R_base ho0) hb)
               have n1_ := Aside0.mk (Kd.R_lower (Kd.R_newB (Kd.R_newB (Kd.R_newB (Kd.R_newB (Kd.R_new' ho0 (Kd.R_lt (rk_ HO_7.out))) (g := gb137) (o := .cells #[.int .i64 a1_0, .string a1_1, .string a1_2] 35 (0, 0)) (bk_ BK137.out)) (g := gb151) (o := .cells #[.int .i64 t147, .string t148, .string t149] 35 (0, 0)) (bk_ BK151.out)) (g := gb156) (o := .cells #[.int .i64 t152, .string t153, .string t154] 35 (0, 0)) (bk_ BK156.out)) (g := gb161) (o := .cells #[.int .i64 t157, .string t158, .string t159] 35 (0, 0)) (bk_ BK161.out)) (below_size (hs_)))
               have n2_ := Aside0.mk (blk_below (g := gb137) (o := .cells #[.int .i64 a1_0, .string a1_1, .string a1_2] 35 (0, 0)) (bk_ BK137.out) hb)
               have n3_ := Aside0.mk (blk_below (g := gb151) (o := .cells #[.int .i64 t147, .string t148, .string t149] 35 (0, 0)) (bk_ BK151.out) hb)
               have n4_ := Aside0.mk (blk_below (g := gb156) (o := .cells #[.int .i64 t152, .string t153, .string t154] 35 (0, 0)) (bk_ BK156.out) hb)
               have n5_ := Aside0.mk (blk_below (g := gb161) (o := .cells #[.int .i64 t157, .string t158, .string t159] 35 (0, 0)) (bk_ BK161.out) hb)
               have n6_ := Aside0.mk (below_step (hs_) hb)
               clear HO_7
               clear BK137
               clear BK151
               clear BK156
               clear BK161
               clear HB
               have HO_7 := n0_
               have HO164 := n1_
               have BK137 := n2_
               have BK151 := n3_
               have BK156 := n4_
               have BK161 := n5_
               have HB := n6_
               clear n0_ n1_ n2_ n3_ n4_ n5_ n6_
               (try clear hb)
               (try clear hb2)
               (try clear hk)
               (try clear hi)
               (try clear ho0)
               obtain ⟨Ao107, co107, eo107⟩ := Kd.R_slice HO164.out
               (first | subst eo107 | (injection eo107 with f1_ f2_ f3_; have f4_ := f1_.symm; have f5_ := f3_.symm; clear f1_ f2_ f3_; subst f4_; subst f5_))
               refine hK.out _ _ ⟨(blk_cell BK137.out 0).trans rfl, (blk_cell BK137.out 1).trans rfl, (blk_cell BK137.out 2).trans rfl⟩ (fun hHeld => ?_)
               clear hK K
               refine norm_ (a' := ?_) ?_ ?_
               rotate_left
               ·show Act.put _ (some 79) _ = _
                simp only [Act.put, List.setIfInBounds_toArray, List.set_cons_zero, List.set_cons_succ, i64_w, i32_w]
                rfl
               refine two_ (i := 6) (j := 10) (Ni := some 82) (Nj := some 14) #[true, true, true, true, true, true, true, false, false, false, false, false, false] #[true, true, true, true, true, true, false, false, false, false, true, false, false] rfl rfl rfl rfl (two_of HT_.out (by kernel_rfl)) (by decide) (by decide) (fun K hK => ?_) (fun K hK => ?_)
               ·skip
                refine goes_ Tryd.func25 (by kernel_rfl) rfl #[.slice Ao107 t162.length co107, .string a1_1] (by rfl) rfl rfl (by (try simp only [List.map_toArray, List.map_cons, List.map_nil]); first | done | rfl | (simp only [List.length_drop, List.length_take]; rfl)) ?_
                with_reducible refine (tree_Find.calls kj22 _ _ t162 a1_1 t165 t166 t167 false _ ?side1 ?side2 A43.out).mono ?_
                (case side1 => repeat (first | exact (Kd.R_reads' HO164.out).2.2 | (with_reducible refine Kd.C_alloc ?_ _) | (with_reducible refine Kd.C_drewN ?_ _) | (with_reducible refine Kd.C_drew ?_)))
                (case side2 => exact (Kd.R_reads' HO164.out).2.1)
                rintro e w108 ⟨rfl, hb⟩
                refine ⟨_, rfl, ?_⟩
                have n0_ := Aside0.mk (Kd.R_below (rk_ HO_7.out) hb)
                have n1_ := Aside0.mk (Kd.R_below (rk_ HO164.out) hb)
                have n2_ := Aside0.mk (blk_below (g := gb137) (o := .cells #[.int .i64 a1_0, .string a1_1, .string a1_2] 35 (0, 0)) (bk_ BK137.out) hb)
                have n3_ := Aside0.mk (blk_below (g := gb151) (o := .cells #[.int .i64 t147, .string t148, .string t149] 35 (0, 0)) (bk_ BK151.out) hb)
                have n4_ := Aside0.mk (blk_below (g := gb156) (o := .cells #[.int .i64 t152, .string t153, .string t154] 35 (0, 0)) (bk_ BK156.out) hb)
                have n5_ := Aside0.mk (blk_below (g := gb161) (o := .cells #[.int .i64 t157, .string t158, .string t159] 35 (0, 0)) (bk_ BK161.out) hb)
                have n6_ := Aside0.mk (below_step (hs_) hb)
                clear HO_7
                clear HO164
                clear BK137
                clear BK151
                clear BK156
                clear BK161
                clear HB
                have HO_7 := n0_
                have HO164 := n1_
                have BK137 := n2_
                have BK151 := n3_
                have BK156 := n4_
                have BK161 := n5_
                have HB := n6_
                clear n0_ n1_ n2_ n3_ n4_ n5_ n6_
                (try clear hb)
                (try clear hb2)
                (try clear hk)
                (try clear hi)
                refine hK.out _ _ ⟨(blk_cell BK137.out 0).trans rfl, (blk_cell BK137.out 1).trans rfl, (blk_cell BK137.out 2).trans rfl⟩ (fun hHeld => ?_)
                clear hK K
                refine norm_ (a' := ?_) ?_ ?_
                rotate_left
                ·show Act.put _ (some 82) _ = _
                 simp only [Act.put, List.setIfInBounds_toArray, List.set_cons_zero, List.set_cons_succ, i64_w, i32_w]
                 rfl
                refine pure_ (i := 7) (N := some 75) (v := ?_) (a' := ?_) #[true, true, true, true, true, true, true, true, false, false, false, false, false] rfl rfl (any_of HT_.out (by kernel_rfl)) (fun _ _ _ h => h) (Or.inl ⟨by rfl, ?_⟩) ?_ ?_
                rotate_left
                ·intro w'
                 go_simp
                 with_reducible rfl
                rotate_left
                ·simp only [Act.put, List.setIfInBounds_toArray, List.set_cons_zero, List.set_cons_succ, i64_w, i32_w]
                 rfl
                refine pure_ (i := 8) (N := some 83) (v := ?_) (a' := ?_) #[true, true, true, true, true, true, true, true, true, false, false, false, false] rfl rfl (any_of HT_.out (by kernel_rfl)) (fun _ _ _ h => h) (Or.inl ⟨by rfl, ?_⟩) ?_ ?_
                rotate_left
                ·intro w'
                 go_simp
                 with_reducible rfl
                rotate_left
                ·simp only [Act.put, List.setIfInBounds_toArray, List.set_cons_zero, List.set_cons_succ, i64_w, i32_w]
                 rfl
                refine pure_ (i := 9) (N := some 84) (v := ?_) (a' := ?_) #[true, true, true, true, true, true, true, true, true, true, false, false, false] rfl rfl (any_of HT_.out (by kernel_rfl)) (fun _ _ _ h => h) (Or.inl ⟨by rfl, ?_⟩) ?_ ?_
                rotate_left
                ·intro w'
                 go_simp
                 with_reducible rfl
                rotate_left
                ·simp only [Act.put, List.setIfInBounds_toArray, List.set_cons_zero, List.set_cons_succ, i64_w, i32_w]
                 rfl
                refine one_ (i := 10) (N := some 14) #[true, true, true, true, true, true, true, true, true, true, true, false, false] rfl rfl (one_of HT_.out (by kernel_rfl)) (by decide) (fun K hK => ?_)
                refine box_step ?hg (N := 14) ?hd (cs := #[.int .i64 0, .string (⟨#[]⟩ : ByteArray), .string (⟨#[]⟩ : ByteArray)]) (t := 35) ?hr ?_; (case hd => rfl); (case hg => rfl); (case hr => first | (go_simp; done) | (go_simp; rfl))
                intro gb169 hg w109 hbox hb
                have n0_ := Aside0.mk (Kd.R_below (Kd.R_elderB (rk_ HO_7.out) gb169 (Nat.le_of_eq hg.symm)) hb)
                have n1_ := Aside0.mk (Kd.R_below (Kd.R_elderB (rk_ HO164.out) gb169 (Nat.le_of_eq hg.symm)) hb)
                have n2_ := Aside0.mk (blk_below (g := gb137) (o := .cells #[.int .i64 a1_0, .string a1_1, .string a1_2] 35 (0, 0)) (bk_ BK137.out) hb)
                have n3_ := Aside0.mk (blk_below (g := gb151) (o := .cells #[.int .i64 t147, .string t148, .string t149] 35 (0, 0)) (bk_ BK151.out) hb)
                have n4_ := Aside0.mk (blk_below (g := gb156) (o := .cells #[.int .i64 t152, .string t153, .string t154] 35 (0, 0)) (bk_ BK156.out) hb)
                have n5_ := Aside0.mk (blk_below (g := gb161) (o := .cells #[.int .i64 t157, .string t158, .string t159] 35 (0, 0)) (bk_ BK161.out) hb)
                have n6_ := Aside0.mk (below_step (hs_) hb)
                have n7_ := Aside0.mk (hbox)
                have n8_ := Aside0.mk ((by rw [hg]; exact (below_size (hs_)) : w.heap.size ≤ gb169))
                have n9_ := Aside0.mk ((by rw [hg]; exact (below_size (hs_)) : w.heap.size ≤ gb169))
                have n10_ := Aside0.mk ((by rw [hg]; exact Nat.ne_of_lt (blk_lt (g := gb137) (o := .cells #[.int .i64 a1_0, .string a1_1, .string a1_2] 35 (0, 0)) (bk_ BK137.out)) : gb137 ≠ gb169))
                have n11_ := Aside0.mk ((by rw [hg]; exact Nat.ne_of_gt (blk_lt (g := gb137) (o := .cells #[.int .i64 a1_0, .string a1_1, .string a1_2] 35 (0, 0)) (bk_ BK137.out)) : gb169 ≠ gb137))
                have n12_ := Aside0.mk ((by rw [hg]; exact Nat.ne_of_lt (blk_lt (g := gb151) (o := .cells #[.int .i64 t147, .string t148, .string t149] 35 (0, 0)) (bk_ BK151.out)) : gb151 ≠ gb169))
                have n13_ := Aside0.mk ((by rw [hg]; exact Nat.ne_of_gt (blk_lt (g := gb151) (o := .cells #[.int .i64 t147, .string t148, .string t149] 35 (0, 0)) (bk_ BK151.out)) : gb169 ≠ gb151))
                have n14_ := Aside0.mk ((by rw [hg]; exact Nat.ne_of_lt (blk_lt (g := gb156) (o := .cells #[.int .i64 t152, .string t153, .string t154] 35 (0, 0)) (bk_ BK156.out)) : gb156 ≠ gb169))
                have n15_ := Aside0.mk ((by rw [hg]; exact Nat.ne_of_gt (blk_lt (g := gb156) (o := .cells #[.int .i64 t152, .string t153, .string t154] 35 (0, 0)) (bk_ BK156.out)) : gb169 ≠ gb156))
                have n16_ := Aside0.mk ((by rw [hg]; exact Nat.ne_of_lt (blk_lt (g := gb161) (o := .cells #[.int .i64 t157, .string t158, .string t159] 35 (0, 0)) (bk_ BK161.out)) : gb161 ≠ gb169))
                have n17_ := Aside0.mk ((by rw [hg]; exact Nat.ne_of_gt (blk_lt (g := gb161) (o := .cells #[.int .i64 t157, .string t158, .string t159] 35 (0, 0)) (bk_ BK161.out)) : gb169 ≠ gb161))
                clear HO_7
                clear HO164
                clear BK137
                clear BK151
                clear BK156
                clear BK161
                clear HB
                have HO_7 := n0_
                have HO164 := n1_
                have BK137 := n2_
                have BK151 := n3_
                have BK156 := n4_
                have BK161 := n5_
                have HB := n6_
                have BK169 := n7_
                have GW169 := n8_
                have GE169 := n9_
                have NB137_169 := n10_
                have NB169_137 := n11_
                have NB151_169 := n12_
                have NB169_151 := n13_
                have NB156_169 := n14_
                have NB169_156 := n15_
                have NB161_169 := n16_
                have NB169_161 := n17_
                clear n0_ n1_ n2_ n3_ n4_ n5_ n6_ n7_ n8_ n9_ n10_ n11_ n12_ n13_ n14_ n15_ n16_ n17_
                clear hb hbox hg
                refine hK.out _ _ ⟨(blk_cell BK137.out 0).trans rfl, (blk_cell BK137.out 1).trans rfl, (blk_cell BK137.out 2).trans rfl⟩ (fun hHeld => ?_)
                clear hK K
                refine norm_ (a' := ?_) ?_ ?_
                rotate_left
                ·show Act.put _ (some 14) _ = _
                 simp only [Act.put, List.setIfInBounds_toArray, List.set_cons_zero, List.set_cons_succ, i64_w, i32_w]
                 rfl
                exact norm_ (by simp only [putAll, Act.put, List.setIfInBounds_toArray, List.set_cons_zero, List.set_cons_succ]) (hCont (.slice Ao107 t162.length co107, gb169) _ ⟨hHeld, (by (with_reducible repeat (first | apply Kd.R_alloc | apply Kd.R_drewN | apply Kd.R_drew)); exact Kd.R_mono HO164.out (fun _ hk => ⟨hk.1.1.1.1.1.2, ⟨hk.1.1.1.1.2, ⟨hk.1.1.1.2, ⟨hk.1.1.2, ⟨hk.1.2, hk.2⟩⟩⟩⟩⟩)), (by (with_reducible repeat (first | apply Kd.R_alloc | apply Kd.R_drewN | apply Kd.R_drew)); exact Kd.R_mono HO_7.out (fun _ hk => ⟨hk.1.2, ⟨hk.1.1.1, ⟨hk.1.1.2.1, ⟨hk.1.1.2.2.1, ⟨hk.1.1.2.2.2, hk.2⟩⟩⟩⟩⟩)), (bk_ BK137.out), (bk_ BK151.out), (bk_ BK156.out), (bk_ BK161.out), (bk_ BK169.out), GW169.out, GE169.out, NB137_169.out, NB169_137.out, NB151_169.out, NB169_151.out, NB156_169.out, NB169_156.out, NB161_169.out, NB169_161.out, (hs_)⟩)
               ·skip
                refine box_step ?hg (N := 14) ?hd (cs := #[.int .i64 0, .string (⟨#[]⟩ : ByteArray), .string (⟨#[]⟩ : ByteArray)]) (t := 35) ?hr ?_; (case hd => rfl); (case hg => rfl); (case hr => first | (go_simp; done) | (go_simp; rfl))
                intro gb169 hg w107 hbox hb
                have n0_ := Aside0.mk (Kd.R_below (Kd.R_elderB (rk_ HO_7.out) gb169 (Nat.le_of_eq hg.symm)) hb)
                have n1_ := Aside0.mk (Kd.R_below (Kd.R_elderB (rk_ HO164.out) gb169 (Nat.le_of_eq hg.symm)) hb)
                have n2_ := Aside0.mk (blk_below (g := gb137) (o := .cells #[.int .i64 a1_0, .string a1_1, .string a1_2] 35 (0, 0)) (bk_ BK137.out) hb)
                have n3_ := Aside0.mk (blk_below (g := gb151) (o := .cells #[.int .i64 t147, .string t148, .string t149] 35 (0, 0)) (bk_ BK151.out) hb)
                have n4_ := Aside0.mk (blk_below (g := gb156) (o := .cells #[.int .i64 t152, .string t153, .string t154] 35 (0, 0)) (bk_ BK156.out) hb)
                have n5_ := Aside0.mk (blk_below (g := gb161) (o := .cells #[.int .i64 t157, .string t158, .string t159] 35 (0, 0)) (bk_ BK161.out) hb)
                have n6_ := Aside0.mk (below_step (hs_) hb)
                have n7_ := Aside0.mk (hbox)
                have n8_ := Aside0.mk ((by rw [hg]; exact (below_size (hs_)) : w.heap.size ≤ gb169))
                have n9_ := Aside0.mk ((by rw [hg]; exact (below_size (hs_)) : w.heap.size ≤ gb169))
                have n10_ := Aside0.mk ((by rw [hg]; exact Nat.ne_of_lt (blk_lt (g := gb137) (o := .cells #[.int .i64 a1_0, .string a1_1, .string a1_2] 35 (0, 0)) (bk_ BK137.out)) : gb137 ≠ gb169))
                have n11_ := Aside0.mk ((by rw [hg]; exact Nat.ne_of_gt (blk_lt (g := gb137) (o := .cells #[.int .i64 a1_0, .string a1_1, .string a1_2] 35 (0, 0)) (bk_ BK137.out)) : gb169 ≠ gb137))
                have n12_ := Aside0.mk ((by rw [hg]; exact Nat.ne_of_lt (blk_lt (g := gb151) (o := .cells #[.int .i64 t147, .string t148, .string t149] 35 (0, 0)) (bk_ BK151.out)) : gb151 ≠ gb169))
                have n13_ := Aside0.mk ((by rw [hg]; exact Nat.ne_of_gt (blk_lt (g := gb151) (o := .cells #[.int .i64 t147, .string t148, .string t149] 35 (0, 0)) (bk_ BK151.out)) : gb169 ≠ gb151))
                have n14_ := Aside0.mk ((by rw [hg]; exact Nat.ne_of_lt (blk_lt (g := gb156) (o := .cells #[.int .i64 t152, .string t153, .string t154] 35 (0, 0)) (bk_ BK156.out)) : gb156 ≠ gb169))
                have n15_ := Aside0.mk ((by rw [hg]; exact Nat.ne_of_gt (blk_lt (g := gb156) (o := .cells #[.int .i64 t152, .string t153, .string t154] 35 (0, 0)) (bk_ BK156.out)) : gb169 ≠ gb156))
                have n16_ := Aside0.mk ((by rw [hg]; exact Nat.ne_of_lt (blk_lt (g := gb161) (o := .cells #[.int .i64 t157, .string t158, .string t159] 35 (0, 0)) (bk_ BK161.out)) : gb161 ≠ gb169))
                have n17_ := Aside0.mk ((by rw [hg]; exact Nat.ne_of_gt (blk_lt (g := gb161) (o := .cells #[.int .i64 t157, .string t158, .string t159] 35 (0, 0)) (bk_ BK161.out)) : gb169 ≠ gb161))
                clear HO_7
                clear HO164
                clear BK137
                clear BK151
                clear BK156
                clear BK161
                clear HB
                have HO_7 := n0_
                have HO164 := n1_
                have BK137 := n2_
                have BK151 := n3_
                have BK156 := n4_
                have BK161 := n5_
                have HB := n6_
                have BK169 := n7_
                have GW169 := n8_
                have GE169 := n9_
                have NB137_169 := n10_
                have NB169_137 := n11_
                have NB151_169 := n12_
                have NB169_151 := n13_
                have NB156_169 := n14_
                have NB169_156 := n15_
                have NB161_169 := n16_
                have NB169_161 := n17_
                clear n0_ n1_ n2_ n3_ n4_ n5_ n6_ n7_ n8_ n9_ n10_ n11_ n12_ n13_ n14_ n15_ n16_ n17_
                clear hb hbox hg
                obtain ⟨Ao108, co108, eo108⟩ := Kd.R_slice HO164.out
                (first | subst eo108 | (injection eo108 with f1_ f2_ f3_; have f4_ := f1_.symm; have f5_ := f3_.symm; clear f1_ f2_ f3_; subst f4_; subst f5_))
                refine hK.out _ _ ⟨(blk_cell BK137.out 0).trans rfl, (blk_cell BK137.out 1).trans rfl, (blk_cell BK137.out 2).trans rfl⟩ (fun hHeld => ?_)
                clear hK K
                refine norm_ (a' := ?_) ?_ ?_
                rotate_left
                ·show Act.put _ (some 14) _ = _
                 simp only [Act.put, List.setIfInBounds_toArray, List.set_cons_zero, List.set_cons_succ, i64_w, i32_w]
                 rfl
                refine one_ (i := 6) (N := some 82) #[true, true, true, true, true, true, true, false, false, false, true, false, false] rfl rfl (one_of HT_.out (by kernel_rfl)) (by decide) (fun K hK => ?_)
                refine goes_ Tryd.func25 (by kernel_rfl) rfl #[.slice Ao108 t162.length co108, .string a1_1] (by rfl) rfl rfl (by (try simp only [List.map_toArray, List.map_cons, List.map_nil]); first | done | rfl | (simp only [List.length_drop, List.length_take]; rfl)) ?_
                with_reducible refine (tree_Find.calls kj22 _ _ t162 a1_1 t165 t166 t167 false _ ?side1 ?side2 A43.out).mono ?_
                (case side1 => repeat (first | exact (Kd.R_reads' HO164.out).2.2 | (with_reducible refine Kd.C_alloc ?_ _) | (with_reducible refine Kd.C_drewN ?_ _) | (with_reducible refine Kd.C_drew ?_)))
                (case side2 => exact (Kd.R_reads' HO164.out).2.1)
                rintro e w109 ⟨rfl, hb⟩
                refine ⟨_, rfl, ?_⟩
                have n0_ := Aside0.mk (Kd.R_below (rk_ HO_7.out) hb)
                have n1_ := Aside0.mk (Kd.R_below (rk_ HO164.out) hb)
                have n2_ := Aside0.mk (blk_below (g := gb137) (o := .cells #[.int .i64 a1_0, .string a1_1, .string a1_2] 35 (0, 0)) (bk_ BK137.out) hb)
                have n3_ := Aside0.mk (blk_below (g := gb151) (o := .cells #[.int .i64 t147, .string t148, .string t149] 35 (0, 0)) (bk_ BK151.out) hb)
                have n4_ := Aside0.mk (blk_below (g := gb156) (o := .cells #[.int .i64 t152, .string t153, .string t154] 35 (0, 0)) (bk_ BK156.out) hb)
                have n5_ := Aside0.mk (blk_below (g := gb161) (o := .cells #[.int .i64 t157, .string t158, .string t159] 35 (0, 0)) (bk_ BK161.out) hb)
                have n6_ := Aside0.mk (blk_below (g := gb169) (o := .cells #[.int .i64 0, .string (⟨#[]⟩ : ByteArray), .string (⟨#[]⟩ : ByteArray)] 35 (0, 0)) (bk_ BK169.out) hb)
                have n7_ := Aside0.mk (below_step (hs_) hb)
                clear HO_7
                clear HO164
                clear BK137
                clear BK151
                clear BK156
                clear BK161
                clear BK169
                clear HB
                have HO_7 := n0_
                have HO164 := n1_
                have BK137 := n2_
                have BK151 := n3_
                have BK156 := n4_
                have BK161 := n5_
                have BK169 := n6_
                have HB := n7_
                clear n0_ n1_ n2_ n3_ n4_ n5_ n6_ n7_
                (try clear hb)
                (try clear hb2)
                (try clear hk)
                (try clear hi)
                refine hK.out _ _ ⟨(blk_cell BK137.out 0).trans rfl, (blk_cell BK137.out 1).trans rfl, (blk_cell BK137.out 2).trans rfl⟩ (fun hHeld => ?_)
                clear hK K
                refine norm_ (a' := ?_) ?_ ?_
                rotate_left
                ·show Act.put _ (some 82) _ = _
                 simp only [Act.put, List.setIfInBounds_toArray, List.set_cons_zero, List.set_cons_succ, i64_w, i32_w]
                 rfl
                refine pure_ (i := 7) (N := some 75) (v := ?_) (a' := ?_) #[true, true, true, true, true, true, true, true, false, false, true, false, false] rfl rfl (any_of HT_.out (by kernel_rfl)) (fun _ _ _ h => h) (Or.inl ⟨by rfl, ?_⟩) ?_ ?_
                rotate_left
                ·intro w'
                 go_simp
                 with_reducible rfl
                rotate_left
                ·simp only [Act.put, List.setIfInBounds_toArray, List.set_cons_zero, List.set_cons_succ, i64_w, i32_w]
                 rfl
                refine pure_ (i := 8) (N := some 83) (v := ?_) (a' := ?_) #[true, true, true, true, true, true, true, true, true, false, true, false, false] rfl rfl (any_of HT_.out (by kernel_rfl)) (fun _ _ _ h => h) (Or.inl ⟨by rfl, ?_⟩) ?_ ?_
                rotate_left
                ·intro w'
                 go_simp
                 with_reducible rfl
                rotate_left
                ·simp only [Act.put, List.setIfInBounds_toArray, List.set_cons_zero, List.set_cons_succ, i64_w, i32_w]
                 rfl
                refine pure_ (i := 9) (N := some 84) (v := ?_) (a' := ?_) #[true, true, true, true, true, true, true, true, true, true, true, false, false] rfl rfl (any_of HT_.out (by kernel_rfl)) (fun _ _ _ h => h) (Or.inl ⟨by rfl, ?_⟩) ?_ ?_
                rotate_left
                ·intro w'
                 go_simp
                 with_reducible rfl
                rotate_left
                ·simp only [Act.put, List.setIfInBounds_toArray, List.set_cons_zero, List.set_cons_succ, i64_w, i32_w]
                 rfl
                exact norm_ (by simp only [putAll, Act.put, List.setIfInBounds_toArray, List.set_cons_zero, List.set_cons_succ]) (hCont (.slice Ao108 t162.length co108, gb169) _ ⟨hHeld, (by (with_reducible repeat (first | apply Kd.R_alloc | apply Kd.R_drewN | apply Kd.R_drew)); exact Kd.R_mono HO164.out (fun _ hk => ⟨hk.1.1.1.1.1.2, ⟨hk.1.1.1.1.2, ⟨hk.1.1.1.2, ⟨hk.1.1.2, ⟨hk.1.2, hk.2⟩⟩⟩⟩⟩)), (by (with_reducible repeat (first | apply Kd.R_alloc | apply Kd.R_drewN | apply Kd.R_drew)); exact Kd.R_mono HO_7.out (fun _ hk => ⟨hk.1.2, ⟨hk.1.1.1, ⟨hk.1.1.2.1, ⟨hk.1.1.2.2.1, ⟨hk.1.1.2.2.2, hk.2⟩⟩⟩⟩⟩)), (bk_ BK137.out), (bk_ BK151.out), (bk_ BK156.out), (bk_ BK161.out), (bk_ BK169.out), GW169.out, GE169.out, NB137_169.out, NB169_137.out, NB151_169.out, NB169_151.out, NB156_169.out, NB169_156.out, NB161_169.out, NB169_161.out, (hs_)⟩)
              ·skip
               refine box_step ?hg (N := 14) ?hd (cs := #[.int .i64 0, .string (⟨#[]⟩ : ByteArray), .string (⟨#[]⟩ : ByteArray)]) (t := 35) ?hr ?_; (case hd => rfl); (case hg => rfl); (case hr => first | (go_simp; done) | (go_simp; rfl))
               intro gb169 hg w106 hbox hb
               have n0_ := Aside0.mk (Kd.R_below (Kd.R_elderB (rk_ HO_7.out) gb169 (Nat.le_of_eq hg.symm)) hb)
               have n1_ := Aside0.mk (blk_below (g := gb137) (o := .cells #[.int .i64 a1_0, .string a1_1, .string a1_2] 35 (0, 0)) (bk_ BK137.out) hb)
               have n2_ := Aside0.mk (blk_below (g := gb151) (o := .cells #[.int .i64 t147, .string t148, .string t149] 35 (0, 0)) (bk_ BK151.out) hb)
               have n3_ := Aside0.mk (blk_below (g := gb156) (o := .cells #[.int .i64 t152, .string t153, .string t154] 35 (0, 0)) (bk_ BK156.out) hb)
               have n4_ := Aside0.mk (blk_below (g := gb161) (o := .cells #[.int .i64 t157, .string t158, .string t159] 35 (0, 0)) (bk_ BK161.out) hb)
               have n5_ := Aside0.mk (below_step (hs_) hb)
               have n6_ := Aside0.mk (hbox)
               have n7_ := Aside0.mk ((by rw [hg]; exact (below_size (hs_)) : w.heap.size ≤ gb169))
               have n8_ := Aside0.mk ((by rw [hg]; exact (below_size (hs_)) : w.heap.size ≤ gb169))
               have n9_ := Aside0.mk ((by rw [hg]; exact Nat.ne_of_lt (blk_lt (g := gb137) (o := .cells #[.int .i64 a1_0, .string a1_1, .string a1_2] 35 (0, 0)) (bk_ BK137.out)) : gb137 ≠ gb169))
               have n10_ := Aside0.mk ((by rw [hg]; exact Nat.ne_of_gt (blk_lt (g := gb137) (o := .cells #[.int .i64 a1_0, .string a1_1, .string a1_2] 35 (0, 0)) (bk_ BK137.out)) : gb169 ≠ gb137))
               have n11_ := Aside0.mk ((by rw [hg]; exact Nat.ne_of_lt (blk_lt (g := gb151) (o := .cells #[.int .i64 t147, .string t148, .string t149] 35 (0, 0)) (bk_ BK151.out)) : gb151 ≠ gb169))
               have n12_ := Aside0.mk ((by rw [hg]; exact Nat.ne_of_gt (blk_lt (g := gb151) (o := .cells #[.int .i64 t147, .string t148, .string t149] 35 (0, 0)) (bk_ BK151.out)) : gb169 ≠ gb151))
               have n13_ := Aside0.mk ((by rw [hg]; exact Nat.ne_of_lt (blk_lt (g := gb156) (o := .cells #[.int .i64 t152, .string t153, .string t154] 35 (0, 0)) (bk_ BK156.out)) : gb156 ≠ gb169))
               have n14_ := Aside0.mk ((by rw [hg]; exact Nat.ne_of_gt (blk_lt (g := gb156) (o := .cells #[.int .i64 t152, .string t153, .string t154] 35 (0, 0)) (bk_ BK156.out)) : gb169 ≠ gb156))
               have n15_ := Aside0.mk ((by rw [hg]; exact Nat.ne_of_lt (blk_lt (g := gb161) (o := .cells #[.int .i64 t157, .string t158, .string t159] 35 (0, 0)) (bk_ BK161.out)) : gb161 ≠ gb169))
               have n16_ := Aside0.mk ((by rw [hg]; exact Nat.ne_of_gt (blk_lt (g := gb161) (o := .cells #[.int .i64 t157, .string t158, .string t159] 35 (0, 0)) (bk_ BK161.out)) : gb169 ≠ gb161))
               clear HO_7
               clear BK137
               clear BK151
               clear BK156
               clear BK161
               clear HB
               have HO_7 := n0_
               have BK137 := n1_
               have BK151 := n2_
               have BK156 := n3_
               have BK161 := n4_
               have HB := n5_
               have BK169 := n6_
               have GW169 := n7_
               have GE169 := n8_
               have NB137_169 := n9_
               have NB169_137 := n10_
               have NB151_169 := n11_
               have NB169_151 := n12_
               have NB156_169 := n13_
               have NB169_156 := n14_
               have NB161_169 := n15_
               have NB169_161 := n16_
               clear n0_ n1_ n2_ n3_ n4_ n5_ n6_ n7_ n8_ n9_ n10_ n11_ n12_ n13_ n14_ n15_ n16_
               clear hb hbox hg
               refine hK.out _ _ ⟨(blk_cell BK137.out 0).trans rfl, (blk_cell BK137.out 1).trans rfl, (blk_cell BK137.out 2).trans rfl⟩ (fun hHeld => ?_)
               clear hK K
               refine norm_ (a' := ?_) ?_ ?_
               rotate_left
               ·show Act.put _ (some 14) _ = _
                simp only [Act.put, List.setIfInBounds_toArray, List.set_cons_zero, List.set_cons_succ, i64_w, i32_w]
                rfl
               refine one_ (i := 3) (N := some 79) #[true, true, true, true, true, true, false, false, false, false, true, false, false] rfl rfl (one_of HT_.out (by kernel_rfl)) (by decide) (fun K hK => ?_)
               refine goes_ Tryd.func30 (by kernel_rfl) rfl #[.slice Ao88 t142.length co88, .string a1_1] (by rfl) rfl rfl (by (try simp only [List.map_toArray, List.map_cons, List.map_nil]); first | done | rfl | (simp only [List.length_drop, List.length_take]; rfl)) ?_
               with_reducible refine (tree_Drop.calls kj22 _ _ t142 a1_1 t162 _ ?side1 ?side2 A42.out).mono ?_
               (case side1 => repeat (first | exact (Kd.R_reads' HO_7.out).2.2 | (with_reducible refine Kd.C_alloc ?_ _) | (with_reducible refine Kd.C_drewN ?_ _) | (with_reducible refine Kd.C_drew ?_)))
               (case side2 => exact (Kd.R_reads' HO_7.out).2.1)
               rintro e w107 ⟨v163, rfl, ho0, hb⟩
               refine ⟨_, rfl, ?_⟩
               have n0_ := Aside0.mk (Kd.R_elder' (rk_ HO_7.out) (Kd.R_base ho0) hb)
               have n1_ := Aside0.mk (Kd.R_lower (Kd.R_newB (Kd.R_newB (Kd.R_newB (Kd.R_newB (Kd.R_newB (Kd.R_new' ho0 (Kd.R_lt (rk_ HO_7.out))) (g := gb137) (o := .cells #[.int .i64 a1_0, .string a1_1, .string a1_2] 35 (0, 0)) (bk_ BK137.out)) (g := gb151) (o := .cells #[.int .i64 t147, .string t148, .string t149] 35 (0, 0)) (bk_ BK151.out)) (g := gb156) (o := .cells #[.int .i64 t152, .string t153, .string t154] 35 (0, 0)) (bk_ BK156.out)) (g := gb161) (o := .cells #[.int .i64 t157, .string t158, .string t159] 35 (0, 0)) (bk_ BK161.out)) (g := gb169) (o := .cells #[.int .i64 0, .string (⟨#[]⟩ : ByteArray), .string (⟨#[]⟩ : ByteArray)] 35 (0, 0)) (bk_ BK169.out)) (below_size (hs_)))
               have n2_ := Aside0.mk (blk_below (g := gb137) (o := .cells #[.int .i64 a1_0, .string a1_1, .string a1_2] 35 (0, 0)) (bk_ BK137.out) hb)
               have n3_ := Aside0.mk (blk_below (g := gb151) (o := .cells #[.int .i64 t147, .string t148, .string t149] 35 (0, 0)) (bk_ BK151.out) hb)
               have n4_ := Aside0.mk (blk_below (g := gb156) (o := .cells #[.int .i64 t152, .string t153, .string t154] 35 (0, 0)) (bk_ BK156.out) hb)
               have n5_ := Aside0.mk (blk_below (g := gb161) (o := .cells #[.int .i64 t157, .string t158, .string t159] 35 (0, 0)) (bk_ BK161.out) hb)
               have n6_ := Aside0.mk (blk_below (g := gb169) (o := .cells #[.int .i64 0, .string (⟨#[]⟩ : ByteArray), .string (⟨#[]⟩ : ByteArray)] 35 (0, 0)) (bk_ BK169.out) hb)
               have n7_ := Aside0.mk (below_step (hs_) hb)
               clear HO_7
               clear BK137
               clear BK151
               clear BK156
               clear BK161
               clear BK169
               clear HB
               have HO_7 := n0_
               have HO164 := n1_
               have BK137 := n2_
               have BK151 := n3_
               have BK156 := n4_
               have BK161 := n5_
               have BK169 := n6_
               have HB := n7_
               clear n0_ n1_ n2_ n3_ n4_ n5_ n6_ n7_
               (try clear hb)
               (try clear hb2)
               (try clear hk)
               (try clear hi)
               (try clear ho0)
               obtain ⟨Ao108, co108, eo108⟩ := Kd.R_slice HO164.out
               (first | subst eo108 | (injection eo108 with f1_ f2_ f3_; have f4_ := f1_.symm; have f5_ := f3_.symm; clear f1_ f2_ f3_; subst f4_; subst f5_))
               refine hK.out _ _ ⟨(blk_cell BK137.out 0).trans rfl, (blk_cell BK137.out 1).trans rfl, (blk_cell BK137.out 2).trans rfl⟩ (fun hHeld => ?_)
               clear hK K
               refine norm_ (a' := ?_) ?_ ?_
               rotate_left
               ·show Act.put _ (some 79) _ = _
                simp only [Act.put, List.setIfInBounds_toArray, List.set_cons_zero, List.set_cons_succ, i64_w, i32_w]
                rfl
               refine one_ (i := 6) (N := some 82) #[true, true, true, true, true, true, true, false, false, false, true, false, false] rfl rfl (one_of HT_.out (by kernel_rfl)) (by decide) (fun K hK => ?_)
               refine goes_ Tryd.func25 (by kernel_rfl) rfl #[.slice Ao108 t162.length co108, .string a1_1] (by rfl) rfl rfl (by (try simp only [List.map_toArray, List.map_cons, List.map_nil]); first | done | rfl | (simp only [List.length_drop, List.length_take]; rfl)) ?_
               with_reducible refine (tree_Find.calls kj22 _ _ t162 a1_1 t165 t166 t167 false _ ?side1 ?side2 A43.out).mono ?_
               (case side1 => repeat (first | exact (Kd.R_reads' HO164.out).2.2 | (with_reducible refine Kd.C_alloc ?_ _) | (with_reducible refine Kd.C_drewN ?_ _) | (with_reducible refine Kd.C_drew ?_)))
               (case side2 => exact (Kd.R_reads' HO164.out).2.1)
               rintro e w109 ⟨rfl, hb⟩
               refine ⟨_, rfl, ?_⟩
               have n0_ := Aside0.mk (Kd.R_below (rk_ HO_7.out) hb)
               have n1_ := Aside0.mk (Kd.R_below (rk_ HO164.out) hb)
               have n2_ := Aside0.mk (blk_below (g := gb137) (o := .cells #[.int .i64 a1_0, .string a1_1, .string a1_2] 35 (0, 0)) (bk_ BK137.out) hb)
               have n3_ := Aside0.mk (blk_below (g := gb151) (o := .cells #[.int .i64 t147, .string t148, .string t149] 35 (0, 0)) (bk_ BK151.out) hb)
               have n4_ := Aside0.mk (blk_below (g := gb156) (o := .cells #[.int .i64 t152, .string t153, .string t154] 35 (0, 0)) (bk_ BK156.out) hb)
               have n5_ := Aside0.mk (blk_below (g := gb161) (o := .cells #[.int .i64 t157, .string t158, .string t159] 35 (0, 0)) (bk_ BK161.out) hb)
               have n6_ := Aside0.mk (blk_below (g := gb169) (o := .cells #[.int .i64 0, .string (⟨#[]⟩ : ByteArray), .string (⟨#[]⟩ : ByteArray)] 35 (0, 0)) (bk_ BK169.out) hb)
               have n7_ := Aside0.mk (below_step (hs_) hb)
               clear HO_7
               clear HO164
               clear BK137
               clear BK151
               clear BK156
               clear BK161
               clear BK169
               clear HB
               have HO_7 := n0_
               have HO164 := n1_
               have BK137 := n2_
               have BK151 := n3_
               have BK156 := n4_
               have BK161 := n5_
               have BK169 := n6_
               have HB := n7_
               clear n0_ n1_ n2_ n3_ n4_ n5_ n6_ n7_
               (try clear hb)
               (try clear hb2)
               (try clear hk)
               (try clear hi)
               refine hK.out _ _ ⟨(blk_cell BK137.out 0).trans rfl, (blk_cell BK137.out 1).trans rfl, (blk_cell BK137.out 2).trans rfl⟩ (fun hHeld => ?_)
               clear hK K
               refine norm_ (a' := ?_) ?_ ?_
               rotate_left
               ·show Act.put _ (some 82) _ = _
                simp only [Act.put, List.setIfInBounds_toArray, List.set_cons_zero, List.set_cons_succ, i64_w, i32_w]
                rfl
               refine pure_ (i := 7) (N := some 75) (v := ?_) (a' := ?_) #[true, true, true, true, true, true, true, true, false, false, true, false, false] rfl rfl (any_of HT_.out (by kernel_rfl)) (fun _ _ _ h => h) (Or.inl ⟨by rfl, ?_⟩) ?_ ?_
               rotate_left
               ·intro w'
                go_simp
                with_reducible rfl
               rotate_left
               ·simp only [Act.put, List.setIfInBounds_toArray, List.set_cons_zero, List.set_cons_succ, i64_w, i32_w]
                rfl
               refine pure_ (i := 8) (N := some 83) (v := ?_) (a' := ?_) #[true, true, true, true, true, true, true, true, true, false, true, false, false] rfl rfl (any_of HT_.out (by kernel_rfl)) (fun _ _ _ h => h) (Or.inl ⟨by rfl, ?_⟩) ?_ ?_
               rotate_left
               ·intro w'
                go_simp
                with_reducible rfl
               rotate_left
               ·simp only [Act.put, List.setIfInBounds_toArray, List.set_cons_zero, List.set_cons_succ, i64_w, i32_w]
                rfl
               refine pure_ (i := 9) (N := some 84) (v := ?_) (a' := ?_) #[true, true, true, true, true, true, true, true, true, true, true, false, false] rfl rfl (any_of HT_.out (by kernel_rfl)) (fun _ _ _ h => h) (Or.inl ⟨by rfl, ?_⟩) ?_ ?_
               rotate_left
               ·intro w'
                go_simp
                with_reducible rfl
               rotate_left
               ·simp only [Act.put, List.setIfInBounds_toArray, List.set_cons_zero, List.set_cons_succ, i64_w, i32_w]
                rfl
               exact norm_ (by simp only [putAll, Act.put, List.setIfInBounds_toArray, List.set_cons_zero, List.set_cons_succ]) (hCont (.slice Ao108 t162.length co108, gb169) _ ⟨hHeld, (by (with_reducible repeat (first | apply Kd.R_alloc | apply Kd.R_drewN | apply Kd.R_drew)); exact Kd.R_mono HO164.out (fun _ hk => ⟨hk.1.1.1.1.1.2, ⟨hk.1.1.1.1.2, ⟨hk.1.1.1.2, ⟨hk.1.1.2, ⟨hk.1.2, hk.2⟩⟩⟩⟩⟩)), (by (with_reducible repeat (first | apply Kd.R_alloc | apply Kd.R_drewN | apply Kd.R_drew)); exact Kd.R_mono HO_7.out (fun _ hk => ⟨hk.2, ⟨hk.1.1.1, ⟨hk.1.1.2.1, ⟨hk.1.1.2.2.1, ⟨hk.1.1.2.2.2, hk.1.2⟩⟩⟩⟩⟩)), (bk_ BK137.out), (bk_ BK151.out), (bk_ BK156.out), (bk_ BK161.out), (bk_ BK169.out), GW169.out, GE169.out, NB137_169.out, NB169_137.out, NB151_169.out, NB169_151.out, NB156_169.out, NB169_156.out, NB161_169.out, NB169_161.out, (hs_)⟩)
             rintro ⟨v163, gb169⟩ w110 ⟨hS_, h0_, h1_, h2_, h3_, h4_, h5_, h6_, h7_, h8_, h9_, h10_, h11_, h12_, h13_, h14_, h15_, h16_, h17_⟩
             have n0_ : Aside0 (Kd.R k35 35 w110 w.heap.size (fun k_ => some k_ ≠ (.slice Ao88 t142.length co88 : Value).ownBlock ∧ k_ ≠ gb137 ∧ k_ ≠ gb151 ∧ k_ ≠ gb156 ∧ k_ ≠ gb161 ∧ k_ ≠ gb169) v163 t162) := ⟨h0_⟩
             have n1_ : Aside0 (Kd.R k35 35 w110 w.heap.size (fun k_ => some k_ ≠ (v163 : Value).ownBlock ∧ k_ ≠ gb137 ∧ k_ ≠ gb151 ∧ k_ ≠ gb156 ∧ k_ ≠ gb161 ∧ k_ ≠ gb169) (.slice Ao88 t142.length co88) t142) := ⟨h1_⟩
             have n2_ : Aside0 (w110.heap[gb137]? = some (.cells #[.int .i64 a1_0, .string a1_1, .string a1_2] 35 (0, 0))) := ⟨h2_⟩
             have n3_ : Aside0 (w110.heap[gb151]? = some (.cells #[.int .i64 t147, .string t148, .string t149] 35 (0, 0))) := ⟨h3_⟩
             have n4_ : Aside0 (w110.heap[gb156]? = some (.cells #[.int .i64 t152, .string t153, .string t154] 35 (0, 0))) := ⟨h4_⟩
             have n5_ : Aside0 (w110.heap[gb161]? = some (.cells #[.int .i64 t157, .string t158, .string t159] 35 (0, 0))) := ⟨h5_⟩
             have n6_ : Aside0 (w110.heap[gb169]? = some (.cells #[.int .i64 0, .string (⟨#[]⟩ : ByteArray), .string (⟨#[]⟩ : ByteArray)] 35 (0, 0))) := ⟨h6_⟩
             have n7_ : Aside0 (w.heap.size ≤ gb169) := ⟨h7_⟩
             have n8_ : Aside0 (w.heap.size ≤ gb169) := ⟨h8_⟩
             have n9_ : Aside0 (gb137 ≠ gb169) := ⟨h9_⟩
             have n10_ : Aside0 (gb169 ≠ gb137) := ⟨h10_⟩
             have n11_ : Aside0 (gb151 ≠ gb169) := ⟨h11_⟩
             have n12_ : Aside0 (gb169 ≠ gb151) := ⟨h12_⟩
             have n13_ : Aside0 (gb156 ≠ gb169) := ⟨h13_⟩
             have n14_ : Aside0 (gb169 ≠ gb156) := ⟨h14_⟩
             have n15_ : Aside0 (gb161 ≠ gb169) := ⟨h15_⟩
             have n16_ : Aside0 (gb169 ≠ gb161) := ⟨h16_⟩
             have n17_ : Aside0 (Below w.heap.size w w110) := ⟨h17_⟩
             clear HO_7
             clear BK137
             clear BK151
             clear BK156
             clear BK161
             clear HB
             clear h0_ h1_ h2_ h3_ h4_ h5_ h6_ h7_ h8_ h9_ h10_ h11_ h12_ h13_ h14_ h15_ h16_ h17_
             have HO164 := n0_
             have HO_7 := n1_
             have BK137 := n2_
             have BK151 := n3_
             have BK156 := n4_
             have BK161 := n5_
             have BK169 := n6_
             have GW169 := n7_
             have GE169 := n8_
             have NB137_169 := n9_
             have NB169_137 := n10_
             have NB151_169 := n11_
             have NB169_151 := n12_
             have NB156_169 := n13_
             have NB169_156 := n14_
             have NB161_169 := n15_
             have NB169_161 := n16_
             have HB := n17_
             clear n0_ n1_ n2_ n3_ n4_ n5_ n6_ n7_ n8_ n9_ n10_ n11_ n12_ n13_ n14_ n15_ n16_ n17_
             have hHeld : w110.cell? ⟨gb137, 0, none⟩ = some (.int .i64 a1_0) ∧ w110.cell? ⟨gb137, 1, none⟩ = some (.string a1_1) ∧ w110.cell? ⟨gb137, 2, none⟩ = some (.string a1_2) := hS_
             refine norm_ (a' := ?_) ?_ ?_
             rotate_left
             ·simp only [putAll, Act.put, List.setIfInBounds_toArray, List.set_cons_zero, List.set_cons_succ]
              rfl
             refine one_ (i := 11) (N := none) #[true, true, true, true, true, true, true, true, true, true, true, true, false] rfl rfl (one_of HT_.out (by kernel_rfl)) (by decide) (fun K hK => ?_)
             have hs111 : w110.cell? ⟨gb169, 0, none⟩ = some (.int .i64 0) := (blk_cell BK169.out 0).trans rfl
             have hfs111 := blk_frozen BK169.out 0
             have hns111_0 := NB137_169.out
             have hns111_1 := NB151_169.out
             have hns111_2 := NB156_169.out
             have hns111_3 := NB161_169.out
             have hms111_0 := NB169_137.out
             have hms111_1 := NB169_151.out
             have hms111_2 := NB169_156.out
             have hms111_3 := NB169_161.out
             have hs112 : w110.cell? ⟨gb169, 1, none⟩ = some (.string (⟨#[]⟩ : ByteArray)) := (blk_cell BK169.out 1).trans rfl
             have hfs112 := blk_frozen BK169.out 1
             have hns112_0 := NB137_169.out
             have hns112_1 := NB151_169.out
             have hns112_2 := NB156_169.out
             have hns112_3 := NB161_169.out
             have hms112_0 := NB169_137.out
             have hms112_1 := NB169_151.out
             have hms112_2 := NB169_156.out
             have hms112_3 := NB169_161.out
             have hs113 : w110.cell? ⟨gb169, 2, none⟩ = some (.string (⟨#[]⟩ : ByteArray)) := (blk_cell BK169.out 2).trans rfl
             have hfs113 := blk_frozen BK169.out 2
             have hns113_0 := NB137_169.out
             have hns113_1 := NB151_169.out
             have hns113_2 := NB156_169.out
             have hns113_3 := NB161_169.out
             have hms113_0 := NB169_137.out
             have hms113_1 := NB169_151.out
             have hms113_2 := NB169_156.out
             have hms113_3 := NB169_161.out
             refine skip_ (w1 := ?_) (by rfl) rfl ?_ ?_
             rotate_left
             ·go_simp
              rfl
             refine hK.out _ _ ⟨((cell_far (p := ⟨gb169, _, none⟩) NB137_169.out _).trans (((cell_far (p := ⟨gb169, _, none⟩) NB137_169.out _).trans (((cell_far (p := ⟨gb169, _, none⟩) NB137_169.out _).trans (hHeld.1)))))), ((cell_far (p := ⟨gb169, _, none⟩) NB137_169.out _).trans (((cell_far (p := ⟨gb169, _, none⟩) NB137_169.out _).trans (((cell_far (p := ⟨gb169, _, none⟩) NB137_169.out _).trans (hHeld.2.1)))))), ((cell_far (p := ⟨gb169, _, none⟩) NB137_169.out _).trans (((cell_far (p := ⟨gb169, _, none⟩) NB137_169.out _).trans (((cell_far (p := ⟨gb169, _, none⟩) NB137_169.out _).trans (hHeld.2.2))))))⟩ (fun hHeld => ?_)
             clear hK K
             refine pure_ (i := 12) (N := some 15) (v := ?_) (a' := ?_) #[true, true, true, true, true, true, true, true, true, true, true, true, true] rfl rfl (any_of HT_.out (by kernel_rfl)) (fun _ _ _ h => h) (Or.inl ⟨by rfl, ?_⟩) ?_ ?_
             rotate_left
             ·intro w'
              go_simp
              with_reducible rfl
             rotate_left
             ·simp only [Act.put, List.setIfInBounds_toArray, List.set_cons_zero, List.set_cons_succ, i64_w, i32_w]
              rfl
             refine done_ (done_of HT_.out (by kernel_rfl)) ?_
             have hnb114 := NB151_169.out
             have hnc114 := NB169_151.out
             have hcz115_0 : w110.cell? ⟨gb151, 0, none⟩ = some (.int .i64 t147) := (blk_cell BK151.out 0).trans rfl
             have hcz115_1 : w110.cell? ⟨gb151, 1, none⟩ = some (.string t148) := (blk_cell BK151.out 1).trans rfl
             have hcz115_2 : w110.cell? ⟨gb151, 2, none⟩ = some (.string t149) := (blk_cell BK151.out 2).trans rfl
             have hfz115_0 := blk_frozen BK151.out 0
             have hfz115_1 := blk_frozen BK151.out 1
             have hfz115_2 := blk_frozen BK151.out 2
             have hnb116 := NB137_169.out
             have hnc116 := NB169_137.out
             have hcz117_0 : w110.cell? ⟨gb137, 0, none⟩ = some (.int .i64 a1_0) := (blk_cell BK137.out 0).trans rfl
             have hcz117_1 : w110.cell? ⟨gb137, 1, none⟩ = some (.string a1_1) := (blk_cell BK137.out 1).trans rfl
             have hcz117_2 : w110.cell? ⟨gb137, 2, none⟩ = some (.string a1_2) := (blk_cell BK137.out 2).trans rfl
             have hfz117_0 := blk_frozen BK137.out 0
             have hfz117_1 := blk_frozen BK137.out 1
             have hfz117_2 := blk_frozen BK137.out 2
             have hnb118 := NB161_169.out
             have hnc118 := NB169_161.out
             have hcz119_0 : w110.cell? ⟨gb161, 0, none⟩ = some (.int .i64 t157) := (blk_cell BK161.out 0).trans rfl
             have hcz119_1 : w110.cell? ⟨gb161, 1, none⟩ = some (.string t158) := (blk_cell BK161.out 1).trans rfl
             have hcz119_2 : w110.cell? ⟨gb161, 2, none⟩ = some (.string t159) := (blk_cell BK161.out 2).trans rfl
             have hfz119_0 := blk_frozen BK161.out 0
             have hfz119_1 := blk_frozen BK161.out 1
             have hfz119_2 := blk_frozen BK161.out 2
             try go_wp2_with (first | (go_at_call 22; (with_reducible refine (graftageref15_Same.calls kj22 _ _ t142 _ _ l0 true _ ?side1 ?side2 ?side3 ?side4 A84.out).mono ?_); (case side1 => refine (Kd.R_reads' (e := 35) (base := w.heap.size) (ok := fun k_ => (some k_ ≠ (v163 : Value).ownBlock ∧ (k_ ≠ gb137 ∧ (k_ ≠ gb151 ∧ (k_ ≠ gb156 ∧ (k_ ≠ gb161 ∧ k_ ≠ gb169)))))) (n := t142.length) (c := co88) ?_).2.2; exact (by (with_reducible repeat (first | apply Kd.R_alloc | apply Kd.R_drewN | apply Kd.R_drew)); exact (Kd.R_mono (Kd.R_far (p := ⟨gb169, 2, none⟩) (Kd.R_far (p := ⟨gb169, 1, none⟩) (Kd.R_far (p := ⟨gb169, 0, none⟩) (Kd.R_mono HO_7.out (fun k_ hk => (⟨hk, hk.2.2.2.2.2⟩ : _ ∧ k_ ≠ gb169))) (fun _ hk => hk.2) (.int .i64 t165)) (fun _ hk => hk.2) (.string t166)) (fun _ hk => hk.2) (.string t167)) (fun _ h_ => h_.1)))); (case side2 => exact (Kd.R_reads' HO_7.out).2.1); (case side3 => exact Kd.C_below HR0.out (hs_)); (case side4 => exact HC0.out); rintro e w' ⟨rfl, ⟨nd, rfl⟩⟩) | (go_at_call 15; (with_reducible refine (graftagelaw15_lives.calls kj22  t172 _ A86.out).mono ?_); rintro e w120 ⟨rfl, hb⟩; have n0_ := Aside0.mk (Kd.R_below (by (with_reducible repeat (first | apply Kd.R_alloc | apply Kd.R_drewN | apply Kd.R_drew)); exact (Kd.R_mono (Kd.R_far (p := ⟨gb169, 2, none⟩) (Kd.R_far (p := ⟨gb169, 1, none⟩) (Kd.R_far (p := ⟨gb169, 0, none⟩) (Kd.R_mono HO_7.out (fun k_ hk => (⟨hk, hk.2.2.2.2.2⟩ : _ ∧ k_ ≠ gb169))) (fun _ hk => hk.2) (.int .i64 t165)) (fun _ hk => hk.2) (.string t166)) (fun _ hk => hk.2) (.string t167)) (fun _ h_ => h_.1))) hb); have n1_ := Aside0.mk (Kd.R_below (by (with_reducible repeat (first | apply Kd.R_alloc | apply Kd.R_drewN | apply Kd.R_drew)); exact (Kd.R_mono (Kd.R_far (p := ⟨gb169, 2, none⟩) (Kd.R_far (p := ⟨gb169, 1, none⟩) (Kd.R_far (p := ⟨gb169, 0, none⟩) (Kd.R_mono HO164.out (fun k_ hk => (⟨hk, hk.2.2.2.2.2⟩ : _ ∧ k_ ≠ gb169))) (fun _ hk => hk.2) (.int .i64 t165)) (fun _ hk => hk.2) (.string t166)) (fun _ hk => hk.2) (.string t167)) (fun _ h_ => h_.1))) hb); have n2_ := Aside0.mk (blk_below (g := gb137) (o := .cells #[.int .i64 a1_0, .string a1_1, .string a1_2] 35 (0, 0)) (by (with_reducible repeat (first | refine blk_drewN ?_ _ | refine blk_drew ?_ | refine blk_alloc ?_ _)); refine blk_far ?_ NB137_169.out _; (with_reducible repeat (first | refine blk_drewN ?_ _ | refine blk_drew ?_ | refine blk_alloc ?_ _)); refine blk_far ?_ NB137_169.out _; (with_reducible repeat (first | refine blk_drewN ?_ _ | refine blk_drew ?_ | refine blk_alloc ?_ _)); refine blk_far ?_ NB137_169.out _; (with_reducible repeat (first | refine blk_drewN ?_ _ | refine blk_drew ?_ | refine blk_alloc ?_ _)); exact BK137.out) hb); have n3_ := Aside0.mk (blk_below (g := gb151) (o := .cells #[.int .i64 t147, .string t148, .string t149] 35 (0, 0)) (by (with_reducible repeat (first | refine blk_drewN ?_ _ | refine blk_drew ?_ | refine blk_alloc ?_ _)); refine blk_far ?_ NB151_169.out _; (with_reducible repeat (first | refine blk_drewN ?_ _ | refine blk_drew ?_ | refine blk_alloc ?_ _)); refine blk_far ?_ NB151_169.out _; (with_reducible repeat (first | refine blk_drewN ?_ _ | refine blk_drew ?_ | refine blk_alloc ?_ _)); refine blk_far ?_ NB151_169.out _; (with_reducible repeat (first | refine blk_drewN ?_ _ | refine blk_drew ?_ | refine blk_alloc ?_ _)); exact BK151.out) hb); have n4_ := Aside0.mk (blk_below (g := gb156) (o := .cells #[.int .i64 t152, .string t153, .string t154] 35 (0, 0)) (by (with_reducible repeat (first | refine blk_drewN ?_ _ | refine blk_drew ?_ | refine blk_alloc ?_ _)); refine blk_far ?_ NB156_169.out _; (with_reducible repeat (first | refine blk_drewN ?_ _ | refine blk_drew ?_ | refine blk_alloc ?_ _)); refine blk_far ?_ NB156_169.out _; (with_reducible repeat (first | refine blk_drewN ?_ _ | refine blk_drew ?_ | refine blk_alloc ?_ _)); refine blk_far ?_ NB156_169.out _; (with_reducible repeat (first | refine blk_drewN ?_ _ | refine blk_drew ?_ | refine blk_alloc ?_ _)); exact BK156.out) hb); have n5_ := Aside0.mk (blk_below (g := gb161) (o := .cells #[.int .i64 t157, .string t158, .string t159] 35 (0, 0)) (by (with_reducible repeat (first | refine blk_drewN ?_ _ | refine blk_drew ?_ | refine blk_alloc ?_ _)); refine blk_far ?_ NB161_169.out _; (with_reducible repeat (first | refine blk_drewN ?_ _ | refine blk_drew ?_ | refine blk_alloc ?_ _)); refine blk_far ?_ NB161_169.out _; (with_reducible repeat (first | refine blk_drewN ?_ _ | refine blk_drew ?_ | refine blk_alloc ?_ _)); refine blk_far ?_ NB161_169.out _; (with_reducible repeat (first | refine blk_drewN ?_ _ | refine blk_drew ?_ | refine blk_alloc ?_ _)); exact BK161.out) hb); have n6_ := Aside0.mk (blk_below (g := gb169) (o := .cells #[.int .i64 t165, .string t166, .string t167] 35 (0, 0)) (by (with_reducible repeat (first | refine blk_drewN ?_ _ | refine blk_drew ?_ | refine blk_alloc ?_ _)); refine blk_put (cs := #[.int .i64 t165, .string t166, .string (⟨#[]⟩ : ByteArray)]) ?_ 2 _ rfl; (with_reducible repeat (first | refine blk_drewN ?_ _ | refine blk_drew ?_ | refine blk_alloc ?_ _)); refine blk_put (cs := #[.int .i64 t165, .string (⟨#[]⟩ : ByteArray), .string (⟨#[]⟩ : ByteArray)]) ?_ 1 _ rfl; (with_reducible repeat (first | refine blk_drewN ?_ _ | refine blk_drew ?_ | refine blk_alloc ?_ _)); refine blk_put (cs := #[.int .i64 0, .string (⟨#[]⟩ : ByteArray), .string (⟨#[]⟩ : ByteArray)]) ?_ 0 _ rfl; (with_reducible repeat (first | refine blk_drewN ?_ _ | refine blk_drew ?_ | refine blk_alloc ?_ _)); exact BK169.out) hb); have n7_ := Aside0.mk (below_step (hs_) hb); clear HO_7; clear HO164; clear BK137; clear BK151; clear BK156; clear BK161; clear BK169; clear HB; have HO_7 := n0_; have HO164 := n1_; have BK137 := n2_; have BK151 := n3_; have BK156 := n4_; have BK161 := n5_; have BK169 := n6_; have HB := n7_; clear n0_ n1_ n2_ n3_ n4_ n5_ n6_ n7_; (try clear hb); (try clear hb2); (try clear hk); (try clear hi)))
             go_ret
             exact ⟨by first | rfl | (simp [errW_none, errW_some] <;> rfl) | (simp [*, errW_none, errW_some] <;> rfl) | (simp [ne_nil_bool]; done) | (simp [*, ne_nil_bool]; done), hs_⟩
            ·replace c85 := Bool.eq_false_iff.mpr c85
             subst c85
             have H1 : (some false) = some r := by rw [if_neg (show ¬ (false = true) by decide)] at H; exact H
             clear H
             have H := H1
             clear H1
             exact absurd ((Option.some.inj H).trans hr_) (by simp)
          ·rw [if_neg c47] at H
           have c47b0 : (a2.toList == a1_1.toList) = false := beq_eq_false_iff_ne.mpr c47
           have c47b1 : (a2.toList != a1_1.toList) = true := bne_iff_ne.mpr c47
           by_cases c121 : (t152 == t157 && (t153.toList == t158.toList && (t154.toList == t159.toList))) = true
           ·rw [if_pos c121] at H
            have c121b0 : (t152 == t157 && (t153.toList == t158.toList && (t154.toList == t159.toList))) = true := c121
            (try (have c121b1 : decide (t152 = t157 && (t153.toList == t158.toList && (t154.toList == t159.toList))) = true := by simpa using c121))
            (try (have c121b2 : (t152 == t157 && (t153.toList == t158.toList && (t154.toList == t159.toList))) = true := by simpa using c121))
            clear c121
            by_cases c122 : (t155 == t160) = true
            ·rw [if_pos c122] at H
             have c122b0 : (t155 == t160) = true := c122
             (try (have c122b1 : decide (t155 = t160) = true := by simpa using c122))
             (try (have c122b2 : (t155 == t160) = true := by simpa using c122))
             clear c122
             replace H := Option.bind_eq_some_iff.mp H
             obtain ⟨t173, A1230, H⟩ := H
             replace H : (some t173) = some r := H
             have A123 := Aside0.mk A1230
             clear A1230
             obtain rfl := Option.some.inj H
             have hcz124_0 : wc.cell? ⟨gb137, 0, none⟩ = some (.int .i64 a1_0) := (blk_cell BK137.out 0).trans rfl
             have hcz124_1 : wc.cell? ⟨gb137, 1, none⟩ = some (.string a1_1) := (blk_cell BK137.out 1).trans rfl
             have hcz124_2 : wc.cell? ⟨gb137, 2, none⟩ = some (.string a1_2) := (blk_cell BK137.out 2).trans rfl
             have hfz124_0 := blk_frozen BK137.out 0
             have hfz124_1 := blk_frozen BK137.out 1
             have hfz124_2 := blk_frozen BK137.out 2
             obtain ⟨Ao125, co125, eo125⟩ := Kd.R_slice HO_7.out
             subst eo125
             try go_wp2_with (first | ((with_reducible refine gate_callee (f := 25) rfl ?_); refine goesL_ (some 60) rfl rfl Tryd.func25 (by kernel_rfl) rfl #[.slice Ao125 t142.length co125, .string a1_1] rfl (by (try simp only [List.map_toArray, List.map_cons, List.map_nil]); first | done | rfl | (simp only [List.length_drop, List.length_take]; rfl)) ?_; (with_reducible refine (tree_Find.calls kj22 _ _ t142 a1_1 t147 t148 t149 true _ ?side1 ?side2 A39.out).mono ?_); (case side1 => repeat (first | exact (Kd.R_reads' HO_7.out).2.2 | (with_reducible refine Kd.C_alloc ?_ _) | (with_reducible refine Kd.C_drewN ?_ _) | (with_reducible refine Kd.C_drew ?_))); (case side2 => exact (Kd.R_reads' HO_7.out).2.1); rintro e w126 ⟨rfl, hb⟩; refine ⟨_, rfl, ?_⟩; have n0_ := Aside0.mk (Kd.R_below (rk_ HO_7.out) hb); have n1_ := Aside0.mk (blk_below (g := gb137) (o := .cells #[.int .i64 a1_0, .string a1_1, .string a1_2] 35 (0, 0)) (bk_ BK137.out) hb); have n2_ := Aside0.mk (below_step (hs_) hb); clear HO_7; clear BK137; clear HB; have HO_7 := n0_; have BK137 := n1_; have HB := n2_; clear n0_ n1_ n2_; (try clear hb); (try clear hb2); (try clear hk); (try clear hi)) | ((with_reducible refine gate_dst (N := 8) rfl ?_); (try (refine gate_guard (by rfl) ?_; dsimp only)); refine box_event ?hg (N := 8) ?hd (cs := #[.int .i64 0, .string (⟨#[]⟩ : ByteArray), .string (⟨#[]⟩ : ByteArray)]) (t := 35) ?hr ?_; (case hd => rfl); (case hg => rfl); (case hr => first | (go_simp; done) | (go_simp; rfl)); intro gb151 hg w127 hbox hb; have n0_ := Aside0.mk (Kd.R_below (Kd.R_elderB (rk_ HO_7.out) gb151 (Nat.le_of_eq hg.symm)) hb); have n1_ := Aside0.mk (blk_below (g := gb137) (o := .cells #[.int .i64 a1_0, .string a1_1, .string a1_2] 35 (0, 0)) (bk_ BK137.out) hb); have n2_ := Aside0.mk (below_step (hs_) hb); have n3_ := Aside0.mk (hbox); have n4_ := Aside0.mk ((by rw [hg]; exact (below_size (hs_)) : w.heap.size ≤ gb151)); have n5_ := Aside0.mk ((by rw [hg]; exact (below_size (hs_)) : w.heap.size ≤ gb151)); have n6_ := Aside0.mk ((by rw [hg]; exact Nat.ne_of_lt (blk_lt (g := gb137) (o := .cells #[.int .i64 a1_0, .string a1_1, .string a1_2] 35 (0, 0)) (bk_ BK137.out)) : gb137 ≠ gb151)); have n7_ := Aside0.mk ((by rw [hg]; exact Nat.ne_of_gt (blk_lt (g := gb137) (o := .cells #[.int .i64 a1_0, .string a1_1, .string a1_2] 35 (0, 0)) (bk_ BK137.out)) : gb151 ≠ gb137)); clear HO_7; clear BK137; clear HB; have HO_7 := n0_; have BK137 := n1_; have HB := n2_; have BK151 := n3_; have GW151 := n4_; have GE151 := n5_; have NB137_151 := n6_; have NB151_137 := n7_; clear n0_ n1_ n2_ n3_ n4_ n5_ n6_ n7_; clear hb hbox hg; have hnb128 := NB151_137.out; have hnc128 := NB137_151.out; have hcz129_0 : w127.cell? ⟨gb151, 0, none⟩ = some (.int .i64 0) := (blk_cell BK151.out 0).trans rfl; have hcz129_1 : w127.cell? ⟨gb151, 1, none⟩ = some (.string (⟨#[]⟩ : ByteArray)) := (blk_cell BK151.out 1).trans rfl; have hcz129_2 : w127.cell? ⟨gb151, 2, none⟩ = some (.string (⟨#[]⟩ : ByteArray)) := (blk_cell BK151.out 2).trans rfl; have hfz129_0 := blk_frozen BK151.out 0; have hfz129_1 := blk_frozen BK151.out 1; have hfz129_2 := blk_frozen BK151.out 2) | ((with_reducible refine gate_callee (f := 25) rfl ?_); refine goesL_ (some 66) rfl rfl Tryd.func25 (by kernel_rfl) rfl #[.slice Ao125 t142.length co125, .string a2] rfl (by (try simp only [List.map_toArray, List.map_cons, List.map_nil]); first | done | rfl | (simp only [List.length_drop, List.length_take]; rfl)) ?_; (with_reducible refine (tree_Find.calls kj22 _ _ t142 a2 t152 t153 t154 t155 _ ?side1 ?side2 A40.out).mono ?_); (case side1 => refine (Kd.R_reads' (e := 35) (base := w.heap.size) (ok := fun k_ => (k_ ≠ gb137 ∧ k_ ≠ gb151)) (n := t142.length) (c := co125) ?_).2.2; exact (by (with_reducible repeat (first | apply Kd.R_alloc | apply Kd.R_drewN | apply Kd.R_drew)); exact (Kd.R_mono (Kd.R_far (p := ⟨gb151, 2, none⟩) (Kd.R_far (p := ⟨gb151, 1, none⟩) (Kd.R_far (p := ⟨gb151, 0, none⟩) (Kd.R_mono HO_7.out (fun k_ hk => (⟨hk, hk.2⟩ : _ ∧ k_ ≠ gb151))) (fun _ hk => hk.2) (.int .i64 t147)) (fun _ hk => hk.2) (.string t148)) (fun _ hk => hk.2) (.string t149)) (fun _ h_ => h_.1)))); (case side2 => exact (Kd.R_reads' HO_7.out).2.1); rintro e w130 ⟨rfl, hb⟩; refine ⟨_, rfl, ?_⟩; have n0_ := Aside0.mk (Kd.R_below (by (with_reducible repeat (first | apply Kd.R_alloc | apply Kd.R_drewN | apply Kd.R_drew)); exact (Kd.R_mono (Kd.R_far (p := ⟨gb151, 2, none⟩) (Kd.R_far (p := ⟨gb151, 1, none⟩) (Kd.R_far (p := ⟨gb151, 0, none⟩) (Kd.R_mono HO_7.out (fun k_ hk => (⟨hk, hk.2⟩ : _ ∧ k_ ≠ gb151))) (fun _ hk => hk.2) (.int .i64 t147)) (fun _ hk => hk.2) (.string t148)) (fun _ hk => hk.2) (.string t149)) (fun _ h_ => h_.1))) hb); have n1_ := Aside0.mk (blk_below (g := gb137) (o := .cells #[.int .i64 a1_0, .string a1_1, .string a1_2] 35 (0, 0)) (by (with_reducible repeat (first | refine blk_drewN ?_ _ | refine blk_drew ?_ | refine blk_alloc ?_ _)); refine blk_far ?_ NB137_151.out _; (with_reducible repeat (first | refine blk_drewN ?_ _ | refine blk_drew ?_ | refine blk_alloc ?_ _)); refine blk_far ?_ NB137_151.out _; (with_reducible repeat (first | refine blk_drewN ?_ _ | refine blk_drew ?_ | refine blk_alloc ?_ _)); refine blk_far ?_ NB137_151.out _; (with_reducible repeat (first | refine blk_drewN ?_ _ | refine blk_drew ?_ | refine blk_alloc ?_ _)); exact BK137.out) hb); have n2_ := Aside0.mk (blk_below (g := gb151) (o := .cells #[.int .i64 t147, .string t148, .string t149] 35 (0, 0)) (by (with_reducible repeat (first | refine blk_drewN ?_ _ | refine blk_drew ?_ | refine blk_alloc ?_ _)); refine blk_put (cs := #[.int .i64 t147, .string t148, .string (⟨#[]⟩ : ByteArray)]) ?_ 2 _ rfl; (with_reducible repeat (first | refine blk_drewN ?_ _ | refine blk_drew ?_ | refine blk_alloc ?_ _)); refine blk_put (cs := #[.int .i64 t147, .string (⟨#[]⟩ : ByteArray), .string (⟨#[]⟩ : ByteArray)]) ?_ 1 _ rfl; (with_reducible repeat (first | refine blk_drewN ?_ _ | refine blk_drew ?_ | refine blk_alloc ?_ _)); refine blk_put (cs := #[.int .i64 0, .string (⟨#[]⟩ : ByteArray), .string (⟨#[]⟩ : ByteArray)]) ?_ 0 _ rfl; (with_reducible repeat (first | refine blk_drewN ?_ _ | refine blk_drew ?_ | refine blk_alloc ?_ _)); exact BK151.out) hb); have n3_ := Aside0.mk (below_step (hs_) hb); clear HO_7; clear BK137; clear BK151; clear HB; have HO_7 := n0_; have BK137 := n1_; have BK151 := n2_; have HB := n3_; clear n0_ n1_ n2_ n3_; (try clear hb); (try clear hb2); (try clear hk); (try clear hi)) | ((with_reducible refine gate_dst (N := 10) rfl ?_); (try (refine gate_guard (by rfl) ?_; dsimp only)); refine box_event ?hg (N := 10) ?hd (cs := #[.int .i64 0, .string (⟨#[]⟩ : ByteArray), .string (⟨#[]⟩ : ByteArray)]) (t := 35) ?hr ?_; (case hd => rfl); (case hg => rfl); (case hr => first | (go_simp; done) | (go_simp; rfl)); intro gb156 hg w131 hbox hb; have n0_ := Aside0.mk (Kd.R_below (Kd.R_elderB (rk_ HO_7.out) gb156 (Nat.le_of_eq hg.symm)) hb); have n1_ := Aside0.mk (blk_below (g := gb137) (o := .cells #[.int .i64 a1_0, .string a1_1, .string a1_2] 35 (0, 0)) (bk_ BK137.out) hb); have n2_ := Aside0.mk (blk_below (g := gb151) (o := .cells #[.int .i64 t147, .string t148, .string t149] 35 (0, 0)) (bk_ BK151.out) hb); have n3_ := Aside0.mk (below_step (hs_) hb); have n4_ := Aside0.mk (hbox); have n5_ := Aside0.mk ((by rw [hg]; exact (below_size (hs_)) : w.heap.size ≤ gb156)); have n6_ := Aside0.mk ((by rw [hg]; exact (below_size (hs_)) : w.heap.size ≤ gb156)); have n7_ := Aside0.mk ((by rw [hg]; exact Nat.ne_of_lt (blk_lt (g := gb137) (o := .cells #[.int .i64 a1_0, .string a1_1, .string a1_2] 35 (0, 0)) (bk_ BK137.out)) : gb137 ≠ gb156)); have n8_ := Aside0.mk ((by rw [hg]; exact Nat.ne_of_gt (blk_lt (g := gb137) (o := .cells #[.int .i64 a1_0, .string a1_1, .string a1_2] 35 (0, 0)) (bk_ BK137.out)) : gb156 ≠ gb137)); have n9_ := Aside0.mk ((by rw [hg]; exact Nat.ne_of_lt (blk_lt (g := gb151) (o := .cells #[.int .i64 t147, .string t148, .string t149] 35 (0, 0)) (bk_ BK151.out)) : gb151 ≠ gb156)); have n10_ := Aside0.mk ((by rw [hg]; exact Nat.ne_of_gt (blk_lt (g := gb151) (o := .cells #[.int .i64 t147, .string t148, .string t149] 35 (0, 0)) (bk_ BK151.out)) : gb156 ≠ gb151)); clear HO_7; clear BK137; clear BK151; clear HB; have HO_7 := n0_; have BK137 := n1_; have BK151 := n2_; have HB := n3_; have BK156 := n4_; have GW156 := n5_; have GE156 := n6_; have NB137_156 := n7_; have NB156_137 := n8_; have NB151_156 := n9_; have NB156_151 := n10_; clear n0_ n1_ n2_ n3_ n4_ n5_ n6_ n7_ n8_ n9_ n10_; clear hb hbox hg; have hnb132 := NB156_137.out; have hnc132 := NB137_156.out; have hnb133 := NB156_151.out; have hnc133 := NB151_156.out; have hcz134_0 : w131.cell? ⟨gb156, 0, none⟩ = some (.int .i64 0) := (blk_cell BK156.out 0).trans rfl; have hcz134_1 : w131.cell? ⟨gb156, 1, none⟩ = some (.string (⟨#[]⟩ : ByteArray)) := (blk_cell BK156.out 1).trans rfl; have hcz134_2 : w131.cell? ⟨gb156, 2, none⟩ = some (.string (⟨#[]⟩ : ByteArray)) := (blk_cell BK156.out 2).trans rfl; have hfz134_0 := blk_frozen BK156.out 0; have hfz134_1 := blk_frozen BK156.out 1; have hfz134_2 := blk_frozen BK156.out 2) | ((with_reducible refine gate_callee (f := 25) rfl ?_); refine goesL_ (some 72) rfl rfl Tryd.func25 (by kernel_rfl) rfl #[.slice A0 l0.length c0, .string a2] rfl (by (try simp only [List.map_toArray, List.map_cons, List.map_nil]); first | done | rfl | (simp only [List.length_drop, List.length_take]; rfl)) ?_; (with_reducible refine (tree_Find.calls kj22 _ _ l0 a2 t157 t158 t159 t160 _ ?side1 ?side2 A41.out).mono ?_); (case side1 => exact Kd.C_below HR0.out (hs_)); (case side2 => exact HC0.out); rintro e w135 ⟨rfl, hb⟩; refine ⟨_, rfl, ?_⟩; have n0_ := Aside0.mk (Kd.R_below (by (with_reducible repeat (first | apply Kd.R_alloc | apply Kd.R_drewN | apply Kd.R_drew)); exact (Kd.R_mono (Kd.R_far (p := ⟨gb156, 2, none⟩) (Kd.R_far (p := ⟨gb156, 1, none⟩) (Kd.R_far (p := ⟨gb156, 0, none⟩) (Kd.R_mono HO_7.out (fun k_ hk => (⟨hk, hk.2⟩ : _ ∧ k_ ≠ gb156))) (fun _ hk => hk.2) (.int .i64 t152)) (fun _ hk => hk.2) (.string t153)) (fun _ hk => hk.2) (.string t154)) (fun _ h_ => h_.1))) hb); have n1_ := Aside0.mk (blk_below (g := gb137) (o := .cells #[.int .i64 a1_0, .string a1_1, .string a1_2] 35 (0, 0)) (by (with_reducible repeat (first | refine blk_drewN ?_ _ | refine blk_drew ?_ | refine blk_alloc ?_ _)); refine blk_far ?_ NB137_156.out _; (with_reducible repeat (first | refine blk_drewN ?_ _ | refine blk_drew ?_ | refine blk_alloc ?_ _)); refine blk_far ?_ NB137_156.out _; (with_reducible repeat (first | refine blk_drewN ?_ _ | refine blk_drew ?_ | refine blk_alloc ?_ _)); refine blk_far ?_ NB137_156.out _; (with_reducible repeat (first | refine blk_drewN ?_ _ | refine blk_drew ?_ | refine blk_alloc ?_ _)); exact BK137.out) hb); have n2_ := Aside0.mk (blk_below (g := gb151) (o := .cells #[.int .i64 t147, .string t148, .string t149] 35 (0, 0)) (by (with_reducible repeat (first | refine blk_drewN ?_ _ | refine blk_drew ?_ | refine blk_alloc ?_ _)); refine blk_far ?_ NB151_156.out _; (with_reducible repeat (first | refine blk_drewN ?_ _ | refine blk_drew ?_ | refine blk_alloc ?_ _)); refine blk_far ?_ NB151_156.out _; (with_reducible repeat (first | refine blk_drewN ?_ _ | refine blk_drew ?_ | refine blk_alloc ?_ _)); refine blk_far ?_ NB151_156.out _; (with_reducible repeat (first | refine blk_drewN ?_ _ | refine blk_drew ?_ | refine blk_alloc ?_ _)); exact BK151.out) hb); have n3_ := Aside0.mk (blk_below (g := gb156) (o := .cells #[.int .i64 t152, .string t153, .string t154] 35 (0, 0)) (by (with_reducible repeat (first | refine blk_drewN ?_ _ | refine blk_drew ?_ | refine blk_alloc ?_ _)); refine blk_put (cs := #[.int .i64 t152, .string t153, .string (⟨#[]⟩ : ByteArray)]) ?_ 2 _ rfl; (with_reducible repeat (first | refine blk_drewN ?_ _ | refine blk_drew ?_ | refine blk_alloc ?_ _)); refine blk_put (cs := #[.int .i64 t152, .string (⟨#[]⟩ : ByteArray), .string (⟨#[]⟩ : ByteArray)]) ?_ 1 _ rfl; (with_reducible repeat (first | refine blk_drewN ?_ _ | refine blk_drew ?_ | refine blk_alloc ?_ _)); refine blk_put (cs := #[.int .i64 0, .string (⟨#[]⟩ : ByteArray), .string (⟨#[]⟩ : ByteArray)]) ?_ 0 _ rfl; (with_reducible repeat (first | refine blk_drewN ?_ _ | refine blk_drew ?_ | refine blk_alloc ?_ _)); exact BK156.out) hb); have n4_ := Aside0.mk (below_step (hs_) hb); clear HO_7; clear BK137; clear BK151; clear BK156; clear HB; have HO_7 := n0_; have BK137 := n1_; have BK151 := n2_; have BK156 := n3_; have HB := n4_; clear n0_ n1_ n2_ n3_ n4_; (try clear hb); (try clear hb2); (try clear hk); (try clear hi)) | ((with_reducible refine gate_dst (N := 12) rfl ?_); (try (refine gate_guard (by rfl) ?_; dsimp only)); refine box_event ?hg (N := 12) ?hd (cs := #[.int .i64 0, .string (⟨#[]⟩ : ByteArray), .string (⟨#[]⟩ : ByteArray)]) (t := 35) ?hr ?_; (case hd => rfl); (case hg => rfl); (case hr => first | (go_simp; done) | (go_simp; rfl)); intro gb161 hg w136 hbox hb; have n0_ := Aside0.mk (Kd.R_below (Kd.R_elderB (rk_ HO_7.out) gb161 (Nat.le_of_eq hg.symm)) hb); have n1_ := Aside0.mk (blk_below (g := gb137) (o := .cells #[.int .i64 a1_0, .string a1_1, .string a1_2] 35 (0, 0)) (bk_ BK137.out) hb); have n2_ := Aside0.mk (blk_below (g := gb151) (o := .cells #[.int .i64 t147, .string t148, .string t149] 35 (0, 0)) (bk_ BK151.out) hb); have n3_ := Aside0.mk (blk_below (g := gb156) (o := .cells #[.int .i64 t152, .string t153, .string t154] 35 (0, 0)) (bk_ BK156.out) hb); have n4_ := Aside0.mk (below_step (hs_) hb); have n5_ := Aside0.mk (hbox); have n6_ := Aside0.mk ((by rw [hg]; exact (below_size (hs_)) : w.heap.size ≤ gb161)); have n7_ := Aside0.mk ((by rw [hg]; exact (below_size (hs_)) : w.heap.size ≤ gb161)); have n8_ := Aside0.mk ((by rw [hg]; exact Nat.ne_of_lt (blk_lt (g := gb137) (o := .cells #[.int .i64 a1_0, .string a1_1, .string a1_2] 35 (0, 0)) (bk_ BK137.out)) : gb137 ≠ gb161)); have n9_ := Aside0.mk ((by rw [hg]; exact Nat.ne_of_gt (blk_lt (g := gb137) (o := .cells #[.int .i64 a1_0, .string a1_1, .string a1_2] 35 (0, 0)) (bk_ BK137.out)) : gb161 ≠ gb137)); have n10_ := Aside0.mk ((by rw [hg]; exact Nat.ne_of_lt (blk_lt (g := gb151) (o := .cells #[.int .i64 t147, .string t148, .string t149] 35 (0, 0)) (bk_ BK151.out)) : gb151 ≠ gb161)); have n11_ := Aside0.mk ((by rw [hg]; exact Nat.ne_of_gt (blk_lt (g := gb151) (o := .cells #[.int .i64 t147, .string t148, .string t149] 35 (0, 0)) (bk_ BK151.out)) : gb161 ≠ gb151)); have n12_ := Aside0.mk ((by rw [hg]; exact Nat.ne_of_lt (blk_lt (g := gb156) (o := .cells #[.int .i64 t152, .string t153, .string t154] 35 (0, 0)) (bk_ BK156.out)) : gb156 ≠ gb161)); have n13_ := Aside0.mk ((by rw [hg]; exact Nat.ne_of_gt (blk_lt (g := gb156) (o := .cells #[.int .i64 t152, .string t153, .string t154] 35 (0, 0)) (bk_ BK156.out)) : gb161 ≠ gb156)); clear HO_7; clear BK137; clear BK151; clear BK156; clear HB; have HO_7 := n0_; have BK137 := n1_; have BK151 := n2_; have BK156 := n3_; have HB := n4_; have BK161 := n5_; have GW161 := n6_; have GE161 := n7_; have NB137_161 := n8_; have NB161_137 := n9_; have NB151_161 := n10_; have NB161_151 := n11_; have NB156_161 := n12_; have NB161_156 := n13_; clear n0_ n1_ n2_ n3_ n4_ n5_ n6_ n7_ n8_ n9_ n10_ n11_ n12_ n13_; clear hb hbox hg; have hnb137 := NB161_137.out; have hnc137 := NB137_161.out; have hnb138 := NB161_151.out; have hnc138 := NB151_161.out; have hnb139 := NB161_156.out; have hnc139 := NB156_161.out; have hcz140_0 : w136.cell? ⟨gb161, 0, none⟩ = some (.int .i64 0) := (blk_cell BK161.out 0).trans rfl; have hcz140_1 : w136.cell? ⟨gb161, 1, none⟩ = some (.string (⟨#[]⟩ : ByteArray)) := (blk_cell BK161.out 1).trans rfl; have hcz140_2 : w136.cell? ⟨gb161, 2, none⟩ = some (.string (⟨#[]⟩ : ByteArray)) := (blk_cell BK161.out 2).trans rfl; have hfz140_0 := blk_frozen BK161.out 0; have hfz140_1 := blk_frozen BK161.out 1; have hfz140_2 := blk_frozen BK161.out 2))
             have n0_ : Aside0 (Kd.R k35 35 (((w136.setCell ⟨gb161, 0, none⟩ (.int .i64 t157)).setCell ⟨gb161, 1, none⟩ (.string t158)).setCell ⟨gb161, 2, none⟩ (.string t159)) w.heap.size (fun k_ => k_ ≠ gb137 ∧ k_ ≠ gb151 ∧ k_ ≠ gb156 ∧ k_ ≠ gb161) (.slice Ao125 t142.length co125) t142) := ⟨by (with_reducible repeat (first | apply Kd.R_alloc | apply Kd.R_drewN | apply Kd.R_drew)); exact Kd.R_mono (Kd.R_far (p := ⟨gb161, 2, none⟩) (Kd.R_far (p := ⟨gb161, 1, none⟩) (Kd.R_far (p := ⟨gb161, 0, none⟩) (Kd.R_mono HO_7.out (fun k_ hk => (⟨hk, hk.2⟩ : _ ∧ k_ ≠ gb161))) (fun _ hk => hk.2) (.int .i64 t157)) (fun _ hk => hk.2) (.string t158)) (fun _ hk => hk.2) (.string t159)) (fun _ hk => ⟨hk.1.1.1.1, ⟨hk.1.1.1.2, ⟨hk.1.1.2, hk.1.2⟩⟩⟩)⟩
             have n1_ : Aside0 ((((w136.setCell ⟨gb161, 0, none⟩ (.int .i64 t157)).setCell ⟨gb161, 1, none⟩ (.string t158)).setCell ⟨gb161, 2, none⟩ (.string t159)).heap[gb137]? = some (.cells #[.int .i64 a1_0, .string a1_1, .string a1_2] 35 (0, 0))) := ⟨by (with_reducible repeat (first | refine blk_drewN ?_ _ | refine blk_drew ?_ | refine blk_alloc ?_ _)); refine blk_far ?_ NB137_161.out _; (with_reducible repeat (first | refine blk_drewN ?_ _ | refine blk_drew ?_ | refine blk_alloc ?_ _)); refine blk_far ?_ NB137_161.out _; (with_reducible repeat (first | refine blk_drewN ?_ _ | refine blk_drew ?_ | refine blk_alloc ?_ _)); refine blk_far ?_ NB137_161.out _; (with_reducible repeat (first | refine blk_drewN ?_ _ | refine blk_drew ?_ | refine blk_alloc ?_ _)); exact BK137.out⟩
             have n2_ : Aside0 ((((w136.setCell ⟨gb161, 0, none⟩ (.int .i64 t157)).setCell ⟨gb161, 1, none⟩ (.string t158)).setCell ⟨gb161, 2, none⟩ (.string t159)).heap[gb151]? = some (.cells #[.int .i64 t147, .string t148, .string t149] 35 (0, 0))) := ⟨by (with_reducible repeat (first | refine blk_drewN ?_ _ | refine blk_drew ?_ | refine blk_alloc ?_ _)); refine blk_far ?_ NB151_161.out _; (with_reducible repeat (first | refine blk_drewN ?_ _ | refine blk_drew ?_ | refine blk_alloc ?_ _)); refine blk_far ?_ NB151_161.out _; (with_reducible repeat (first | refine blk_drewN ?_ _ | refine blk_drew ?_ | refine blk_alloc ?_ _)); refine blk_far ?_ NB151_161.out _; (with_reducible repeat (first | refine blk_drewN ?_ _ | refine blk_drew ?_ | refine blk_alloc ?_ _)); exact BK151.out⟩
             have n3_ : Aside0 ((((w136.setCell ⟨gb161, 0, none⟩ (.int .i64 t157)).setCell ⟨gb161, 1, none⟩ (.string t158)).setCell ⟨gb161, 2, none⟩ (.string t159)).heap[gb156]? = some (.cells #[.int .i64 t152, .string t153, .string t154] 35 (0, 0))) := ⟨by (with_reducible repeat (first | refine blk_drewN ?_ _ | refine blk_drew ?_ | refine blk_alloc ?_ _)); refine blk_far ?_ NB156_161.out _; (with_reducible repeat (first | refine blk_drewN ?_ _ | refine blk_drew ?_ | refine blk_alloc ?_ _)); refine blk_far ?_ NB156_161.out _; (with_reducible repeat (first | refine blk_drewN ?_ _ | refine blk_drew ?_ | refine blk_alloc ?_ _)); refine blk_far ?_ NB156_161.out _; (with_reducible repeat (first | refine blk_drewN ?_ _ | refine blk_drew ?_ | refine blk_alloc ?_ _)); exact BK156.out⟩
             have n4_ : Aside0 ((((w136.setCell ⟨gb161, 0, none⟩ (.int .i64 t157)).setCell ⟨gb161, 1, none⟩ (.string t158)).setCell ⟨gb161, 2, none⟩ (.string t159)).heap[gb161]? = some (.cells #[.int .i64 t157, .string t158, .string t159] 35 (0, 0))) := ⟨by (with_reducible repeat (first | refine blk_drewN ?_ _ | refine blk_drew ?_ | refine blk_alloc ?_ _)); refine blk_put (cs := #[.int .i64 t157, .string t158, .string (⟨#[]⟩ : ByteArray)]) ?_ 2 _ rfl; (with_reducible repeat (first | refine blk_drewN ?_ _ | refine blk_drew ?_ | refine blk_alloc ?_ _)); refine blk_put (cs := #[.int .i64 t157, .string (⟨#[]⟩ : ByteArray), .string (⟨#[]⟩ : ByteArray)]) ?_ 1 _ rfl; (with_reducible repeat (first | refine blk_drewN ?_ _ | refine blk_drew ?_ | refine blk_alloc ?_ _)); refine blk_put (cs := #[.int .i64 0, .string (⟨#[]⟩ : ByteArray), .string (⟨#[]⟩ : ByteArray)]) ?_ 0 _ rfl; (with_reducible repeat (first | refine blk_drewN ?_ _ | refine blk_drew ?_ | refine blk_alloc ?_ _)); exact BK161.out⟩
             have n5_ : Aside0 (Below w.heap.size w (((w136.setCell ⟨gb161, 0, none⟩ (.int .i64 t157)).setCell ⟨gb161, 1, none⟩ (.string t158)).setCell ⟨gb161, 2, none⟩ (.string t159))) := ⟨hs_⟩
             (try clear HO_7)
             (try clear BK137)
             (try clear BK151)
             (try clear BK156)
             (try clear BK161)
             (try clear HB)
             generalize (((w136.setCell ⟨gb161, 0, none⟩ (.int .i64 t157)).setCell ⟨gb161, 1, none⟩ (.string t158)).setCell ⟨gb161, 2, none⟩ (.string t159)) = w141 at n0_ n1_ n2_ n3_ n4_ n5_ ⊢
             have HO_7 := n0_
             have BK137 := n1_
             have BK151 := n2_
             have BK156 := n3_
             have BK161 := n4_
             have HB := n5_
             clear n0_ n1_ n2_ n3_ n4_ n5_
             have n0_ := Aside0.mk (Kd.R_drew HO_7.out)
             have n1_ := Aside0.mk (blk_drew BK137.out)
             have n2_ := Aside0.mk (blk_drew BK151.out)
             have n3_ := Aside0.mk (blk_drew BK156.out)
             have n4_ := Aside0.mk (blk_drew BK161.out)
             have n5_ := Aside0.mk (below_drew1 HB.out)
             clear HO_7
             clear BK137
             clear BK151
             clear BK156
             clear BK161
             clear HB
             have HO_7 := n0_
             have BK137 := n1_
             have BK151 := n2_
             have BK156 := n3_
             have BK161 := n4_
             have HB := n5_
             clear n0_ n1_ n2_ n3_ n4_ n5_
             refine start_ (n := 13) (S := fun w' => w'.cell? ⟨gb137, 0, none⟩ = some (.int .i64 a1_0) ∧ w'.cell? ⟨gb137, 1, none⟩ = some (.string a1_1) ∧ w'.cell? ⟨gb137, 2, none⟩ = some (.string a1_2)) (ds := []) #[false, false, false, false, false, false, false, false, false, false, false, false, false] (by kernel_rfl) rfl rfl ⟨(blk_cell BK137.out 0).trans rfl, (blk_cell BK137.out 1).trans rfl, (blk_cell BK137.out 2).trans rfl⟩ (fun hHeld => ?_); refine with_tabW graftagelaw15_TreePut.tab9 graftagelaw15_TreePut.bits9 (fun HT_ HW_ => ?_)
             generalize w141.drew = w142 at HO_7 BK137 BK151 BK156 BK161 HB hHeld ⊢
             refine pure_ (i := 0) (N := some 76) (v := ?_) (a' := ?_) #[true, false, false, false, false, false, false, false, false, false, false, false, false] rfl rfl (any_of HT_.out (by kernel_rfl)) (fun _ _ _ h => h) (Or.inl ⟨by rfl, ?_⟩) ?_ ?_
             rotate_left
             ·intro w'
              go_simp
              with_reducible rfl
             rotate_left
             ·simp only [Act.put, List.setIfInBounds_toArray, List.set_cons_zero, List.set_cons_succ, i64_w, i32_w]
              rfl
             refine pure_ (i := 1) (N := some 77) (v := ?_) (a' := ?_) #[true, true, false, false, false, false, false, false, false, false, false, false, false] rfl rfl (any_of HT_.out (by kernel_rfl)) (fun _ _ _ h => h) (Or.inl ⟨by rfl, ?_⟩) ?_ ?_
             rotate_left
             ·intro w'
              go_simp
              with_reducible rfl
             rotate_left
             ·simp only [Act.put, List.setIfInBounds_toArray, List.set_cons_zero, List.set_cons_succ, i64_w, i32_w]
              rfl
             refine pure_ (i := 4) (N := some 80) (v := ?_) (a' := ?_) #[true, true, false, false, true, false, false, false, false, false, false, false, false] rfl rfl (any_of HT_.out (by kernel_rfl)) (fun _ _ _ h => h) (Or.inl ⟨by rfl, ?_⟩) ?_ ?_
             rotate_left
             ·intro w'
              go_simp
              with_reducible rfl
             rotate_left
             ·simp only [Act.put, List.setIfInBounds_toArray, List.set_cons_zero, List.set_cons_succ, i64_w, i32_w]
              rfl
             refine take_ (i := 2) (N := some 78) (v := ?_) (a' := ?_) #[true, true, true, false, true, false, false, false, false, false, false, false, false] rfl rfl (take_ofW HT_.out HW_.out (by kernel_rfl)) (fun _ _ _ h => h) (Or.inl ⟨by rfl, ?_⟩) hHeld ?_ ?_
             rotate_left
             ·rintro w' ⟨s0, s1, s2⟩
              go_simp
              with_reducible rfl
             rotate_left
             ·simp only [Act.put, List.setIfInBounds_toArray, List.set_cons_zero, List.set_cons_succ, i64_w, i32_w]
              rfl
             refine take_ (i := 5) (N := some 81) (v := ?_) (a' := ?_) #[true, true, true, false, true, true, false, false, false, false, false, false, false] rfl rfl (take_ofW HT_.out HW_.out (by kernel_rfl)) (fun _ _ _ h => h) (Or.inl ⟨by rfl, ?_⟩) hHeld ?_ ?_
             rotate_left
             ·rintro w' ⟨s0, s1, s2⟩
              go_simp
              with_reducible rfl
             rotate_left
             ·simp only [Act.put, List.setIfInBounds_toArray, List.set_cons_zero, List.set_cons_succ, i64_w, i32_w]
              rfl
             refine join_ (σ := Value × Nat) 2 #[true, true, true, true, true, true, true, true, true, true, true, false, false] (fun s_ => [(79, s_.1), (82, .tuple #[.agg #[.int .i64 t165, .string t166, .string t167], .bool false]), (14, .pointer (some ⟨s_.2, 0, none⟩)), (75, .tuple #[.agg #[.int .i64 t165, .string t166, .string t167], .bool false]), (83, .agg #[.int .i64 t165, .string t166, .string t167]), (84, .bool false)]) (fun s_ w' => (w'.cell? ⟨gb137, 0, none⟩ = some (.int .i64 a1_0) ∧ w'.cell? ⟨gb137, 1, none⟩ = some (.string a1_1) ∧ w'.cell? ⟨gb137, 2, none⟩ = some (.string a1_2)) ∧ (Kd.R k35 35 w' w.heap.size (fun k_ => some k_ ≠ (.slice Ao125 t142.length co125 : Value).ownBlock ∧ k_ ≠ gb137 ∧ k_ ≠ gb151 ∧ k_ ≠ gb156 ∧ k_ ≠ gb161 ∧ k_ ≠ s_.2) s_.1 t162) ∧ (Kd.R k35 35 w' w.heap.size (fun k_ => some k_ ≠ (s_.1 : Value).ownBlock ∧ k_ ≠ gb137 ∧ k_ ≠ gb151 ∧ k_ ≠ gb156 ∧ k_ ≠ gb161 ∧ k_ ≠ s_.2) (.slice Ao125 t142.length co125) t142) ∧ (w'.heap[gb137]? = some (.cells #[.int .i64 a1_0, .string a1_1, .string a1_2] 35 (0, 0))) ∧ (w'.heap[gb151]? = some (.cells #[.int .i64 t147, .string t148, .string t149] 35 (0, 0))) ∧ (w'.heap[gb156]? = some (.cells #[.int .i64 t152, .string t153, .string t154] 35 (0, 0))) ∧ (w'.heap[gb161]? = some (.cells #[.int .i64 t157, .string t158, .string t159] 35 (0, 0))) ∧ (w'.heap[s_.2]? = some (.cells #[.int .i64 0, .string (⟨#[]⟩ : ByteArray), .string (⟨#[]⟩ : ByteArray)] 35 (0, 0))) ∧ (w.heap.size ≤ s_.2) ∧ (w.heap.size ≤ s_.2) ∧ (gb137 ≠ s_.2) ∧ (s_.2 ≠ gb137) ∧ (gb151 ≠ s_.2) ∧ (s_.2 ≠ gb151) ∧ (gb156 ≠ s_.2) ∧ (s_.2 ≠ gb156) ∧ (gb161 ≠ s_.2) ∧ (s_.2 ≠ gb161) ∧ (Below w.heap.size w w')) ?_ ?_
             rotate_left
             ·intro hCont
              refine two_ (i := 3) (j := 10) (Ni := some 79) (Nj := some 14) #[true, true, true, true, true, true, false, false, false, false, false, false, false] #[true, true, true, false, true, true, false, false, false, false, true, false, false] rfl rfl rfl rfl (two_of HT_.out (by kernel_rfl)) (by decide) (by decide) (fun K hK => ?_) (fun K hK => ?_)
              ·skip
               refine goes_ Tryd.func30 (by kernel_rfl) rfl #[.slice Ao125 t142.length co125, .string a1_1] (by rfl) rfl rfl (by (try simp only [List.map_toArray, List.map_cons, List.map_nil]); first | done | rfl | (simp only [List.length_drop, List.length_take]; rfl)) ?_
               with_reducible refine (tree_Drop.calls kj22 _ _ t142 a1_1 t162 _ ?side1 ?side2 A42.out).mono ?_
               (case side1 => repeat (first | exact (Kd.R_reads' HO_7.out).2.2 | (with_reducible refine Kd.C_alloc ?_ _) | (with_reducible refine Kd.C_drewN ?_ _) | (with_reducible refine Kd.C_drew ?_)))
               (case side2 => exact (Kd.R_reads' HO_7.out).2.1)
               rintro e w143 ⟨v163, rfl, ho0, hb⟩
               refine ⟨_, rfl, ?_⟩
               have n0_ := Aside0.mk (Kd.R_elder' (rk_ HO_7.out) (Kd.R_base ho0) hb)
               have n1_ := Aside0.mk (Kd.R_lower (Kd.R_newB (Kd.R_newB (Kd.R_newB (Kd.R_newB (Kd.R_new' ho0 (Kd.R_lt (rk_ HO_7.out))) (g := gb137) (o := .cells #[.int .i64 a1_0, .string a1_1, .string a1_2] 35 (0, 0)) (bk_ BK137.out)) (g := gb151) (o := .cells #[.int .i64 t147, .string t148, .string t149] 35 (0, 0)) (bk_ BK151.out)) (g := gb156) (o := .cells #[.int .i64 t152, .string t153, .string t154] 35 (0, 0)) (bk_ BK156.out)) (g := gb161) (o := .cells #[.int .i64 t157, .string t158, .string t159] 35 (0, 0)) (bk_ BK161.out)) (below_size (hs_)))
               have n2_ := Aside0.mk (blk_below (g := gb137) (o := .cells #[.int .i64 a1_0, .string a1_1, .string a1_2] 35 (0, 0)) (bk_ BK137.out) hb)
               have n3_ := Aside0.mk (blk_below (g := gb151) (o := .cells #[.int .i64 t147, .string t148, .string t149] 35 (0, 0)) (bk_ BK151.out) hb)
               have n4_ := Aside0.mk (blk_below (g := gb156) (o := .cells #[.int .i64 t152, .string t153, .string t154] 35 (0, 0)) (bk_ BK156.out) hb)
               have n5_ := Aside0.mk (blk_below (g := gb161) (o := .cells #[.int .i64 t157, .string t158, .string t159] 35 (0, 0)) (bk_ BK161.out) hb)
               have n6_ := Aside0.mk (below_step (hs_) hb)
               clear HO_7
               clear BK137
               clear BK151
               clear BK156
               clear BK161
               clear HB
               have HO_7 := n0_
               have HO164 := n1_
               have BK137 := n2_
               have BK151 := n3_
               have BK156 := n4_
               have BK161 := n5_
               have HB := n6_
               clear n0_ n1_ n2_ n3_ n4_ n5_ n6_
               (try clear hb)
               (try clear hb2)
               (try clear hk)
               (try clear hi)
               (try clear ho0)
               obtain ⟨Ao144, co144, eo144⟩ := Kd.R_slice HO164.out
               (first | subst eo144 | (injection eo144 with f1_ f2_ f3_; have f4_ := f1_.symm; have f5_ := f3_.symm; clear f1_ f2_ f3_; subst f4_; subst f5_))
               refine hK.out _ _ ⟨(blk_cell BK137.out 0).trans rfl, (blk_cell BK137.out 1).trans rfl, (blk_cell BK137.out 2).trans rfl⟩ (fun hHeld => ?_)
               clear hK K
               refine norm_ (a' := ?_) ?_ ?_
               rotate_left
               ·show Act.put _ (some 79) _ = _
                simp only [Act.put, List.setIfInBounds_toArray, List.set_cons_zero, List.set_cons_succ, i64_w, i32_w]
                rfl
               refine two_ (i := 6) (j := 10) (Ni := some 82) (Nj := some 14) #[true, true, true, true, true, true, true, false, false, false, false, false, false] #[true, true, true, true, true, true, false, false, false, false, true, false, false] rfl rfl rfl rfl (two_of HT_.out (by kernel_rfl)) (by decide) (by decide) (fun K hK => ?_) (fun K hK => ?_)
               ·skip
                refine goes_ Tryd.func25 (by kernel_rfl) rfl #[.slice Ao144 t162.length co144, .string a1_1] (by rfl) rfl rfl (by (try simp only [List.map_toArray, List.map_cons, List.map_nil]); first | done | rfl | (simp only [List.length_drop, List.length_take]; rfl)) ?_
                with_reducible refine (tree_Find.calls kj22 _ _ t162 a1_1 t165 t166 t167 false _ ?side1 ?side2 A43.out).mono ?_
                (case side1 => repeat (first | exact (Kd.R_reads' HO164.out).2.2 | (with_reducible refine Kd.C_alloc ?_ _) | (with_reducible refine Kd.C_drewN ?_ _) | (with_reducible refine Kd.C_drew ?_)))
                (case side2 => exact (Kd.R_reads' HO164.out).2.1)
                rintro e w145 ⟨rfl, hb⟩
                refine ⟨_, rfl, ?_⟩
                have n0_ := Aside0.mk (Kd.R_below (rk_ HO_7.out) hb)
                have n1_ := Aside0.mk (Kd.R_below (rk_ HO164.out) hb)
                have n2_ := Aside0.mk (blk_below (g := gb137) (o := .cells #[.int .i64 a1_0, .string a1_1, .string a1_2] 35 (0, 0)) (bk_ BK137.out) hb)
                have n3_ := Aside0.mk (blk_below (g := gb151) (o := .cells #[.int .i64 t147, .string t148, .string t149] 35 (0, 0)) (bk_ BK151.out) hb)
                have n4_ := Aside0.mk (blk_below (g := gb156) (o := .cells #[.int .i64 t152, .string t153, .string t154] 35 (0, 0)) (bk_ BK156.out) hb)
                have n5_ := Aside0.mk (blk_below (g := gb161) (o := .cells #[.int .i64 t157, .string t158, .string t159] 35 (0, 0)) (bk_ BK161.out) hb)
                have n6_ := Aside0.mk (below_step (hs_) hb)
                clear HO_7
                clear HO164
                clear BK137
                clear BK151
                clear BK156
                clear BK161
                clear HB
                have HO_7 := n0_
                have HO164 := n1_
                have BK137 := n2_
                have BK151 := n3_
                have BK156 := n4_
                have BK161 := n5_
                have HB := n6_
                clear n0_ n1_ n2_ n3_ n4_ n5_ n6_
                (try clear hb)
                (try clear hb2)
                (try clear hk)
                (try clear hi)
                refine hK.out _ _ ⟨(blk_cell BK137.out 0).trans rfl, (blk_cell BK137.out 1).trans rfl, (blk_cell BK137.out 2).trans rfl⟩ (fun hHeld => ?_)
                clear hK K
                refine norm_ (a' := ?_) ?_ ?_
                rotate_left
                ·show Act.put _ (some 82) _ = _
                 simp only [Act.put, List.setIfInBounds_toArray, List.set_cons_zero, List.set_cons_succ, i64_w, i32_w]
                 rfl
                refine pure_ (i := 7) (N := some 75) (v := ?_) (a' := ?_) #[true, true, true, true, true, true, true, true, false, false, false, false, false] rfl rfl (any_of HT_.out (by kernel_rfl)) (fun _ _ _ h => h) (Or.inl ⟨by rfl, ?_⟩) ?_ ?_
                rotate_left
                ·intro w'
                 go_simp
                 with_reducible rfl
                rotate_left
                ·simp only [Act.put, List.setIfInBounds_toArray, List.set_cons_zero, List.set_cons_succ, i64_w, i32_w]
                 rfl
                refine pure_ (i := 8) (N := some 83) (v := ?_) (a' := ?_) #[true, true, true, true, true, true, true, true, true, false, false, false, false] rfl rfl (any_of HT_.out (by kernel_rfl)) (fun _ _ _ h => h) (Or.inl ⟨by rfl, ?_⟩) ?_ ?_
                rotate_left
                ·intro w'
                 go_simp
                 with_reducible rfl
                rotate_left
                ·simp only [Act.put, List.setIfInBounds_toArray, List.set_cons_zero, List.set_cons_succ, i64_w, i32_w]
                 rfl
                refine pure_ (i := 9) (N := some 84) (v := ?_) (a' := ?_) #[true, true, true, true, true, true, true, true, true, true, false, false, false] rfl rfl (any_of HT_.out (by kernel_rfl)) (fun _ _ _ h => h) (Or.inl ⟨by rfl, ?_⟩) ?_ ?_
                rotate_left
                ·intro w'
                 go_simp
                 with_reducible rfl
                rotate_left
                ·simp only [Act.put, List.setIfInBounds_toArray, List.set_cons_zero, List.set_cons_succ, i64_w, i32_w]
                 rfl
                refine one_ (i := 10) (N := some 14) #[true, true, true, true, true, true, true, true, true, true, true, false, false] rfl rfl (one_of HT_.out (by kernel_rfl)) (by decide) (fun K hK => ?_)
                refine box_step ?hg (N := 14) ?hd (cs := #[.int .i64 0, .string (⟨#[]⟩ : ByteArray), .string (⟨#[]⟩ : ByteArray)]) (t := 35) ?hr ?_; (case hd => rfl); (case hg => rfl); (case hr => first | (go_simp; done) | (go_simp; rfl))
                intro gb169 hg w146 hbox hb
                have n0_ := Aside0.mk (Kd.R_below (Kd.R_elderB (rk_ HO_7.out) gb169 (Nat.le_of_eq hg.symm)) hb)
                have n1_ := Aside0.mk (Kd.R_below (Kd.R_elderB (rk_ HO164.out) gb169 (Nat.le_of_eq hg.symm)) hb)
                have n2_ := Aside0.mk (blk_below (g := gb137) (o := .cells #[.int .i64 a1_0, .string a1_1, .string a1_2] 35 (0, 0)) (bk_ BK137.out) hb)
                have n3_ := Aside0.mk (blk_below (g := gb151) (o := .cells #[.int .i64 t147, .string t148, .string t149] 35 (0, 0)) (bk_ BK151.out) hb)
                have n4_ := Aside0.mk (blk_below (g := gb156) (o := .cells #[.int .i64 t152, .string t153, .string t154] 35 (0, 0)) (bk_ BK156.out) hb)
                have n5_ := Aside0.mk (blk_below (g := gb161) (o := .cells #[.int .i64 t157, .string t158, .string t159] 35 (0, 0)) (bk_ BK161.out) hb)
                have n6_ := Aside0.mk (below_step (hs_) hb)
                have n7_ := Aside0.mk (hbox)
                have n8_ := Aside0.mk ((by rw [hg]; exact (below_size (hs_)) : w.heap.size ≤ gb169))
                have n9_ := Aside0.mk ((by rw [hg]; exact (below_size (hs_)) : w.heap.size ≤ gb169))
                have n10_ := Aside0.mk ((by rw [hg]; exact Nat.ne_of_lt (blk_lt (g := gb137) (o := .cells #[.int .i64 a1_0, .string a1_1, .string a1_2] 35 (0, 0)) (bk_ BK137.out)) : gb137 ≠ gb169))
                have n11_ := Aside0.mk ((by rw [hg]; exact Nat.ne_of_gt (blk_lt (g := gb137) (o := .cells #[.int .i64 a1_0, .string a1_1, .string a1_2] 35 (0, 0)) (bk_ BK137.out)) : gb169 ≠ gb137))
                have n12_ := Aside0.mk ((by rw [hg]; exact Nat.ne_of_lt (blk_lt (g := gb151) (o := .cells #[.int .i64 t147, .string t148, .string t149] 35 (0, 0)) (bk_ BK151.out)) : gb151 ≠ gb169))
                have n13_ := Aside0.mk ((by rw [hg]; exact Nat.ne_of_gt (blk_lt (g := gb151) (o := .cells #[.int .i64 t147, .string t148, .string t149] 35 (0, 0)) (bk_ BK151.out)) : gb169 ≠ gb151))
                have n14_ := Aside0.mk ((by rw [hg]; exact Nat.ne_of_lt (blk_lt (g := gb156) (o := .cells #[.int .i64 t152, .string t153, .string t154] 35 (0, 0)) (bk_ BK156.out)) : gb156 ≠ gb169))
                have n15_ := Aside0.mk ((by rw [hg]; exact Nat.ne_of_gt (blk_lt (g := gb156) (o := .cells #[.int .i64 t152, .string t153, .string t154] 35 (0, 0)) (bk_ BK156.out)) : gb169 ≠ gb156))
                have n16_ := Aside0.mk ((by rw [hg]; exact Nat.ne_of_lt (blk_lt (g := gb161) (o := .cells #[.int .i64 t157, .string t158, .string t159] 35 (0, 0)) (bk_ BK161.out)) : gb161 ≠ gb169))
                have n17_ := Aside0.mk ((by rw [hg]; exact Nat.ne_of_gt (blk_lt (g := gb161) (o := .cells #[.int .i64 t157, .string t158, .string t159] 35 (0, 0)) (bk_ BK161.out)) : gb169 ≠ gb161))
                clear HO_7
                clear HO164
                clear BK137
                clear BK151
                clear BK156
                clear BK161
                clear HB
                have HO_7 := n0_
                have HO164 := n1_
                have BK137 := n2_
                have BK151 := n3_
                have BK156 := n4_
                have BK161 := n5_
                have HB := n6_
                have BK169 := n7_
                have GW169 := n8_
                have GE169 := n9_
                have NB137_169 := n10_
                have NB169_137 := n11_
                have NB151_169 := n12_
                have NB169_151 := n13_
                have NB156_169 := n14_
                have NB169_156 := n15_
                have NB161_169 := n16_
                have NB169_161 := n17_
                clear n0_ n1_ n2_ n3_ n4_ n5_ n6_ n7_ n8_ n9_ n10_ n11_ n12_ n13_ n14_ n15_ n16_ n17_
                clear hb hbox hg
                refine hK.out _ _ ⟨(blk_cell BK137.out 0).trans rfl, (blk_cell BK137.out 1).trans rfl, (blk_cell BK137.out 2).trans rfl⟩ (fun hHeld => ?_)
                clear hK K
                refine norm_ (a' := ?_) ?_ ?_
                rotate_left
                ·show Act.put _ (some 14) _ = _
                 simp only [Act.put, List.setIfInBounds_toArray, List.set_cons_zero, List.set_cons_succ, i64_w, i32_w]
                 rfl
                exact norm_ (by simp only [putAll, Act.put, List.setIfInBounds_toArray, List.set_cons_zero, List.set_cons_succ]) (hCont (.slice Ao144 t162.length co144, gb169) _ ⟨hHeld, (by (with_reducible repeat (first | apply Kd.R_alloc | apply Kd.R_drewN | apply Kd.R_drew)); exact Kd.R_mono HO164.out (fun _ hk => ⟨hk.1.1.1.1.1.2, ⟨hk.1.1.1.1.2, ⟨hk.1.1.1.2, ⟨hk.1.1.2, ⟨hk.1.2, hk.2⟩⟩⟩⟩⟩)), (by (with_reducible repeat (first | apply Kd.R_alloc | apply Kd.R_drewN | apply Kd.R_drew)); exact Kd.R_mono HO_7.out (fun _ hk => ⟨hk.1.2, ⟨hk.1.1.1, ⟨hk.1.1.2.1, ⟨hk.1.1.2.2.1, ⟨hk.1.1.2.2.2, hk.2⟩⟩⟩⟩⟩)), (bk_ BK137.out), (bk_ BK151.out), (bk_ BK156.out), (bk_ BK161.out), (bk_ BK169.out), GW169.out, GE169.out, NB137_169.out, NB169_137.out, NB151_169.out, NB169_151.out, NB156_169.out, NB169_156.out, NB161_169.out, NB169_161.out, (hs_)⟩)
               ·skip
                refine box_step ?hg (N := 14) ?hd (cs := #[.int .i64 0, .string (⟨#[]⟩ : ByteArray), .string (⟨#[]⟩ : ByteArray)]) (t := 35) ?hr ?_; (case hd => rfl); (case hg => rfl); (case hr => first | (go_simp; done) | (go_simp; rfl))
                intro gb169 hg w144 hbox hb
                have n0_ := Aside0.mk (Kd.R_below (Kd.R_elderB (rk_ HO_7.out) gb169 (Nat.le_of_eq hg.symm)) hb)
                have n1_ := Aside0.mk (Kd.R_below (Kd.R_elderB (rk_ HO164.out) gb169 (Nat.le_of_eq hg.symm)) hb)
                have n2_ := Aside0.mk (blk_below (g := gb137) (o := .cells #[.int .i64 a1_0, .string a1_1, .string a1_2] 35 (0, 0)) (bk_ BK137.out) hb)
                have n3_ := Aside0.mk (blk_below (g := gb151) (o := .cells #[.int .i64 t147, .string t148, .string t149] 35 (0, 0)) (bk_ BK151.out) hb)
                have n4_ := Aside0.mk (blk_below (g := gb156) (o := .cells #[.int .i64 t152, .string t153, .string t154] 35 (0, 0)) (bk_ BK156.out) hb)
                have n5_ := Aside0.mk (blk_below (g := gb161) (o := .cells #[.int .i64 t157, .string t158, .string t159] 35 (0, 0)) (bk_ BK161.out) hb)
                have n6_ := Aside0.mk (below_step (hs_) hb)
                have n7_ := Aside0.mk (hbox)
                have n8_ := Aside0.mk ((by rw [hg]; exact (below_size (hs_)) : w.heap.size ≤ gb169))
                have n9_ := Aside0.mk ((by rw [hg]; exact (below_size (hs_)) : w.heap.size ≤ gb169))
                have n10_ := Aside0.mk ((by rw [hg]; exact Nat.ne_of_lt (blk_lt (g := gb137) (o := .cells #[.int .i64 a1_0, .string a1_1, .string a1_2] 35 (0, 0)) (bk_ BK137.out)) : gb137 ≠ gb169))
                have n11_ := Aside0.mk ((by rw [hg]; exact Nat.ne_of_gt (blk_lt (g := gb137) (o := .cells #[.int .i64 a1_0, .string a1_1, .string a1_2] 35 (0, 0)) (bk_ BK137.out)) : gb169 ≠ gb137))
                have n12_ := Aside0.mk ((by rw [hg]; exact Nat.ne_of_lt (blk_lt (g := gb151) (o := .cells #[.int .i64 t147, .string t148, .string t149] 35 (0, 0)) (bk_ BK151.out)) : gb151 ≠ gb169))
                have n13_ := Aside0.mk ((by rw [hg]; exact Nat.ne_of_gt (blk_lt (g := gb151) (o := .cells #[.int .i64 t147, .string t148, .string t149] 35 (0, 0)) (bk_ BK151.out)) : gb169 ≠ gb151))
                have n14_ := Aside0.mk ((by rw [hg]; exact Nat.ne_of_lt (blk_lt (g := gb156) (o := .cells #[.int .i64 t152, .string t153, .string t154] 35 (0, 0)) (bk_ BK156.out)) : gb156 ≠ gb169))
                have n15_ := Aside0.mk ((by rw [hg]; exact Nat.ne_of_gt (blk_lt (g := gb156) (o := .cells #[.int .i64 t152, .string t153, .string t154] 35 (0, 0)) (bk_ BK156.out)) : gb169 ≠ gb156))
                have n16_ := Aside0.mk ((by rw [hg]; exact Nat.ne_of_lt (blk_lt (g := gb161) (o := .cells #[.int .i64 t157, .string t158, .string t159] 35 (0, 0)) (bk_ BK161.out)) : gb161 ≠ gb169))
                have n17_ := Aside0.mk ((by rw [hg]; exact Nat.ne_of_gt (blk_lt (g := gb161) (o := .cells #[.int .i64 t157, .string t158, .string t159] 35 (0, 0)) (bk_ BK161.out)) : gb169 ≠ gb161))
                clear HO_7
                clear HO164
                clear BK137
                clear BK151
                clear BK156
                clear BK161
                clear HB
                have HO_7 := n0_
                have HO164 := n1_
                have BK137 := n2_
                have BK151 := n3_
                have BK156 := n4_
                have BK161 := n5_
                have HB := n6_
                have BK169 := n7_
                have GW169 := n8_
                have GE169 := n9_
                have NB137_169 := n10_
                have NB169_137 := n11_
                have NB151_169 := n12_
                have NB169_151 := n13_
                have NB156_169 := n14_
                have NB169_156 := n15_
                have NB161_169 := n16_
                have NB169_161 := n17_
                clear n0_ n1_ n2_ n3_ n4_ n5_ n6_ n7_ n8_ n9_ n10_ n11_ n12_ n13_ n14_ n15_ n16_ n17_
                clear hb hbox hg
                obtain ⟨Ao145, co145, eo145⟩ := Kd.R_slice HO164.out
                (first | subst eo145 | (injection eo145 with f1_ f2_ f3_; have f4_ := f1_.symm; have f5_ := f3_.symm; clear f1_ f2_ f3_; subst f4_; subst f5_))
                refine hK.out _ _ ⟨(blk_cell BK137.out 0).trans rfl, (blk_cell BK137.out 1).trans rfl, (blk_cell BK137.out 2).trans rfl⟩ (fun hHeld => ?_)
                clear hK K
                refine norm_ (a' := ?_) ?_ ?_
                rotate_left
                ·show Act.put _ (some 14) _ = _
                 simp only [Act.put, List.setIfInBounds_toArray, List.set_cons_zero, List.set_cons_succ, i64_w, i32_w]
                 rfl
                refine one_ (i := 6) (N := some 82) #[true, true, true, true, true, true, true, false, false, false, true, false, false] rfl rfl (one_of HT_.out (by kernel_rfl)) (by decide) (fun K hK => ?_)
                refine goes_ Tryd.func25 (by kernel_rfl) rfl #[.slice Ao145 t162.length co145, .string a1_1] (by rfl) rfl rfl (by (try simp only [List.map_toArray, List.map_cons, List.map_nil]); first | done | rfl | (simp only [List.length_drop, List.length_take]; rfl)) ?_
                with_reducible refine (tree_Find.calls kj22 _ _ t162 a1_1 t165 t166 t167 false _ ?side1 ?side2 A43.out).mono ?_
                (case side1 => repeat (first | exact (Kd.R_reads' HO164.out).2.2 | (with_reducible refine Kd.C_alloc ?_ _) | (with_reducible refine Kd.C_drewN ?_ _) | (with_reducible refine Kd.C_drew ?_)))
                (case side2 => exact (Kd.R_reads' HO164.out).2.1)
                rintro e w146 ⟨rfl, hb⟩
                refine ⟨_, rfl, ?_⟩
                have n0_ := Aside0.mk (Kd.R_below (rk_ HO_7.out) hb)
                have n1_ := Aside0.mk (Kd.R_below (rk_ HO164.out) hb)
                have n2_ := Aside0.mk (blk_below (g := gb137) (o := .cells #[.int .i64 a1_0, .string a1_1, .string a1_2] 35 (0, 0)) (bk_ BK137.out) hb)
                have n3_ := Aside0.mk (blk_below (g := gb151) (o := .cells #[.int .i64 t147, .string t148, .string t149] 35 (0, 0)) (bk_ BK151.out) hb)
                have n4_ := Aside0.mk (blk_below (g := gb156) (o := .cells #[.int .i64 t152, .string t153, .string t154] 35 (0, 0)) (bk_ BK156.out) hb)
                have n5_ := Aside0.mk (blk_below (g := gb161) (o := .cells #[.int .i64 t157, .string t158, .string t159] 35 (0, 0)) (bk_ BK161.out) hb)
                have n6_ := Aside0.mk (blk_below (g := gb169) (o := .cells #[.int .i64 0, .string (⟨#[]⟩ : ByteArray), .string (⟨#[]⟩ : ByteArray)] 35 (0, 0)) (bk_ BK169.out) hb)
                have n7_ := Aside0.mk (below_step (hs_) hb)
                clear HO_7
                clear HO164
                clear BK137
                clear BK151
                clear BK156
                clear BK161
                clear BK169
                clear HB
                have HO_7 := n0_
                have HO164 := n1_
                have BK137 := n2_
                have BK151 := n3_
                have BK156 := n4_
                have BK161 := n5_
                have BK169 := n6_
                have HB := n7_
                clear n0_ n1_ n2_ n3_ n4_ n5_ n6_ n7_
                (try clear hb)
                (try clear hb2)
                (try clear hk)
                (try clear hi)
                refine hK.out _ _ ⟨(blk_cell BK137.out 0).trans rfl, (blk_cell BK137.out 1).trans rfl, (blk_cell BK137.out 2).trans rfl⟩ (fun hHeld => ?_)
                clear hK K
                refine norm_ (a' := ?_) ?_ ?_
                rotate_left
                ·show Act.put _ (some 82) _ = _
                 simp only [Act.put, List.setIfInBounds_toArray, List.set_cons_zero, List.set_cons_succ, i64_w, i32_w]
                 rfl
                refine pure_ (i := 7) (N := some 75) (v := ?_) (a' := ?_) #[true, true, true, true, true, true, true, true, false, false, true, false, false] rfl rfl (any_of HT_.out (by kernel_rfl)) (fun _ _ _ h => h) (Or.inl ⟨by rfl, ?_⟩) ?_ ?_
                rotate_left
                ·intro w'
                 go_simp
                 with_reducible rfl
                rotate_left
                ·simp only [Act.put, List.setIfInBounds_toArray, List.set_cons_zero, List.set_cons_succ, i64_w, i32_w]
                 rfl
                refine pure_ (i := 8) (N := some 83) (v := ?_) (a' := ?_) #[true, true, true, true, true, true, true, true, true, false, true, false, false] rfl rfl (any_of HT_.out (by kernel_rfl)) (fun _ _ _ h => h) (Or.inl ⟨by rfl, ?_⟩) ?_ ?_
                rotate_left
                ·intro w'
                 go_simp
                 with_reducible rfl
                rotate_left
                ·simp only [Act.put, List.setIfInBounds_toArray, List.set_cons_zero, List.set_cons_succ, i64_w, i32_w]
                 rfl
                refine pure_ (i := 9) (N := some 84) (v := ?_) (a' := ?_) #[true, true, true, true, true, true, true, true, true, true, true, false, false] rfl rfl (any_of HT_.out (by kernel_rfl)) (fun _ _ _ h => h) (Or.inl ⟨by rfl, ?_⟩) ?_ ?_
                rotate_left
                ·intro w'
                 go_simp
                 with_reducible rfl
                rotate_left
                ·simp only [Act.put, List.setIfInBounds_toArray, List.set_cons_zero, List.set_cons_succ, i64_w, i32_w]
                 rfl
                exact norm_ (by simp only [putAll, Act.put, List.setIfInBounds_toArray, List.set_cons_zero, List.set_cons_succ]) (hCont (.slice Ao145 t162.length co145, gb169) _ ⟨hHeld, (by (with_reducible repeat (first | apply Kd.R_alloc | apply Kd.R_drewN | apply Kd.R_drew)); exact Kd.R_mono HO164.out (fun _ hk => ⟨hk.1.1.1.1.1.2, ⟨hk.1.1.1.1.2, ⟨hk.1.1.1.2, ⟨hk.1.1.2, ⟨hk.1.2, hk.2⟩⟩⟩⟩⟩)), (by (with_reducible repeat (first | apply Kd.R_alloc | apply Kd.R_drewN | apply Kd.R_drew)); exact Kd.R_mono HO_7.out (fun _ hk => ⟨hk.1.2, ⟨hk.1.1.1, ⟨hk.1.1.2.1, ⟨hk.1.1.2.2.1, ⟨hk.1.1.2.2.2, hk.2⟩⟩⟩⟩⟩)), (bk_ BK137.out), (bk_ BK151.out), (bk_ BK156.out), (bk_ BK161.out), (bk_ BK169.out), GW169.out, GE169.out, NB137_169.out, NB169_137.out, NB151_169.out, NB169_151.out, NB156_169.out, NB169_156.out, NB161_169.out, NB169_161.out, (hs_)⟩)
              ·skip
               refine box_step ?hg (N := 14) ?hd (cs := #[.int .i64 0, .string (⟨#[]⟩ : ByteArray), .string (⟨#[]⟩ : ByteArray)]) (t := 35) ?hr ?_; (case hd => rfl); (case hg => rfl); (case hr => first | (go_simp; done) | (go_simp; rfl))
               intro gb169 hg w143 hbox hb
               have n0_ := Aside0.mk (Kd.R_below (Kd.R_elderB (rk_ HO_7.out) gb169 (Nat.le_of_eq hg.symm)) hb)
               have n1_ := Aside0.mk (blk_below (g := gb137) (o := .cells #[.int .i64 a1_0, .string a1_1, .string a1_2] 35 (0, 0)) (bk_ BK137.out) hb)
               have n2_ := Aside0.mk (blk_below (g := gb151) (o := .cells #[.int .i64 t147, .string t148, .string t149] 35 (0, 0)) (bk_ BK151.out) hb)
               have n3_ := Aside0.mk (blk_below (g := gb156) (o := .cells #[.int .i64 t152, .string t153, .string t154] 35 (0, 0)) (bk_ BK156.out) hb)
               have n4_ := Aside0.mk (blk_below (g := gb161) (o := .cells #[.int .i64 t157, .string t158, .string t159] 35 (0, 0)) (bk_ BK161.out) hb)
               have n5_ := Aside0.mk (below_step (hs_) hb)
               have n6_ := Aside0.mk (hbox)
               have n7_ := Aside0.mk ((by rw [hg]; exact (below_size (hs_)) : w.heap.size ≤ gb169))
               have n8_ := Aside0.mk ((by rw [hg]; exact (below_size (hs_)) : w.heap.size ≤ gb169))
               have n9_ := Aside0.mk ((by rw [hg]; exact Nat.ne_of_lt (blk_lt (g := gb137) (o := .cells #[.int .i64 a1_0, .string a1_1, .string a1_2] 35 (0, 0)) (bk_ BK137.out)) : gb137 ≠ gb169))
               have n10_ := Aside0.mk ((by rw [hg]; exact Nat.ne_of_gt (blk_lt (g := gb137) (o := .cells #[.int .i64 a1_0, .string a1_1, .string a1_2] 35 (0, 0)) (bk_ BK137.out)) : gb169 ≠ gb137))
               have n11_ := Aside0.mk ((by rw [hg]; exact Nat.ne_of_lt (blk_lt (g := gb151) (o := .cells #[.int .i64 t147, .string t148, .string t149] 35 (0, 0)) (bk_ BK151.out)) : gb151 ≠ gb169))
               have n12_ := Aside0.mk ((by rw [hg]; exact Nat.ne_of_gt (blk_lt (g := gb151) (o := .cells #[.int .i64 t147, .string t148, .string t149] 35 (0, 0)) (bk_ BK151.out)) : gb169 ≠ gb151))
               have n13_ := Aside0.mk ((by rw [hg]; exact Nat.ne_of_lt (blk_lt (g := gb156) (o := .cells #[.int .i64 t152, .string t153, .string t154] 35 (0, 0)) (bk_ BK156.out)) : gb156 ≠ gb169))
               have n14_ := Aside0.mk ((by rw [hg]; exact Nat.ne_of_gt (blk_lt (g := gb156) (o := .cells #[.int .i64 t152, .string t153, .string t154] 35 (0, 0)) (bk_ BK156.out)) : gb169 ≠ gb156))
               have n15_ := Aside0.mk ((by rw [hg]; exact Nat.ne_of_lt (blk_lt (g := gb161) (o := .cells #[.int .i64 t157, .string t158, .string t159] 35 (0, 0)) (bk_ BK161.out)) : gb161 ≠ gb169))
               have n16_ := Aside0.mk ((by rw [hg]; exact Nat.ne_of_gt (blk_lt (g := gb161) (o := .cells #[.int .i64 t157, .string t158, .string t159] 35 (0, 0)) (bk_ BK161.out)) : gb169 ≠ gb161))
               clear HO_7
               clear BK137
               clear BK151
               clear BK156
               clear BK161
               clear HB
               have HO_7 := n0_
               have BK137 := n1_
               have BK151 := n2_
               have BK156 := n3_
               have BK161 := n4_
               have HB := n5_
               have BK169 := n6_
               have GW169 := n7_
               have GE169 := n8_
               have NB137_169 := n9_
               have NB169_137 := n10_
               have NB151_169 := n11_
               have NB169_151 := n12_
               have NB156_169 := n13_
               have NB169_156 := n14_
               have NB161_169 := n15_
               have NB169_161 := n16_
               clear n0_ n1_ n2_ n3_ n4_ n5_ n6_ n7_ n8_ n9_ n10_ n11_ n12_ n13_ n14_ n15_ n16_
               clear hb hbox hg
               refine hK.out _ _ ⟨(blk_cell BK137.out 0).trans rfl, (blk_cell BK137.out 1).trans rfl, (blk_cell BK137.out 2).trans rfl⟩ (fun hHeld => ?_)
               clear hK K
               refine norm_ (a' := ?_) ?_ ?_
               rotate_left
               ·show Act.put _ (some 14) _ = _
                simp only [Act.put, List.setIfInBounds_toArray, List.set_cons_zero, List.set_cons_succ, i64_w, i32_w]
                rfl
               refine one_ (i := 3) (N := some 79) #[true, true, true, true, true, true, false, false, false, false, true, false, false] rfl rfl (one_of HT_.out (by kernel_rfl)) (by decide) (fun K hK => ?_)
               refine goes_ Tryd.func30 (by kernel_rfl) rfl #[.slice Ao125 t142.length co125, .string a1_1] (by rfl) rfl rfl (by (try simp only [List.map_toArray, List.map_cons, List.map_nil]); first | done | rfl | (simp only [List.length_drop, List.length_take]; rfl)) ?_
               with_reducible refine (tree_Drop.calls kj22 _ _ t142 a1_1 t162 _ ?side1 ?side2 A42.out).mono ?_
               (case side1 => repeat (first | exact (Kd.R_reads' HO_7.out).2.2 | (with_reducible refine Kd.C_alloc ?_ _) | (with_reducible refine Kd.C_drewN ?_ _) | (with_reducible refine Kd.C_drew ?_)))
               (case side2 => exact (Kd.R_reads' HO_7.out).2.1)
               rintro e w144 ⟨v163, rfl, ho0, hb⟩
               refine ⟨_, rfl, ?_⟩
               have n0_ := Aside0.mk (Kd.R_elder' (rk_ HO_7.out) (Kd.R_base ho0) hb)
               have n1_ := Aside0.mk (Kd.R_lower (Kd.R_newB (Kd.R_newB (Kd.R_newB (Kd.R_newB (Kd.R_newB (Kd.R_new' ho0 (Kd.R_lt (rk_ HO_7.out))) (g := gb137) (o := .cells #[.int .i64 a1_0, .string a1_1, .string a1_2] 35 (0, 0)) (bk_ BK137.out)) (g := gb151) (o := .cells #[.int .i64 t147, .string t148, .string t149] 35 (0, 0)) (bk_ BK151.out)) (g := gb156) (o := .cells #[.int .i64 t152, .string t153, .string t154] 35 (0, 0)) (bk_ BK156.out)) (g := gb161) (o := .cells #[.int .i64 t157, .string t158, .string t159] 35 (0, 0)) (bk_ BK161.out)) (g := gb169) (o := .cells #[.int .i64 0, .string (⟨#[]⟩ : ByteArray), .string (⟨#[]⟩ : ByteArray)] 35 (0, 0)) (bk_ BK169.out)) (below_size (hs_)))
               have n2_ := Aside0.mk (blk_below (g := gb137) (o := .cells #[.int .i64 a1_0, .string a1_1, .string a1_2] 35 (0, 0)) (bk_ BK137.out) hb)
               have n3_ := Aside0.mk (blk_below (g := gb151) (o := .cells #[.int .i64 t147, .string t148, .string t149] 35 (0, 0)) (bk_ BK151.out) hb)
               have n4_ := Aside0.mk (blk_below (g := gb156) (o := .cells #[.int .i64 t152, .string t153, .string t154] 35 (0, 0)) (bk_ BK156.out) hb)
               have n5_ := Aside0.mk (blk_below (g := gb161) (o := .cells #[.int .i64 t157, .string t158, .string t159] 35 (0, 0)) (bk_ BK161.out) hb)
               have n6_ := Aside0.mk (blk_below (g := gb169) (o := .cells #[.int .i64 0, .string (⟨#[]⟩ : ByteArray), .string (⟨#[]⟩ : ByteArray)] 35 (0, 0)) (bk_ BK169.out) hb)
               have n7_ := Aside0.mk (below_step (hs_) hb)
               clear HO_7
               clear BK137
               clear BK151
               clear BK156
               clear BK161
               clear BK169
               clear HB
               have HO_7 := n0_
               have HO164 := n1_
               have BK137 := n2_
               have BK151 := n3_
               have BK156 := n4_
               have BK161 := n5_
               have BK169 := n6_
               have HB := n7_
               clear n0_ n1_ n2_ n3_ n4_ n5_ n6_ n7_
               (try clear hb)
               (try clear hb2)
               (try clear hk)
               (try clear hi)
               (try clear ho0)
               obtain ⟨Ao145, co145, eo145⟩ := Kd.R_slice HO164.out
               (first | subst eo145 | (injection eo145 with f1_ f2_ f3_; have f4_ := f1_.symm; have f5_ := f3_.symm; clear f1_ f2_ f3_; subst f4_; subst f5_))
               refine hK.out _ _ ⟨(blk_cell BK137.out 0).trans rfl, (blk_cell BK137.out 1).trans rfl, (blk_cell BK137.out 2).trans rfl⟩ (fun hHeld => ?_)
               clear hK K
               refine norm_ (a' := ?_) ?_ ?_
               rotate_left
               ·show Act.put _ (some 79) _ = _
                simp only [Act.put, List.setIfInBounds_toArray, List.set_cons_zero, List.set_cons_succ, i64_w, i32_w]
                rfl
               refine one_ (i := 6) (N := some 82) #[true, true, true, true, true, true, true, false, false, false, true, false, false] rfl rfl (one_of HT_.out (by kernel_rfl)) (by decide) (fun K hK => ?_)
               refine goes_ Tryd.func25 (by kernel_rfl) rfl #[.slice Ao145 t162.length co145, .string a1_1] (by rfl) rfl rfl (by (try simp only [List.map_toArray, List.map_cons, List.map_nil]); first | done | rfl | (simp only [List.length_drop, List.length_take]; rfl)) ?_
               with_reducible refine (tree_Find.calls kj22 _ _ t162 a1_1 t165 t166 t167 false _ ?side1 ?side2 A43.out).mono ?_
               (case side1 => repeat (first | exact (Kd.R_reads' HO164.out).2.2 | (with_reducible refine Kd.C_alloc ?_ _) | (with_reducible refine Kd.C_drewN ?_ _) | (with_reducible refine Kd.C_drew ?_)))
               (case side2 => exact (Kd.R_reads' HO164.out).2.1)
               rintro e w146 ⟨rfl, hb⟩
               refine ⟨_, rfl, ?_⟩
               have n0_ := Aside0.mk (Kd.R_below (rk_ HO_7.out) hb)
               have n1_ := Aside0.mk (Kd.R_below (rk_ HO164.out) hb)
               have n2_ := Aside0.mk (blk_below (g := gb137) (o := .cells #[.int .i64 a1_0, .string a1_1, .string a1_2] 35 (0, 0)) (bk_ BK137.out) hb)
               have n3_ := Aside0.mk (blk_below (g := gb151) (o := .cells #[.int .i64 t147, .string t148, .string t149] 35 (0, 0)) (bk_ BK151.out) hb)
               have n4_ := Aside0.mk (blk_below (g := gb156) (o := .cells #[.int .i64 t152, .string t153, .string t154] 35 (0, 0)) (bk_ BK156.out) hb)
               have n5_ := Aside0.mk (blk_below (g := gb161) (o := .cells #[.int .i64 t157, .string t158, .string t159] 35 (0, 0)) (bk_ BK161.out) hb)
               have n6_ := Aside0.mk (blk_below (g := gb169) (o := .cells #[.int .i64 0, .string (⟨#[]⟩ : ByteArray), .string (⟨#[]⟩ : ByteArray)] 35 (0, 0)) (bk_ BK169.out) hb)
               have n7_ := Aside0.mk (below_step (hs_) hb)
               clear HO_7
               clear HO164
               clear BK137
               clear BK151
               clear BK156
               clear BK161
               clear BK169
               clear HB
               have HO_7 := n0_
               have HO164 := n1_
               have BK137 := n2_
               have BK151 := n3_
               have BK156 := n4_
               have BK161 := n5_
               have BK169 := n6_
               have HB := n7_
               clear n0_ n1_ n2_ n3_ n4_ n5_ n6_ n7_
               (try clear hb)
               (try clear hb2)
               (try clear hk)
               (try clear hi)
               refine hK.out _ _ ⟨(blk_cell BK137.out 0).trans rfl, (blk_cell BK137.out 1).trans rfl, (blk_cell BK137.out 2).trans rfl⟩ (fun hHeld => ?_)
               clear hK K
               refine norm_ (a' := ?_) ?_ ?_
               rotate_left
               ·show Act.put _ (some 82) _ = _
                simp only [Act.put, List.setIfInBounds_toArray, List.set_cons_zero, List.set_cons_succ, i64_w, i32_w]
                rfl
               refine pure_ (i := 7) (N := some 75) (v := ?_) (a' := ?_) #[true, true, true, true, true, true, true, true, false, false, true, false, false] rfl rfl (any_of HT_.out (by kernel_rfl)) (fun _ _ _ h => h) (Or.inl ⟨by rfl, ?_⟩) ?_ ?_
               rotate_left
               ·intro w'
                go_simp
                with_reducible rfl
               rotate_left
               ·simp only [Act.put, List.setIfInBounds_toArray, List.set_cons_zero, List.set_cons_succ, i64_w, i32_w]
                rfl
               refine pure_ (i := 8) (N := some 83) (v := ?_) (a' := ?_) #[true, true, true, true, true, true, true, true, true, false, true, false, false] rfl rfl (any_of HT_.out (by kernel_rfl)) (fun _ _ _ h => h) (Or.inl ⟨by rfl, ?_⟩) ?_ ?_
               rotate_left
               ·intro w'
                go_simp
                with_reducible rfl
               rotate_left
               ·simp only [Act.put, List.setIfInBounds_toArray, List.set_cons_zero, List.set_cons_succ, i64_w, i32_w]
                rfl
               refine pure_ (i := 9) (N := some 84) (v := ?_) (a' := ?_) #[true, true, true, true, true, true, true, true, true, true, true, false, false] rfl rfl (any_of HT_.out (by kernel_rfl)) (fun _ _ _ h => h) (Or.inl ⟨by rfl, ?_⟩) ?_ ?_
               rotate_left
               ·intro w'
                go_simp
                with_reducible rfl
               rotate_left
               ·simp only [Act.put, List.setIfInBounds_toArray, List.set_cons_zero, List.set_cons_succ, i64_w, i32_w]
                rfl
               exact norm_ (by simp only [putAll, Act.put, List.setIfInBounds_toArray, List.set_cons_zero, List.set_cons_succ]) (hCont (.slice Ao145 t162.length co145, gb169) _ ⟨hHeld, (by (with_reducible repeat (first | apply Kd.R_alloc | apply Kd.R_drewN | apply Kd.R_drew)); exact Kd.R_mono HO164.out (fun _ hk => ⟨hk.1.1.1.1.1.2, ⟨hk.1.1.1.1.2, ⟨hk.1.1.1.2, ⟨hk.1.1.2, ⟨hk.1.2, hk.2⟩⟩⟩⟩⟩)), (by (with_reducible repeat (first | apply Kd.R_alloc | apply Kd.R_drewN | apply Kd.R_drew)); exact Kd.R_mono HO_7.out (fun _ hk => ⟨hk.2, ⟨hk.1.1.1, ⟨hk.1.1.2.1, ⟨hk.1.1.2.2.1, ⟨hk.1.1.2.2.2, hk.1.2⟩⟩⟩⟩⟩)), (bk_ BK137.out), (bk_ BK151.out), (bk_ BK156.out), (bk_ BK161.out), (bk_ BK169.out), GW169.out, GE169.out, NB137_169.out, NB169_137.out, NB151_169.out, NB169_151.out, NB156_169.out, NB169_156.out, NB161_169.out, NB169_161.out, (hs_)⟩)
             rintro ⟨v163, gb169⟩ w147 ⟨hS_, h0_, h1_, h2_, h3_, h4_, h5_, h6_, h7_, h8_, h9_, h10_, h11_, h12_, h13_, h14_, h15_, h16_, h17_⟩
             have n0_ : Aside0 (Kd.R k35 35 w147 w.heap.size (fun k_ => some k_ ≠ (.slice Ao125 t142.length co125 : Value).ownBlock ∧ k_ ≠ gb137 ∧ k_ ≠ gb151 ∧ k_ ≠ gb156 ∧ k_ ≠ gb161 ∧ k_ ≠ gb169) v163 t162) := ⟨h0_⟩
             have n1_ : Aside0 (Kd.R k35 35 w147 w.heap.size (fun k_ => some k_ ≠ (v163 : Value).ownBlock ∧ k_ ≠ gb137 ∧ k_ ≠ gb151 ∧ k_ ≠ gb156 ∧ k_ ≠ gb161 ∧ k_ ≠ gb169) (.slice Ao125 t142.length co125) t142) := ⟨h1_⟩
             have n2_ : Aside0 (w147.heap[gb137]? = some (.cells #[.int .i64 a1_0, .string a1_1, .string a1_2] 35 (0, 0))) := ⟨h2_⟩
             have n3_ : Aside0 (w147.heap[gb151]? = some (.cells #[.int .i64 t147, .string t148, .string t149] 35 (0, 0))) := ⟨h3_⟩
             have n4_ : Aside0 (w147.heap[gb156]? = some (.cells #[.int .i64 t152, .string t153, .string t154] 35 (0, 0))) := ⟨h4_⟩
             have n5_ : Aside0 (w147.heap[gb161]? = some (.cells #[.int .i64 t157, .string t158, .string t159] 35 (0, 0))) := ⟨h5_⟩
             have n6_ : Aside0 (w147.heap[gb169]? = some (.cells #[.int .i64 0, .string (⟨#[]⟩ : ByteArray), .string (⟨#[]⟩ : ByteArray)] 35 (0, 0))) := ⟨h6_⟩
             have n7_ : Aside0 (w.heap.size ≤ gb169) := ⟨h7_⟩
             have n8_ : Aside0 (w.heap.size ≤ gb169) := ⟨h8_⟩
             have n9_ : Aside0 (gb137 ≠ gb169) := ⟨h9_⟩
             have n10_ : Aside0 (gb169 ≠ gb137) := ⟨h10_⟩
             have n11_ : Aside0 (gb151 ≠ gb169) := ⟨h11_⟩
             have n12_ : Aside0 (gb169 ≠ gb151) := ⟨h12_⟩
             have n13_ : Aside0 (gb156 ≠ gb169) := ⟨h13_⟩
             have n14_ : Aside0 (gb169 ≠ gb156) := ⟨h14_⟩
             have n15_ : Aside0 (gb161 ≠ gb169) := ⟨h15_⟩
             have n16_ : Aside0 (gb169 ≠ gb161) := ⟨h16_⟩
             have n17_ : Aside0 (Below w.heap.size w w147) := ⟨h17_⟩
             clear HO_7
             clear BK137
             clear BK151
             clear BK156
             clear BK161
             clear HB
             clear h0_ h1_ h2_ h3_ h4_ h5_ h6_ h7_ h8_ h9_ h10_ h11_ h12_ h13_ h14_ h15_ h16_ h17_
             have HO164 := n0_
             have HO_7 := n1_
             have BK137 := n2_
             have BK151 := n3_
             have BK156 := n4_
             have BK161 := n5_
             have BK169 := n6_
             have GW169 := n7_
             have GE169 := n8_
             have NB137_169 := n9_
             have NB169_137 := n10_
             have NB151_169 := n11_
             have NB169_151 := n12_
             have NB156_169 := n13_
             have NB169_156 := n14_
             have NB161_169 := n15_
             have NB169_161 := n16_
             have HB := n17_
             clear n0_ n1_ n2_ n3_ n4_ n5_ n6_ n7_ n8_ n9_ n10_ n11_ n12_ n13_ n14_ n15_ n16_ n17_
             have hHeld : w147.cell? ⟨gb137, 0, none⟩ = some (.int .i64 a1_0) ∧ w147.cell? ⟨gb137, 1, none⟩ = some (.string a1_1) ∧ w147.cell? ⟨gb137, 2, none⟩ = some (.string a1_2) := hS_
             refine norm_ (a' := ?_) ?_ ?_
             rotate_left
             ·simp only [putAll, Act.put, List.setIfInBounds_toArray, List.set_cons_zero, List.set_cons_succ]
              rfl
             refine one_ (i := 11) (N := none) #[true, true, true, true, true, true, true, true, true, true, true, true, false] rfl rfl (one_of HT_.out (by kernel_rfl)) (by decide) (fun K hK => ?_)
             have hs148 : w147.cell? ⟨gb169, 0, none⟩ = some (.int .i64 0) := (blk_cell BK169.out 0).trans rfl
             have hfs148 := blk_frozen BK169.out 0
             have hns148_0 := NB137_169.out
             have hns148_1 := NB151_169.out
             have hns148_2 := NB156_169.out
             have hns148_3 := NB161_169.out
             have hms148_0 := NB169_137.out
             have hms148_1 := NB169_151.out
             have hms148_2 := NB169_156.out
             have hms148_3 := NB169_161.out
             have hs149 : w147.cell? ⟨gb169, 1, none⟩ = some (.string (⟨#[]⟩ : ByteArray)) := (blk_cell BK169.out 1).trans rfl
             have hfs149 := blk_frozen BK169.out 1
             have hns149_0 := NB137_169.out
             have hns149_1 := NB151_169.out
             have hns149_2 := NB156_169.out
             have hns149_3 := NB161_169.out
             have hms149_0 := NB169_137.out
             have hms149_1 := NB169_151.out
             have hms149_2 := NB169_156.out
             have hms149_3 := NB169_161.out
             have hs150 : w147.cell? ⟨gb169, 2, none⟩ = some (.string (⟨#[]⟩ : ByteArray)) := (blk_cell BK169.out 2).trans rfl
             have hfs150 := blk_frozen BK169.out 2
             have hns150_0 := NB137_169.out
             have hns150_1 := NB151_169.out
             have hns150_2 := NB156_169.out
             have hns150_3 := NB161_169.out
             have hms150_0 := NB169_137.out
             have hms150_1 := NB169_151.out
             have hms150_2 := NB169_156.out
             have hms150_3 := NB169_161.out
             refine skip_ (w1 := ?_) (by rfl) rfl ?_ ?_
             rotate_left
             ·go_simp
              rfl
             refine hK.out _ _ ⟨((cell_far (p := ⟨gb169, _, none⟩) NB137_169.out _).trans (((cell_far (p := ⟨gb169, _, none⟩) NB137_169.out _).trans (((cell_far (p := ⟨gb169, _, none⟩) NB137_169.out _).trans (hHeld.1)))))), ((cell_far (p := ⟨gb169, _, none⟩) NB137_169.out _).trans (((cell_far (p := ⟨gb169, _, none⟩) NB137_169.out _).trans (((cell_far (p := ⟨gb169, _, none⟩) NB137_169.out _).trans (hHeld.2.1)))))), ((cell_far (p := ⟨gb169, _, none⟩) NB137_169.out _).trans (((cell_far (p := ⟨gb169, _, none⟩) NB137_169.out _).trans (((cell_far (p := ⟨gb169, _, none⟩) NB137_169.out _).trans (hHeld.2.2))))))⟩ (fun hHeld => ?_)
             clear hK K
             refine pure_ (i := 12) (N := some 15) (v := ?_) (a' := ?_) #[true, true, true, true, true, true, true, true, true, true, true, true, true] rfl rfl (any_of HT_.out (by kernel_rfl)) (fun _ _ _ h => h) (Or.inl ⟨by rfl, ?_⟩) ?_ ?_
             rotate_left
             ·intro w'
              go_simp
              with_reducible rfl
             rotate_left
             ·simp only [Act.put, List.setIfInBounds_toArray, List.set_cons_zero, List.set_cons_succ, i64_w, i32_w]
              rfl
             refine done_ (done_of HT_.out (by kernel_rfl)) ?_
             have hnb151 := NB151_169.out
             have hnc151 := NB169_151.out
             have hcz152_0 : w147.cell? ⟨gb151, 0, none⟩ = some (.int .i64 t147) := (blk_cell BK151.out 0).trans rfl
             have hcz152_1 : w147.cell? ⟨gb151, 1, none⟩ = some (.string t148) := (blk_cell BK151.out 1).trans rfl
             have hcz152_2 : w147.cell? ⟨gb151, 2, none⟩ = some (.string t149) := (blk_cell BK151.out 2).trans rfl
             have hfz152_0 := blk_frozen BK151.out 0
             have hfz152_1 := blk_frozen BK151.out 1
             have hfz152_2 := blk_frozen BK151.out 2
             have hnb153 := NB137_169.out
             have hnc153 := NB169_137.out
             have hcz154_0 : w147.cell? ⟨gb137, 0, none⟩ = some (.int .i64 a1_0) := (blk_cell BK137.out 0).trans rfl
             have hcz154_1 : w147.cell? ⟨gb137, 1, none⟩ = some (.string a1_1) := (blk_cell BK137.out 1).trans rfl
             have hcz154_2 : w147.cell? ⟨gb137, 2, none⟩ = some (.string a1_2) := (blk_cell BK137.out 2).trans rfl
             have hfz154_0 := blk_frozen BK137.out 0
             have hfz154_1 := blk_frozen BK137.out 1
             have hfz154_2 := blk_frozen BK137.out 2
             have hnb155 := NB156_169.out
             have hnc155 := NB169_156.out
             have hcz156_0 : w147.cell? ⟨gb156, 0, none⟩ = some (.int .i64 t152) := (blk_cell BK156.out 0).trans rfl
             have hcz156_1 : w147.cell? ⟨gb156, 1, none⟩ = some (.string t153) := (blk_cell BK156.out 1).trans rfl
             have hcz156_2 : w147.cell? ⟨gb156, 2, none⟩ = some (.string t154) := (blk_cell BK156.out 2).trans rfl
             have hfz156_0 := blk_frozen BK156.out 0
             have hfz156_1 := blk_frozen BK156.out 1
             have hfz156_2 := blk_frozen BK156.out 2
             have hnb157 := NB161_169.out
             have hnc157 := NB169_161.out
             have hcz158_0 : w147.cell? ⟨gb161, 0, none⟩ = some (.int .i64 t157) := (blk_cell BK161.out 0).trans rfl
             have hcz158_1 : w147.cell? ⟨gb161, 1, none⟩ = some (.string t158) := (blk_cell BK161.out 1).trans rfl
             have hcz158_2 : w147.cell? ⟨gb161, 2, none⟩ = some (.string t159) := (blk_cell BK161.out 2).trans rfl
             have hfz158_0 := blk_frozen BK161.out 0
             have hfz158_1 := blk_frozen BK161.out 1
             have hfz158_2 := blk_frozen BK161.out 2
             try go_wp2_with (first | (go_at_call 15; (with_reducible refine (graftagelaw15_lives.calls kj22  t173 _ A123.out).mono ?_); rintro e w159 ⟨rfl, hb⟩; have n0_ := Aside0.mk (Kd.R_below (by (with_reducible repeat (first | apply Kd.R_alloc | apply Kd.R_drewN | apply Kd.R_drew)); exact (Kd.R_mono (Kd.R_far (p := ⟨gb169, 2, none⟩) (Kd.R_far (p := ⟨gb169, 1, none⟩) (Kd.R_far (p := ⟨gb169, 0, none⟩) (Kd.R_mono HO_7.out (fun k_ hk => (⟨hk, hk.2.2.2.2.2⟩ : _ ∧ k_ ≠ gb169))) (fun _ hk => hk.2) (.int .i64 t165)) (fun _ hk => hk.2) (.string t166)) (fun _ hk => hk.2) (.string t167)) (fun _ h_ => h_.1))) hb); have n1_ := Aside0.mk (Kd.R_below (by (with_reducible repeat (first | apply Kd.R_alloc | apply Kd.R_drewN | apply Kd.R_drew)); exact (Kd.R_mono (Kd.R_far (p := ⟨gb169, 2, none⟩) (Kd.R_far (p := ⟨gb169, 1, none⟩) (Kd.R_far (p := ⟨gb169, 0, none⟩) (Kd.R_mono HO164.out (fun k_ hk => (⟨hk, hk.2.2.2.2.2⟩ : _ ∧ k_ ≠ gb169))) (fun _ hk => hk.2) (.int .i64 t165)) (fun _ hk => hk.2) (.string t166)) (fun _ hk => hk.2) (.string t167)) (fun _ h_ => h_.1))) hb); have n2_ := Aside0.mk (blk_below (g := gb137) (o := .cells #[.int .i64 a1_0, .string a1_1, .string a1_2] 35 (0, 0)) (by (with_reducible repeat (first | refine blk_drewN ?_ _ | refine blk_drew ?_ | refine blk_alloc ?_ _)); refine blk_far ?_ NB137_169.out _; (with_reducible repeat (first | refine blk_drewN ?_ _ | refine blk_drew ?_ | refine blk_alloc ?_ _)); refine blk_far ?_ NB137_169.out _; (with_reducible repeat (first | refine blk_drewN ?_ _ | refine blk_drew ?_ | refine blk_alloc ?_ _)); refine blk_far ?_ NB137_169.out _; (with_reducible repeat (first | refine blk_drewN ?_ _ | refine blk_drew ?_ | refine blk_alloc ?_ _)); exact BK137.out) hb); have n3_ := Aside0.mk (blk_below (g := gb151) (o := .cells #[.int .i64 t147, .string t148, .string t149] 35 (0, 0)) (by (with_reducible repeat (first | refine blk_drewN ?_ _ | refine blk_drew ?_ | refine blk_alloc ?_ _)); refine blk_far ?_ NB151_169.out _; (with_reducible repeat (first | refine blk_drewN ?_ _ | refine blk_drew ?_ | refine blk_alloc ?_ _)); refine blk_far ?_ NB151_169.out _; (with_reducible repeat (first | refine blk_drewN ?_ _ | refine blk_drew ?_ | refine blk_alloc ?_ _)); refine blk_far ?_ NB151_169.out _; (with_reducible repeat (first | refine blk_drewN ?_ _ | refine blk_drew ?_ | refine blk_alloc ?_ _)); exact BK151.out) hb); have n4_ := Aside0.mk (blk_below (g := gb156) (o := .cells #[.int .i64 t152, .string t153, .string t154] 35 (0, 0)) (by (with_reducible repeat (first | refine blk_drewN ?_ _ | refine blk_drew ?_ | refine blk_alloc ?_ _)); refine blk_far ?_ NB156_169.out _; (with_reducible repeat (first | refine blk_drewN ?_ _ | refine blk_drew ?_ | refine blk_alloc ?_ _)); refine blk_far ?_ NB156_169.out _; (with_reducible repeat (first | refine blk_drewN ?_ _ | refine blk_drew ?_ | refine blk_alloc ?_ _)); refine blk_far ?_ NB156_169.out _; (with_reducible repeat (first | refine blk_drewN ?_ _ | refine blk_drew ?_ | refine blk_alloc ?_ _)); exact BK156.out) hb); have n5_ := Aside0.mk (blk_below (g := gb161) (o := .cells #[.int .i64 t157, .string t158, .string t159] 35 (0, 0)) (by (with_reducible repeat (first | refine blk_drewN ?_ _ | refine blk_drew ?_ | refine blk_alloc ?_ _)); refine blk_far ?_ NB161_169.out _; (with_reducible repeat (first | refine blk_drewN ?_ _ | refine blk_drew ?_ | refine blk_alloc ?_ _)); refine blk_far ?_ NB161_169.out _; (with_reducible repeat (first | refine blk_drewN ?_ _ | refine blk_drew ?_ | refine blk_alloc ?_ _)); refine blk_far ?_ NB161_169.out _; (with_reducible repeat (first | refine blk_drewN ?_ _ | refine blk_drew ?_ | refine blk_alloc ?_ _)); exact BK161.out) hb); have n6_ := Aside0.mk (blk_below (g := gb169) (o := .cells #[.int .i64 t165, .string t166, .string t167] 35 (0, 0)) (by (with_reducible repeat (first | refine blk_drewN ?_ _ | refine blk_drew ?_ | refine blk_alloc ?_ _)); refine blk_put (cs := #[.int .i64 t165, .string t166, .string (⟨#[]⟩ : ByteArray)]) ?_ 2 _ rfl; (with_reducible repeat (first | refine blk_drewN ?_ _ | refine blk_drew ?_ | refine blk_alloc ?_ _)); refine blk_put (cs := #[.int .i64 t165, .string (⟨#[]⟩ : ByteArray), .string (⟨#[]⟩ : ByteArray)]) ?_ 1 _ rfl; (with_reducible repeat (first | refine blk_drewN ?_ _ | refine blk_drew ?_ | refine blk_alloc ?_ _)); refine blk_put (cs := #[.int .i64 0, .string (⟨#[]⟩ : ByteArray), .string (⟨#[]⟩ : ByteArray)]) ?_ 0 _ rfl; (with_reducible repeat (first | refine blk_drewN ?_ _ | refine blk_drew ?_ | refine blk_alloc ?_ _)); exact BK169.out) hb); have n7_ := Aside0.mk (below_step (hs_) hb); clear HO_7; clear HO164; clear BK137; clear BK151; clear BK156; clear BK161; clear BK169; clear HB; have HO_7 := n0_; have HO164 := n1_; have BK137 := n2_; have BK151 := n3_; have BK156 := n4_; have BK161 := n5_; have BK169 := n6_; have HB := n7_; clear n0_ n1_ n2_ n3_ n4_ n5_ n6_ n7_; (try clear hb); (try clear hb2); (try clear hk); (try clear hi)))
             go_ret
             exact ⟨by first | rfl | (simp [errW_none, errW_some] <;> rfl) | (simp [*, errW_none, errW_some] <;> rfl) | (simp [ne_nil_bool]; done) | (simp [*, ne_nil_bool]; done), hs_⟩
            ·rw [if_neg c122] at H
             have c122b0 : (t155 == t160) = false := by simpa using c122
             (try (have c122b1 : decide (t155 = t160) = false := by simpa using c122))
             (try (have c122b2 : (t155 == t160) = false := by simpa using c122))
             (try (have c122b3 : ¬ (t155 = t160) := by simpa using c122))
             clear c122
             exact absurd ((Option.some.inj H).trans hr_) (by simp)
           ·rw [if_neg c121] at H
            have c121b0 : (t152 == t157 && (t153.toList == t158.toList && (t154.toList == t159.toList))) = false := by simpa using c121
            (try (have c121b1 : decide (t152 = t157 && (t153.toList == t158.toList && (t154.toList == t159.toList))) = false := by simpa using c121))
            (try (have c121b2 : (t152 == t157 && (t153.toList == t158.toList && (t154.toList == t159.toList))) = false := by simpa using c121))
            (try (have c121b3 : ¬ (t152 = t157 && (t153.toList == t158.toList && (t154.toList == t159.toList))) := by simpa using c121))
            clear c121
            exact absurd ((Option.some.inj H).trans hr_) (by simp)
        ·rw [if_neg c45] at H
         have c45b0 : (t147 == a1_0 && (t148.toList == a1_1.toList && (t149.toList == a1_2.toList))) = false := by simpa using c45
         (try (have c45b1 : decide (t147 = a1_0 && (t148.toList == a1_1.toList && (t149.toList == a1_2.toList))) = false := by simpa using c45))
         (try (have c45b2 : (t147 == a1_0 && (t148.toList == a1_1.toList && (t149.toList == a1_2.toList))) = false := by simpa using c45))
         (try (have c45b3 : ¬ (t147 = a1_0 && (t148.toList == a1_1.toList && (t149.toList == a1_2.toList))) := by simpa using c45))
         clear c45
         exact absurd ((Option.some.inj H).trans hr_) (by simp)
       ·replace c44 := Bool.eq_false_iff.mpr c44
        subst c44
        have H1 : (some false) = some r := by rw [if_neg (show ¬ (false = true) by decide)] at H; exact H
        clear H
        have H := H1
        clear H1
        exact absurd ((Option.some.inj H).trans hr_) (by simp)

end Go.Proofs.YtccbpbdfihnlgaaDoor.Q


