/- The law CommitBodies holds: for every input it returns true, and each argument reads afterwards as it read before. -/
import Derived.Test.YtbhfbbfjdklfgaaGreatDoorMYCommitBodies1
import Derived.Test.YtbhfbbfjdklfgaaGreatDoorMCommitBodies1
import Derived.Test.YtbhfbbfjdklfgaaGreatDoorMCommitBodies2
import Derived.Test.YtbhfbbfjdklfgaaGreatDoorMCommitBodies3
import Derived.Test.YtbhfbbfjdklfgaaGreatDoorMCommitBodies4
import Derived.Laws.Cover1
import Derived.Lib.IndexMore
import Derived.Lib.IndexLaws
import Derived.Lib.Atoi
import Derived.Lib.ItoaNum
import Derived.Lib.IndexAny
import Derived.Lib.LazyBuf
import Derived.Deep.Slices
import Derived.Lib.SmallJoins
import Derived.ChangeArms
import Derived.SizedLaws
import Derived.WalkKit
import Derived.ProofKit
import Derived.Test.YtbhfbbfjdklfgaaGreatDoorRows
import Derived.Test.YtbhfbbfjdklfgaaGreatDoorTie
import Derived.Test.YtbhfbbfjdklfgaaGreatDoorCards
import Derived.OpenShut
import Derived.ShutString
import Derived.ChangeOld
import Derived.Below
import Derived.Lay
import Derived.LaidOnce
import Derived.SevenTiedAt
import Derived.LaidLaws
import Derived.Handed
import Derived.ChangeVars
import Derived.JoinedOf
set_option linter.unusedVariables false
set_option linter.unusedSimpArgs false
namespace Go.Proofs.YtbhfbbfjdklfgaaGreatDoor.Q
open Go.RowKit Go.Proofs.YtbhfbbfjdklfgaaGreatDoorW.PrintWords Go.Proofs.YtbhfbbfjdklfgaaGreatDoorW.PrintLast Go.Proofs.YtbhfbbfjdklfgaaGreatDoorW.PrintMore
attribute [local go_sem] max2_int min2_int max_two min_two max_three min_three max_four min_four   -- for this text's walks alone

mutual
def commit_Links.j1 : Nat → List ByteArray → Option (List ByteArray × Int)
 | 0, _ => none
 | k + 1, x5 => commit_Links.l1 k ([] : List ByteArray) x5 (x5.length : Int) 0
def commit_Links.l1 : Nat → List ByteArray → List ByteArray → Int → Int → Option (List ByteArray × Int)
 | 0, _, _, _, _ => none
 | k + 1, x14, x69, x70, x71 => if x71 < x70 then (if 0 ≤ x71 then (if x71 < (x69.length : Int) then ((slices_Contains_string_string.f k x14 (rdOf ByteArray.empty x69 x71)).bind fun t147 => (if t147 = true then (commit_Links.l1 k x14 x69 x70 (wrap64 (x71 + 1))) else (if x14.length < 8796093022208 then (commit_Links.l1 k (x14 ++ [rdOf ByteArray.empty x69 x71]) x69 x70 (wrap64 (x71 + 1))) else (none)))) else (none)) else (none)) else (some (x14, 0))
def commit_Links.l0 : Nat → List ByteArray → List (S108) → Int → Int → Option (List ByteArray × Int)
 | 0, _, _, _, _ => none
 | k + 1, x5, x32, x33, x34 => if x34 < x33 then (if 0 ≤ x34 then (if x34 < (x32.length : Int) then (if x5.length < 8796093022208 then (commit_Links.l0 k (x5 ++ [(rd_T108 x32 x34).f2]) x32 x33 (wrap64 (x34 + 1))) else (none)) else (none)) else (none)) else (commit_Links.j1 k x5)
end
def commit_Links.f (k : Nat) (a0_0 : Int) (a0_1 : ByteArray) : Option (List ByteArray × Int) := (commit_Whole.f k a0_0 a0_1).bind fun t102 => (if t102 = 0 then (if a0_0 = 2 then ((tree_Parse.f k a0_1).bind fun bt103 => (commit_Links.l0 k ([] : List ByteArray) bt103.1 (bt103.1.length : Int) 0)) else (if a0_0 = 3 then ((commit_Parse.f k a0_1).bind fun bt112 => ((some (([bt112.1] : List ByteArray) : List ByteArray)).bind fun y127 => (if y127.length + bt112.2.1.length < 8796093022208 then (commit_Links.j1 k (y127 ++ bt112.2.1)) else (none)))) else (if a0_0 = 4 then ((commit_ParseTag.f k a0_1).bind fun bt133 => (commit_Links.j1 k (([bt133.1] : List ByteArray)))) else (commit_Links.j1 k ([] : List ByteArray))))) else (some (([] : List ByteArray), t102)))
theorem commit_Links.mono_l : ∀ k, (∀ y0, LeO (commit_Links.j1 k y0) (commit_Links.j1 (k + 1) y0)) ∧ (∀ y0 y1 y2 y3, LeO (commit_Links.l1 k y0 y1 y2 y3) (commit_Links.l1 (k + 1) y0 y1 y2 y3)) ∧ (∀ y0 y1 y2 y3, LeO (commit_Links.l0 k y0 y1 y2 y3) (commit_Links.l0 (k + 1) y0 y1 y2 y3))
 | 0 => ⟨fun _ r h => by simp [commit_Links.j1] at h, fun _ _ _ _ r h => by simp [commit_Links.l1] at h, fun _ _ _ _ r h => by simp [commit_Links.l0] at h⟩
 | k + 1 => by
  obtain ⟨ih0, ih1, ih2⟩ := commit_Links.mono_l k
  refine ⟨?_, ?_, ?_⟩
  ·intro y0
   unfold commit_Links.j1
   have m0_ := @ih0
   have m1_ := @ih1
   have m2_ := @ih2
   have m3_ := @commit_Parse.mono
   have m4_ := @commit_ParseTag.mono
   have m5_ := @commit_Whole.mono
   have m6_ := @slices_Contains_string_string.mono
   have m7_ := @tree_Parse.mono
   exact mz_
  ·intro y0 y1 y2 y3
   unfold commit_Links.l1
   have m0_ := @ih0
   have m1_ := @ih1
   have m2_ := @ih2
   have m3_ := @commit_Parse.mono
   have m4_ := @commit_ParseTag.mono
   have m5_ := @commit_Whole.mono
   have m6_ := @slices_Contains_string_string.mono
   have m7_ := @tree_Parse.mono
   exact mz_
  ·intro y0 y1 y2 y3
   unfold commit_Links.l0
   have m0_ := @ih0
   have m1_ := @ih1
   have m2_ := @ih2
   have m3_ := @commit_Parse.mono
   have m4_ := @commit_ParseTag.mono
   have m5_ := @commit_Whole.mono
   have m6_ := @slices_Contains_string_string.mono
   have m7_ := @tree_Parse.mono
   exact mz_
theorem commit_Links.mono : ∀ a0 a1 k, LeO (commit_Links.f k a0 a1) (commit_Links.f (k + 1) a0 a1) := by
 intro a0 a1 k; obtain ⟨ih0, ih1, ih2⟩ := commit_Links.mono_l k; unfold commit_Links.f; have m0_ := @ih0; have m1_ := @ih1; have m2_ := @ih2; have m3_ := @commit_Parse.mono; have m4_ := @commit_ParseTag.mono; have m5_ := @commit_Whole.mono; have m6_ := @slices_Contains_string_string.mono; have m7_ := @tree_Parse.mono; exact mz_
set_option maxHeartbeats 8000000 in
set_option maxRecDepth 100000 in
theorem commit_Links.calls (k : Nat) (a0_0 : Int) (a0_1 : ByteArray) (r1 : List ByteArray) (r2 : Int) (w : World) (hgv : GV w) (h : commit_Links.f k a0_0 a0_1 = some (r1, r2)) :
  Calls Tryz.prog 34 #[.agg #[.int .i64 a0_0, .string a0_1]] w fun e w' => ∃ v0_ : Value, e = .returned (.tuple #[v0_, .int .i64 r2]) ∧ Kd.R Kd.string 9 w' w.heap.size (fun _ => True) v0_ r1 ∧ Below w.heap.size w w' := by
 have hu50 := Tryz.underlying50; have hu108 := Tryz.underlying108; have hu26 := Tryz.underlying26; have hu37 := Tryz.underlying37; have HB := Aside0.mk (Below.refl w.heap.size w); unfold commit_Links.f at h; have H := h; clear h; replace H := Option.bind_eq_some_iff.mp H; obtain ⟨t102, A20, H⟩ := H; have A2 := Aside0.mk A20; clear A20; by_cases c3 : t102 = 0; rotate_left
 ·rw [if_neg c3] at H; have c3b0 := beq_eq_false_iff_ne.mpr c3; have c3b1 := bne_iff_ne.mpr c3; simp only [Option.some.injEq, Prod.mk.injEq] at H; obtain ⟨rfl, rfl⟩ := H; go_enter Tryz.func34, Tryz.ntmps34; go_wp2_with (first | ((with_reducible refine gate_dst (N := 1) rfl ?_); refine be_ (cs := #[.int .i64 a0_0, .string a0_1]) (t := 50) ?_; intro gb101 hg w54 hbox hb; have BK101 := Aside0.mk (hbox); have GW101 := ag_ hg HB; have GE101 := ag_ hg HB; replace HB := ah_ HB hb; clear hb hbox hg; obtain ⟨Z55_0, Z55_1, F55_0, F55_1⟩ := bc2 BK101.out) | ((with_reducible refine gate_callee (f := 36) rfl ?_); refine gl_ (some 18) Tryz.func36 #[.agg #[.int .i64 a0_0, .string a0_1]] ?_; (with_reducible refine (commit_Whole.calls k a0_0 a0_1 t102 _ ?side1 A2.out).mono ?_); (case side1 => exact GV.below hgv (hs_)); rintro e w56 ⟨rfl, hb⟩; refine ⟨_, rfl, ?_⟩; replace BK101 := ab_ BK101 hb; replace HB := Aside0.mk (below_step (hs_) hb); (try clear hb); (try clear hb2); (try clear hk); (try clear hi)))
  go_ret2
  exact ⟨_, z3_, z6_, hs_⟩
 rw [if_pos c3] at H; have c3b0 := beq_iff_eq.mpr c3; have c3b1 := bne_eq_false_iff_eq.mpr c3; clear c3; have HC4 := Aside0.mk H; clear H; go_enter Tryz.func34, Tryz.ntmps34; go_upto_block 0 with (first | ((with_reducible refine gate_dst (N := 1) rfl ?_); refine be_ (cs := #[.int .i64 a0_0, .string a0_1]) (t := 50) ?_; intro gb101 hg w5 hbox hb; have BK101 := Aside0.mk (hbox); have GW101 := ag_ hg HB; have GE101 := ag_ hg HB; replace HB := ah_ HB hb; clear hb hbox hg; obtain ⟨Z6_0, Z6_1, F6_0, F6_1⟩ := bc2 BK101.out) | ((with_reducible refine gate_callee (f := 36) rfl ?_); refine gl_ (some 18) Tryz.func36 #[.agg #[.int .i64 a0_0, .string a0_1]] ?_; (with_reducible refine (commit_Whole.calls k a0_0 a0_1 t102 _ ?side1 A2.out).mono ?_); (case side1 => exact GV.below hgv (hs_)); rintro e w7 ⟨rfl, hb⟩; refine ⟨_, rfl, ?_⟩; replace BK101 := ab_ BK101 hb; replace HB := Aside0.mk (below_step (hs_) hb); (try clear hb); (try clear hb2); (try clear hk); (try clear hi); obtain ⟨Z8_0, Z8_1, F8_0, F8_1⟩ := bc2 BK101.out)); (try simp only [Act.put, List.setIfInBounds_toArray, List.set_cons_zero, List.set_cons_succ])
 go_cut [5] (fun v5 wc => ∃ (kq : Nat) (x5_3 : List ByteArray), Aside0 (commit_Links.j1 kq x5_3 = some (r1, r2)) ∧ Aside0 (kq ≤ k) ∧ Aside0 (Kd.R Kd.string 9 wc w.heap.size (fun _ => True) v5 x5_3) ∧ Aside0 (wc.heap[gb101]? = some (.cells #[.int .i64 a0_0, .string a0_1] 50 (0, 0))) ∧ Aside0 (Below w.heap.size w wc))
 case first =>
  have H := HC4.out; clear HC4; by_cases c9 : a0_0 = 2
  ·rw [if_pos c9] at H; have c9b0 := beq_iff_eq.mpr c9; have c9b1 := bne_eq_false_iff_eq.mpr c9; clear c9; (first | rw [c9b0] | (simp only [i64_w, i32_w]; rw [c9b0]) | skip); (try rw [c9b8])
   replace H := Option.bind_eq_some_iff.mp H; obtain ⟨⟨t103, t104⟩, A100, H⟩ := H; dsimp only at H; have A10 := Aside0.mk A100; clear A100; have H' := Aside0.mk H; clear H; obtain ⟨Z11_0, Z11_1, F11_0, F11_1⟩ := bc2 BK101.out; go_wp2_with (first | ((with_reducible refine gate_callee (f := 94) rfl ?_); refine gl_ (some 29) Tryz.func94 #[.string a0_1] ?_; (with_reducible refine (tree_Parse.calls k a0_1 t103 t104 _ ?side1 A10.out).mono ?_); (case side1 => exact GV.below hgv (hs_)); rintro e w12 ⟨v105, rfl, ho0, hb⟩; refine ⟨_, rfl, ?_⟩; have HO106 := Aside0.mk (Kd.R_lower ho0 (below_size (hs_))); replace BK101 := ab_ BK101 hb; replace HB := Aside0.mk (below_step (hs_) hb); (try clear hb); (try clear hb2); (try clear hk); (try clear hi); (try clear ho0); obtain ⟨Ao13, co13, eo13⟩ := Kd.R_slice HO106.out; subst eo13)); go_loopg [5, 34] k (fun kq v5 v34 w' => ∃ (x5_1 : List ByteArray) (x34_1 : Int), v34 = .int .i64 x34_1 ∧ Aside0 (commit_Links.l0 kq x5_1 t103 (t103.length : Int) x34_1 = some (r1, r2)) ∧ Aside0 (kq ≤ k) ∧ Aside0 (Kd.R Kd.string 9 w' w.heap.size (fun _ => True) v5 x5_1) ∧ Aside0 (Kd.R k108 108 w' w.heap.size (fun _ => True) (.slice Ao13 t103.length co13) t103) ∧ Aside0 (w'.heap[gb101]? = some (.cells #[.int .i64 a0_0, .string a0_1] 50 (0, 0))) ∧ Aside0 (Below w.heap.size w w'))
   case atStart => exact ⟨(([] : List ByteArray)), (0), z1_, H', ⟨Nat.le_refl _⟩, ⟨z6_⟩, ⟨by (with_reducible repeat (first | apply Kd.R_alloc | apply Kd.R_drewN | apply Kd.R_drew)); exact HO106.out⟩, ⟨bk_ BK101.out⟩, ⟨hs_⟩⟩
   case round =>
    clear H'; try clear p2
    try clear c3
    try clear c3b0
    try clear c3b1
    try clear c9
    try clear c9b0
    try clear c9b1
    try clear Z11_0 Z11_1
    try clear Z6_0 Z6_1
    try clear Z8_0 Z8_1
    try clear F11_0 F11_1
    try clear F6_0 F6_1
    try clear F8_0 F8_1
    obtain ⟨x5_1, x34_1, rfl, HA, HK1, HO_5, HO_32, BK101, HB⟩ := hrel
    cases gk with
    | zero => exact absurd HA.out (by simp [commit_Links.l0])
    | succ k1 =>
     have H := HA.out; clear HA; simp only [commit_Links.l0] at H; by_cases c14 : x34_1 < (t103.length : Int); rotate_left
     ·rw [if_neg c14] at H; have c14b0 := decide_eq_false c14; clear c14; have H' := Aside0.mk H; clear H; go_wp2
      go_meet
      case rel => exact ⟨_, (x5_1), H', ⟨by have := HK1.out; first | omega | exact Nat.le_refl _⟩, ⟨z24_⟩, ⟨bk_ BK101.out⟩, ⟨hs_⟩⟩
     rw [if_pos c14] at H; have c14b0 := decide_eq_true c14; clear c14; by_cases c15 : 0 ≤ x34_1; rotate_left
     ·rw [if_neg c15] at H; exact absurd H (by simp)
     rw [if_pos c15] at H; have c15b0 := decide_eq_true c15; clear c15; by_cases c16 : x34_1 < (t103.length : Int); rotate_left
     ·rw [if_neg c16] at H; exact absurd H (by simp)
     rw [if_pos c16] at H; have c16b0 := decide_eq_true c16; clear c16; by_cases c17 : x5_1.length < 8796093022208; rotate_left
     ·rw [if_neg c17] at H; exact absurd H (by simp)
     rw [if_pos c17] at H; have LMc17 := Aside0.mk c17; clear c17; obtain ⟨y109, hy109⟩ : ∃ y_ : List ByteArray, y_ = (x5_1 ++ [(rd_T108 t103 x34_1).f2]) := ⟨_, rfl⟩; replace H : (commit_Links.l0 k1 y109 t103 (t103.length : Int) (wrap64 (x34_1 + 1))) = some (r1, r2) := by first | (rw [hy109]; with_reducible exact H) | (have H2_ := (Option.bind_some _ _).symm.trans H; rw [hy109]; with_reducible exact H2_) | (have H2_ := (Option.bind_some _ _).symm.trans H; with_reducible exact H2_) | with_reducible exact H | (rw [hy109]; exact H) | exact H
     have Ny109 := Aside0.mk hy109; clear hy109; have H' := Aside0.mk H; clear H; have p107 : 0 ≤ (x34_1 : Int) := of_decide_eq_true z0_; have q107 : x34_1 < (t103.length : Int) := of_decide_eq_true z0_; obtain ⟨ad107, e107, hx107_0, hx107_1, hx107_2⟩ := at_T108 (Kd.R_reads' HO_32.out).2.2 x34_1 p107 q107
     cases e107
     replace p107 := eq_true p107; replace q107 := eq_true q107; go_wp2_with (first | ((with_reducible refine gate_dst (N := 9) rfl ?_); refine be_ (cs := #[.int .i64 0, .string ⟨#[]⟩, .string ⟨#[]⟩]) (t := 108) ?_; intro gb108 hg w18 hbox hb; replace HO_5 := Aside0.mk (Kd.R_below (rk_ HO_5.out) hb); replace HO_32 := Aside0.mk (Kd.R_below (Kd.R_elderB (rk_ HO_32.out) gb108 (Nat.le_of_eq hg.symm)) hb); have BK108 := Aside0.mk (hbox); have GW108 := Aside0.mk ((by rw [hg]; exact (below_size (hs_)) : w.heap.size ≤ gb108)); have GE108 := Aside0.mk ((by rw [hg]; exact (below_size (hs_)) : w.heap.size ≤ gb108)); replace HB := Aside0.mk (below_step (hs_) hb); have NB101_108 := Aside0.mk (nl2_ hg BK101.out); have NB108_101 := Aside0.mk (ng2_ hg BK101.out); replace BK101 := ab_ BK101 hb; clear hb hbox hg; have hnb19 := NB108_101.out; have hnc19 := NB101_108.out; obtain ⟨Z20_0, Z20_1, Z20_2, F20_0, F20_1, F20_2⟩ := bc3 BK108.out) | ((with_reducible refine gate_builtin (b := .append) (xs := #[.tmp 38, .tmp 41]) rfl ?_); at_builtin; refine Kd.R_append Kd.string (w0 := w) w.heap.size rfl (.tmp 38) (.tmp 41) 22 9 (.string ⟨#[]⟩) 16 rfl Tryz.underlying22 info9 rfl (by decide) (by omega) u5 x5_1 ((rd_T108 t103 x34_1).f2) [.string ((rd_T108 t103 x34_1).f2)] (fun _ => True) (fun _ => False) rfl z31_ ?aP (fun _ hk => hk.elim) ?aF ?aO ?aB ?aS ?aL ?_; (case aP => exact rfl); (case aB => exact (hs_)); (case aF => exact (fun _ _ => trivial)); (case aO => exact (by (with_reducible repeat (first | apply Kd.R_alloc | apply Kd.R_drewN | apply Kd.R_drew)); exact Kd.R_mono (Kd.R_far (p := ⟨gb108, 2, none⟩) (Kd.R_far (p := ⟨gb108, 1, none⟩) (Kd.R_far (p := ⟨gb108, 0, none⟩) (Kd.R_types HO_5.out BK108.out (by decide)) (fun _ hk => hk.2) (.int .i64 ((rd_T108 t103 x34_1).f0))) (fun _ hk => hk.2) (.string ((rd_T108 t103 x34_1).f1))) (fun _ hk => hk.2) (.string ((rd_T108 t103 x34_1).f2))) (fun _ hk => trivial))); (case aS => exact (below_size (hs_))); (case aL => have := LMc17.out; omega); intro v110 w21 ho hb hg hat; rw [← Ny109.out] at ho; have n0_ := Aside0.mk (Kd.R_over' (by (with_reducible repeat (first | apply Kd.R_alloc | apply Kd.R_drewN | apply Kd.R_drew)); exact (Kd.R_mono (Kd.R_far (p := ⟨gb108, 2, none⟩) (Kd.R_far (p := ⟨gb108, 1, none⟩) (Kd.R_far (p := ⟨gb108, 0, none⟩) (Kd.R_mono HO_32.out (fun k_ hk => (⟨hk, hk.2⟩ : _ ∧ k_ ≠ gb108))) (fun _ hk => hk.2) (.int .i64 ((rd_T108 t103 x34_1).f0))) (fun _ hk => hk.2) (.string ((rd_T108 t103 x34_1).f1))) (fun _ hk => hk.2) (.string ((rd_T108 t103 x34_1).f2))) (fun _ h_ => h_.1))) (Kd.R_typed (by (with_reducible repeat (first | apply Kd.R_alloc | apply Kd.R_drewN | apply Kd.R_drew)); exact (Kd.R_mono (Kd.R_far (p := ⟨gb108, 2, none⟩) (Kd.R_far (p := ⟨gb108, 1, none⟩) (Kd.R_far (p := ⟨gb108, 0, none⟩) (Kd.R_types HO_5.out BK108.out (by decide)) (fun _ hk => hk.2) (.int .i64 ((rd_T108 t103 x34_1).f0))) (fun _ hk => hk.2) (.string ((rd_T108 t103 x34_1).f1))) (fun _ hk => hk.2) (.string ((rd_T108 t103 x34_1).f2))) (fun _ h_ => h_.1)))) (by decide) hg); have n1_ := Aside0.mk (blk_grown (g := gb101) (o := .cells #[.int .i64 a0_0, .string a0_1] 50 (0, 0)) (by have b_ := BK101; have f_ := NB101_108; exact zb_) hg (Kd.R_ne HO_5.out BK101.out (by decide))); have n2_ := Aside0.mk (blk_grown (g := gb108) (o := .cells #[.int .i64 ((rd_T108 t103 x34_1).f0), .string ((rd_T108 t103 x34_1).f1), .string ((rd_T108 t103 x34_1).f2)] 108 (0, 0)) (by have b_ := BK108; exact zb_) hg (Kd.R_ne HO_5.out BK108.out (by decide))); have n3_ := Aside0.mk (hb); have n4_ := Aside0.mk (ho); clear HO_32; clear BK101; clear BK108; clear HB; clear HO_5; have HO_32 := n0_; have BK101 := n1_; have BK108 := n2_; have HB := n3_; have HO111 := n4_; clear n0_ n1_ n2_ n3_ n4_; clear ho hb hg hat))
     go_roundg k1
     case measure => have := HK1.out; omega
     case rel => exact ⟨(y109), (wrap64 (x34_1 + 1)), z1_, H', ⟨by have := HK1.out; omega⟩, ⟨by (with_reducible repeat (first | apply Kd.R_alloc | apply Kd.R_drewN | apply Kd.R_drew)); exact HO111.out⟩, ⟨by (with_reducible repeat (first | apply Kd.R_alloc | apply Kd.R_drewN | apply Kd.R_drew)); exact Kd.R_mono HO_32.out (fun _ hk => trivial)⟩, ⟨bk_ BK101.out⟩, ⟨hs_⟩⟩
  rw [if_neg c9] at H; have c9b0 := beq_eq_false_iff_ne.mpr c9; have c9b1 := bne_iff_ne.mpr c9; (first | rw [c9b0] | (simp only [i64_w, i32_w]; rw [c9b0]) | skip); (try rw [c9b8])
  by_cases c22 : a0_0 = 3; rotate_left
  ·rw [if_neg c22] at H; have c22b0 := beq_eq_false_iff_ne.mpr c22; have c22b1 := bne_iff_ne.mpr c22; by_cases c35 : a0_0 = 4; rotate_left
   ·rw [if_neg c35] at H; have c35b0 := beq_eq_false_iff_ne.mpr c35; have c35b1 := bne_iff_ne.mpr c35; have H' := Aside0.mk H; clear H; go_wp2
    go_meet
    case rel => exact ⟨_, (([] : List ByteArray)), H', ⟨z4_⟩, ⟨z6_⟩, ⟨bk_ BK101.out⟩, ⟨hs_⟩⟩
   rw [if_pos c35] at H; have c35b0 := beq_iff_eq.mpr c35; have c35b1 := bne_eq_false_iff_eq.mpr c35; clear c35; replace H := Option.bind_eq_some_iff.mp H; obtain ⟨⟨t133, t134, t135, t136, t137, t138, t139, t140, t141⟩, A360, H⟩ := H; dsimp only at H; have A36 := Aside0.mk A360; clear A360; obtain ⟨y143, hy143⟩ : ∃ y_ : List ByteArray, y_ = (([t133] : List ByteArray)) := ⟨_, rfl⟩; replace H : (commit_Links.j1 k y143) = some (r1, r2) := by first | (rw [hy143]; with_reducible exact H) | (have H2_ := (Option.bind_some _ _).symm.trans H; rw [hy143]; with_reducible exact H2_) | (have H2_ := (Option.bind_some _ _).symm.trans H; with_reducible exact H2_) | with_reducible exact H | (rw [hy143]; exact H) | exact H
   have Ny143 := Aside0.mk hy143; clear hy143; have H' := Aside0.mk H; clear H; obtain ⟨Z37_0, Z37_1, F37_0, F37_1⟩ := bc2 BK101.out; go_wp2_with (first | ((with_reducible refine gate_callee (f := 23) rfl ?_); refine gl_ (some 63) Tryz.func23 #[.string a0_1] ?_; (with_reducible refine (commit_ParseTag.calls k a0_1 t133 t134 t135 t136 t137 t138 t139 t140 t141 _ ?side1 A36.out).mono ?_); (case side1 => exact GV.below hgv (hs_)); rintro e w38 ⟨rfl, hb⟩; refine ⟨_, rfl, ?_⟩; replace BK101 := ab_ BK101 hb; replace HB := Aside0.mk (below_step (hs_) hb); (try clear hb); (try clear hb2); (try clear hk); (try clear hi)) | ((with_reducible refine gate_dst (N := 12) rfl ?_); refine be_ (cs := #[.string ⟨#[]⟩, .int .i64 0, .string ⟨#[]⟩, .string ⟨#[]⟩, .string ⟨#[]⟩, .int .i64 0, .int .i64 0, .string ⟨#[]⟩]) (t := 37) ?_; intro gb142 hg w39 hbox hb; have BK142 := Aside0.mk (hbox); have GW142 := Aside0.mk ((by rw [hg]; exact (below_size (hs_)) : w.heap.size ≤ gb142)); have GE142 := Aside0.mk ((by rw [hg]; exact (below_size (hs_)) : w.heap.size ≤ gb142)); replace HB := Aside0.mk (below_step (hs_) hb); have NB101_142 := Aside0.mk (nl2_ hg BK101.out); have NB142_101 := Aside0.mk (ng2_ hg BK101.out); replace BK101 := ab_ BK101 hb; clear hb hbox hg; have hnb40 := NB142_101.out; have hnc40 := NB101_142.out; obtain ⟨Z41_0, Z41_1, Z41_2, Z41_3, Z41_4, Z41_5, Z41_6, Z41_7, F41_0, F41_1, F41_2, F41_3, F41_4, F41_5, F41_6, F41_7⟩ := bc8 BK142.out) | ((with_reducible refine gate_dst (N := 68) rfl ?_); refine Kd.R_lit Kd.string _ 9 ?hg (N := 68) ?hd (xs := ([t133] : List ByteArray)) (inner := [.string t133]) (ok := fun _ => True) (okp := fun _ => True) ?hr ?hp (fun _ hk => hk) trivial (Below.refl _ _) (Nat.le_refl _) (by simp) ?_; (case hd => rfl); (case hg => rfl); (case hr => first | (go_simp; done) | (go_simp; rfl)); (case hp => exact (Reps.one (show Kd.M Kd.string _ _ _ t133 [.string t133] from rfl) (Reps.none _ _))); intro v144 w42 ho43 hb hg_ hnew_; clear hg_ hnew_; (first | rw [← Ny143.out] at ho43 | (simp only [Int.reduceToNat] at ho43; rw [← Ny143.out] at ho43)); have HO145 := Aside0.mk (Kd.R_lower ho43 (below_size (hs_))); replace BK101 := Aside0.mk (blk_below (g := gb101) (o := .cells #[.int .i64 a0_0, .string a0_1] 50 (0, 0)) (by have b_ := BK101; have f_ := NB101_142; exact zb_) hb); replace BK142 := Aside0.mk (blk_below (g := gb142) (o := .cells #[.string t133, .int .i64 t134, .string t135, .string t136, .string t137, .int .i64 t138, .int .i64 t139, .string t140] 37 (0, 0)) (by have b_ := BK142; exact zb_) hb); replace HB := Aside0.mk (below_step (hs_) hb); clear hb ho43)); go_meet
   case rel => exact ⟨_, (y143), H', ⟨z4_⟩, ⟨by (with_reducible repeat (first | apply Kd.R_alloc | apply Kd.R_drewN | apply Kd.R_drew)); exact HO145.out⟩, ⟨bk_ BK101.out⟩, ⟨hs_⟩⟩
  rw [if_pos c22] at H; have c22b0 := beq_iff_eq.mpr c22; have c22b1 := bne_eq_false_iff_eq.mpr c22; clear c22; replace H := Option.bind_eq_some_iff.mp H; obtain ⟨⟨t112, t113, t116, t117, t118, t119, t120, t121, t122, t123, t124, t125⟩, A230, H⟩ := H; dsimp only at H; have A23 := Aside0.mk A230; clear A230; obtain ⟨y127, hy127⟩ : ∃ y_ : List ByteArray, y_ = (([t112] : List ByteArray)) := ⟨_, rfl⟩; replace H : (if y127.length + t113.length < 8796093022208 then (commit_Links.j1 k (y127 ++ t113)) else (none)) = some (r1, r2) := by first | (rw [hy127]; with_reducible exact H) | (have H2_ := (Option.bind_some _ _).symm.trans H; rw [hy127]; with_reducible exact H2_) | (have H2_ := (Option.bind_some _ _).symm.trans H; with_reducible exact H2_) | with_reducible exact H | (rw [hy127]; exact H) | exact H
  have Ny127 := Aside0.mk hy127; clear hy127; by_cases c24 : y127.length + t113.length < 8796093022208; rotate_left
  ·rw [if_neg c24] at H; exact absurd H (by simp)
  rw [if_pos c24] at H; have LMc24 := Aside0.mk c24; clear c24; obtain ⟨y130, hy130⟩ : ∃ y_ : List ByteArray, y_ = (y127 ++ t113) := ⟨_, rfl⟩; replace H : (commit_Links.j1 k y130) = some (r1, r2) := by first | (rw [hy130]; with_reducible exact H) | (have H2_ := (Option.bind_some _ _).symm.trans H; rw [hy130]; with_reducible exact H2_) | (have H2_ := (Option.bind_some _ _).symm.trans H; with_reducible exact H2_) | with_reducible exact H | (rw [hy130]; exact H) | exact H
  have Ny130 := Aside0.mk hy130; clear hy130; have H' := Aside0.mk H; clear H; obtain ⟨Z25_0, Z25_1, F25_0, F25_1⟩ := bc2 BK101.out; go_wp2_with (first | ((with_reducible refine gate_callee (f := 20) rfl ?_); refine gl_ (some 49) Tryz.func20 #[.string a0_1] ?_; (with_reducible refine (commit_Parse.calls k a0_1 t112 t113 t116 t117 t118 t119 t120 t121 t122 t123 t124 t125 _ ?side1 A23.out).mono ?_); (case side1 => exact GV.below hgv (hs_)); rintro e w26 ⟨v114, rfl, ho0, hb⟩; refine ⟨_, rfl, ?_⟩; have HO115 := Aside0.mk (Kd.R_lower ho0 (below_size (hs_))); replace BK101 := ab_ BK101 hb; replace HB := Aside0.mk (below_step (hs_) hb); (try clear hb); (try clear hb2); (try clear hk); (try clear hi); (try clear ho0)) | ((with_reducible refine gate_dst (N := 10) rfl ?_); refine be_ (cs := #[.string ⟨#[]⟩, .slice none 0 0, .string ⟨#[]⟩, .string ⟨#[]⟩, .int .i64 0, .int .i64 0, .string ⟨#[]⟩, .string ⟨#[]⟩, .int .i64 0, .int .i64 0, .string ⟨#[]⟩]) (t := 26) ?_; intro gb126 hg w27 hbox hb; replace HO115 := Aside0.mk (Kd.R_below (rk_ HO115.out) hb); have BK126 := Aside0.mk (hbox); have GW126 := Aside0.mk ((by rw [hg]; exact (below_size (hs_)) : w.heap.size ≤ gb126)); have GE126 := Aside0.mk ((by rw [hg]; exact (below_size (hs_)) : w.heap.size ≤ gb126)); replace HB := Aside0.mk (below_step (hs_) hb); have NB101_126 := Aside0.mk (nl2_ hg BK101.out); have NB126_101 := Aside0.mk (ng2_ hg BK101.out); replace BK101 := ab_ BK101 hb; clear hb hbox hg; have hnb28 := NB126_101.out; have hnc28 := NB101_126.out; obtain ⟨Z29_0, Z29_1, Z29_2, Z29_3, Z29_4, Z29_5, Z29_6, Z29_7, Z29_8, Z29_9, Z29_10, F29_0, F29_1, F29_2, F29_3, F29_4, F29_5, F29_6, F29_7, F29_8, F29_9, F29_10⟩ := bc11 BK126.out; obtain ⟨Ao30, co30, eo30⟩ := Kd.R_slice HO115.out; subst eo30) | ((with_reducible refine gate_dst (N := 54) rfl ?_); refine Kd.R_lit Kd.string _ 9 ?hg (N := 54) ?hd (xs := ([t112] : List ByteArray)) (inner := [.string t112]) (ok := fun _ => True) (okp := fun _ => True) ?hr ?hp (fun _ hk => hk) trivial (Below.refl _ _) (Nat.le_refl _) (by simp) ?_; (case hd => rfl); (case hg => rfl); (case hr => first | (go_simp; done) | (go_simp; rfl)); (case hp => exact (Reps.one (show Kd.M Kd.string _ _ _ t112 [.string t112] from rfl) (Reps.none _ _))); intro v128 w31 ho32 hb hg_ hnew_; clear hg_ hnew_; (first | rw [← Ny127.out] at ho32 | (simp only [Int.reduceToNat] at ho32; rw [← Ny127.out] at ho32)); have HO129 := Aside0.mk (Kd.R_lower (Kd.R_new' ho32 (Kd.R_lt (by (with_reducible repeat (first | apply Kd.R_alloc | apply Kd.R_drewN | apply Kd.R_drew)); exact (Kd.R_mono (Kd.R_far (p := ⟨gb126, 10, none⟩) (Kd.R_far (p := ⟨gb126, 9, none⟩) (Kd.R_far (p := ⟨gb126, 8, none⟩) (Kd.R_far (p := ⟨gb126, 7, none⟩) (Kd.R_far (p := ⟨gb126, 6, none⟩) (Kd.R_far (p := ⟨gb126, 5, none⟩) (Kd.R_far (p := ⟨gb126, 4, none⟩) (Kd.R_far (p := ⟨gb126, 3, none⟩) (Kd.R_far (p := ⟨gb126, 2, none⟩) (Kd.R_far (p := ⟨gb126, 1, none⟩) (Kd.R_far (p := ⟨gb126, 0, none⟩) (Kd.R_types HO115.out BK126.out (by decide)) (fun _ hk => hk.2) (.string t112)) (fun _ hk => hk.2) (.slice Ao30 t113.length co30)) (fun _ hk => hk.2) (.string t116)) (fun _ hk => hk.2) (.string t117)) (fun _ hk => hk.2) (.int .i64 t118)) (fun _ hk => hk.2) (.int .i64 t119)) (fun _ hk => hk.2) (.string t120)) (fun _ hk => hk.2) (.string t121)) (fun _ hk => hk.2) (.int .i64 t122)) (fun _ hk => hk.2) (.int .i64 t123)) (fun _ hk => hk.2) (.string t124)) (fun _ h_ => h_.1))))) (below_size (hs_))); replace HO115 := Aside0.mk (Kd.R_elder' (by (with_reducible repeat (first | apply Kd.R_alloc | apply Kd.R_drewN | apply Kd.R_drew)); exact (Kd.R_mono (Kd.R_far (p := ⟨gb126, 10, none⟩) (Kd.R_far (p := ⟨gb126, 9, none⟩) (Kd.R_far (p := ⟨gb126, 8, none⟩) (Kd.R_far (p := ⟨gb126, 7, none⟩) (Kd.R_far (p := ⟨gb126, 6, none⟩) (Kd.R_far (p := ⟨gb126, 5, none⟩) (Kd.R_far (p := ⟨gb126, 4, none⟩) (Kd.R_far (p := ⟨gb126, 3, none⟩) (Kd.R_far (p := ⟨gb126, 2, none⟩) (Kd.R_far (p := ⟨gb126, 1, none⟩) (Kd.R_far (p := ⟨gb126, 0, none⟩) (Kd.R_types HO115.out BK126.out (by decide)) (fun _ hk => hk.2) (.string t112)) (fun _ hk => hk.2) (.slice Ao30 t113.length co30)) (fun _ hk => hk.2) (.string t116)) (fun _ hk => hk.2) (.string t117)) (fun _ hk => hk.2) (.int .i64 t118)) (fun _ hk => hk.2) (.int .i64 t119)) (fun _ hk => hk.2) (.string t120)) (fun _ hk => hk.2) (.string t121)) (fun _ hk => hk.2) (.int .i64 t122)) (fun _ hk => hk.2) (.int .i64 t123)) (fun _ hk => hk.2) (.string t124)) (fun _ h_ => h_.1))) (Kd.R_base ho32) hb); replace BK101 := Aside0.mk (blk_below (g := gb101) (o := .cells #[.int .i64 a0_0, .string a0_1] 50 (0, 0)) (by have b_ := BK101; have f_ := NB101_126; exact zb_) hb); replace BK126 := Aside0.mk (blk_below (g := gb126) (o := .cells #[.string t112, .slice Ao30 t113.length co30, .string t116, .string t117, .int .i64 t118, .int .i64 t119, .string t120, .string t121, .int .i64 t122, .int .i64 t123, .string t124] 26 (0, 0)) (by have b_ := BK126; exact zb_) hb); replace HB := Aside0.mk (below_step (hs_) hb); clear hb ho32; obtain ⟨Z33_0, Z33_1, Z33_2, Z33_3, Z33_4, Z33_5, Z33_6, Z33_7, Z33_8, Z33_9, Z33_10, F33_0, F33_1, F33_2, F33_3, F33_4, F33_5, F33_6, F33_7, F33_8, F33_9, F33_10⟩ := bc11 BK126.out) | ((with_reducible refine gate_builtin (b := .append) (xs := #[.tmp 54, .tmp 56]) rfl ?_); at_builtin; refine Kd.R_append_rows Kd.string (w0 := w) w.heap.size rfl (.tmp 54) (.tmp 56) 22 9 (.string ⟨#[]⟩) 16 rfl Tryz.underlying22 info9 rfl (by decide) (by omega) v128 y127 t113 _ _ _ (fun k_ => some k_ ≠ (.slice Ao30 t113.length co30 : Value).ownBlock) (fun _ => False) rfl rfl ?aO ?aR (fun _ _ h => h) (fun _ h => h.elim) ?aF ?aB ?aS ?aL ?_; (case aR => repeat (first | exact (Kd.R_reads' HO115.out).2.2 | (with_reducible refine Kd.C_alloc ?_ _) | (with_reducible refine Kd.C_drewN ?_ _) | (with_reducible refine Kd.C_drew ?_))); (case aB => exact (hs_)); (case aF => exact (fun k_ hk => Kd.fresh' (Kd.R_lt (rk_ HO115.out)) k_ hk)); (case aO => exact (by (with_reducible repeat (first | apply Kd.R_alloc | apply Kd.R_drewN | apply Kd.R_drew)); exact Kd.R_mono HO129.out (fun _ hk => hk.2))); (case aS => exact (below_size (hs_))); (case aL => have := LMc24.out; omega); intro v131 w34 ho hb hg hat; rw [← Ny130.out] at ho; have n0_ := Aside0.mk (blk_grown (g := gb101) (o := .cells #[.int .i64 a0_0, .string a0_1] 50 (0, 0)) (bk_ BK101.out) hg (Kd.R_ne HO129.out BK101.out (by decide))); have n1_ := Aside0.mk (Kd.R_after (ok := (fun _ => True)) (rk_ HO115.out) hg hat); have n2_ := Aside0.mk (blk_grown (g := gb126) (o := .cells #[.string t112, .slice Ao30 t113.length co30, .string t116, .string t117, .int .i64 t118, .int .i64 t119, .string t120, .string t121, .int .i64 t122, .int .i64 t123, .string t124] 26 (0, 0)) (bk_ BK126.out) hg (Kd.R_ne HO129.out BK126.out (by decide))); have n3_ := Aside0.mk (hb); have n4_ := Aside0.mk (ho); clear BK101; clear HO115; clear BK126; clear HB; clear HO129; have BK101 := n0_; have HO115 := n1_; have BK126 := n2_; have HB := n3_; have HO132 := n4_; clear n0_ n1_ n2_ n3_ n4_; clear ho hb hg hat))
  go_meet
  case rel => exact ⟨_, (y130), H', ⟨z4_⟩, ⟨by (with_reducible repeat (first | apply Kd.R_alloc | apply Kd.R_drewN | apply Kd.R_drew)); exact Kd.R_mono HO132.out (fun _ hk => trivial)⟩, ⟨bk_ BK101.out⟩, ⟨hs_⟩⟩
 case rest =>
  clear HC4; try clear c1
  try clear p1
  try clear q1
  try clear hx1
  try clear c2
  try clear p2
  try clear c3
  try clear c3b0
  try clear c3b1
  try clear c4
  try clear p6
  try clear c9
  try clear c9b0
  try clear c9b1
  try clear p10
  try clear q10
  try clear hx10
  try clear c14
  try clear c14b0
  try clear c15
  try clear c15b0
  try clear c16
  try clear c16b0
  try clear c17
  try clear c19
  try clear c20
  try clear c22
  try clear c22b0
  try clear c22b1
  try clear c23
  try clear c24
  try clear c28
  try clear c34
  try clear c35
  try clear c35b0
  try clear c35b1
  try clear c36
  try clear c40
  try clear Z11_0 Z11_1
  try clear Z20_0 Z20_1 Z20_2
  try clear Z25_0 Z25_1
  try clear Z29_0 Z29_1 Z29_10 Z29_2 Z29_3 Z29_4 Z29_5 Z29_6 Z29_7 Z29_8 Z29_9
  try clear Z33_0 Z33_1 Z33_10 Z33_2 Z33_3 Z33_4 Z33_5 Z33_6 Z33_7 Z33_8 Z33_9
  try clear Z37_0 Z37_1
  try clear Z41_0 Z41_1 Z41_2 Z41_3 Z41_4 Z41_5 Z41_6 Z41_7
  try clear Z6_0 Z6_1
  try clear Z8_0 Z8_1
  try clear F11_0 F11_1
  try clear F20_0 F20_1 F20_2
  try clear F25_0 F25_1
  try clear F29_0 F29_1 F29_10 F29_2 F29_3 F29_4 F29_5 F29_6 F29_7 F29_8 F29_9
  try clear F33_0 F33_1 F33_10 F33_2 F33_3 F33_4 F33_5 F33_6 F33_7 F33_8 F33_9
  try clear F37_0 F37_1
  try clear F41_0 F41_1 F41_2 F41_3 F41_4 F41_5 F41_6 F41_7
  try clear F6_0 F6_1
  try clear F8_0 F8_1
  try clear hx107_0
  try clear hx107_1
  try clear hx107_2
  try clear p107
  try clear p2
  try clear q107
  obtain ⟨kq, x5_3, HA, HJ3, HO_5, BK101, HB⟩ := hcut
  cases kq with
  | zero => exact absurd HA.out (by simp [commit_Links.j1])
  | succ kj3 =>
   have H := HA.out; clear HA; simp only [commit_Links.j1] at H; have H' := Aside0.mk H; clear H; obtain ⟨Ao44, co44, eo44⟩ := Kd.R_slice HO_5.out; subst eo44; go_wp2
   go_loopg [14, 71] kj3 (fun kq v14 v71 w' => ∃ (x14_2 : List ByteArray) (x71_2 : Int), v71 = .int .i64 x71_2 ∧ Aside0 (commit_Links.l1 kq x14_2 x5_3 (x5_3.length : Int) x71_2 = some (r1, r2)) ∧ Aside0 (kq ≤ kj3) ∧ Aside0 (Kd.R Kd.string 9 w' w.heap.size (fun k_ => some k_ ≠ ((.slice Ao44 x5_3.length co44) : Value).ownBlock) v14 x14_2) ∧ Aside0 (Kd.R Kd.string 9 w' w.heap.size (fun k_ => some k_ ≠ (v14 : Value).ownBlock) (.slice Ao44 x5_3.length co44) x5_3) ∧ Aside0 (w'.heap[gb101]? = some (.cells #[.int .i64 a0_0, .string a0_1] 50 (0, 0))) ∧ Aside0 (Below w.heap.size w w'))
   case atStart => exact ⟨(([] : List ByteArray)), (0), z1_, H', ⟨Nat.le_refl _⟩, ⟨z6_⟩, ⟨by (with_reducible repeat (first | apply Kd.R_alloc | apply Kd.R_drewN | apply Kd.R_drew)); exact Kd.R_mono HO_5.out (fun _ hk => (by simp [Value.ownBlock]))⟩, ⟨bk_ BK101.out⟩, ⟨hs_⟩⟩
   case round =>
    clear H'; try clear c1
    try clear p1
    try clear q1
    try clear hx1
    try clear c2
    try clear p2
    try clear c3
    try clear c3b0
    try clear c3b1
    try clear c4
    try clear p6
    try clear c9
    try clear c9b0
    try clear c9b1
    try clear p10
    try clear q10
    try clear hx10
    try clear c14
    try clear c14b0
    try clear c15
    try clear c15b0
    try clear c16
    try clear c16b0
    try clear c17
    try clear c19
    try clear c20
    try clear c22
    try clear c22b0
    try clear c22b1
    try clear c23
    try clear c24
    try clear c28
    try clear c34
    try clear c35
    try clear c35b0
    try clear c35b1
    try clear c36
    try clear c40
    try clear Z11_0 Z11_1
    try clear Z20_0 Z20_1 Z20_2
    try clear Z25_0 Z25_1
    try clear Z29_0 Z29_1 Z29_10 Z29_2 Z29_3 Z29_4 Z29_5 Z29_6 Z29_7 Z29_8 Z29_9
    try clear Z33_0 Z33_1 Z33_10 Z33_2 Z33_3 Z33_4 Z33_5 Z33_6 Z33_7 Z33_8 Z33_9
    try clear Z37_0 Z37_1
    try clear Z41_0 Z41_1 Z41_2 Z41_3 Z41_4 Z41_5 Z41_6 Z41_7
    try clear Z6_0 Z6_1
    try clear Z8_0 Z8_1
    try clear F11_0 F11_1
    try clear F20_0 F20_1 F20_2
    try clear F25_0 F25_1
    try clear F29_0 F29_1 F29_10 F29_2 F29_3 F29_4 F29_5 F29_6 F29_7 F29_8 F29_9
    try clear F33_0 F33_1 F33_10 F33_2 F33_3 F33_4 F33_5 F33_6 F33_7 F33_8 F33_9
    try clear F37_0 F37_1
    try clear F41_0 F41_1 F41_2 F41_3 F41_4 F41_5 F41_6 F41_7
    try clear F6_0 F6_1
    try clear F8_0 F8_1
    try clear hx107_0
    try clear hx107_1
    try clear hx107_2
    try clear p1
    try clear p10
    try clear p107
    try clear p2
    try clear p6
    try clear q1
    try clear q10
    try clear q107
    obtain ⟨x14_2, x71_2, rfl, HA, HK2, HO_14, HO_69, BK101, HB⟩ := hrel
    cases gk with
    | zero => exact absurd HA.out (by simp [commit_Links.l1])
    | succ k2 =>
     have H := HA.out; clear HA; simp only [commit_Links.l1] at H; by_cases c45 : x71_2 < (x5_3.length : Int); rotate_left
     ·rw [if_neg c45] at H; have c45b0 := decide_eq_false c45; clear c45; simp only [Option.some.injEq, Prod.mk.injEq] at H; obtain ⟨rfl, rfl⟩ := H; go_wp2
      go_ret2
      exact ⟨_, z3_, by (with_reducible repeat (first | apply Kd.R_alloc | apply Kd.R_drewN | apply Kd.R_drew)); exact Kd.R_mono HO_14.out (fun _ hk => trivial), hs_⟩
     rw [if_pos c45] at H; have c45b0 := decide_eq_true c45; clear c45; by_cases c46 : 0 ≤ x71_2; rotate_left
     ·rw [if_neg c46] at H; exact absurd H (by simp)
     rw [if_pos c46] at H; have c46b0 := decide_eq_true c46; clear c46; by_cases c47 : x71_2 < (x5_3.length : Int); rotate_left
     ·rw [if_neg c47] at H; exact absurd H (by simp)
     rw [if_pos c47] at H; have c47b0 := decide_eq_true c47; clear c47; replace H := Option.bind_eq_some_iff.mp H; obtain ⟨t147, A480, H⟩ := H; have A48 := Aside0.mk A480; clear A480; by_cases c49 : t147 = true
     ·subst c49; rw [if_pos rfl] at H; have H' := Aside0.mk H; clear H; have p146 : 0 ≤ (x71_2 : Int) := of_decide_eq_true z0_; have q146 : x71_2 < (x5_3.length : Int) := of_decide_eq_true z0_; obtain ⟨ad146, e146, hx146_0⟩ := Kd.at_string (Kd.R_reads' HO_69.out).2.2 x71_2 p146 q146
      cases e146
      replace p146 := eq_true p146; replace q146 := eq_true q146; obtain ⟨Ao50, co50, eo50⟩ := Kd.R_slice HO_14.out; subst eo50; go_wp2_with (first | ((with_reducible refine gate_callee (f := 95) rfl ?_); refine gl_ (some 77) Tryz.func95 #[.slice Ao50 x14_2.length co50, .string (rdOf ByteArray.empty x5_3 x71_2)] ?_; (with_reducible refine (slices_Contains_string_string.calls k2 _ _ x14_2 (rdOf ByteArray.empty x5_3 x71_2) true _ ?side1 ?side2 A48.out).mono ?_); (case side1 => repeat (first | exact (Kd.R_reads' HO_14.out).2.2 | (with_reducible refine Kd.C_alloc ?_ _) | (with_reducible refine Kd.C_drewN ?_ _) | (with_reducible refine Kd.C_drew ?_))); (case side2 => exact (Kd.R_reads' HO_14.out).2.1); rintro e w' ⟨rfl, ⟨nd, rfl⟩⟩; refine ⟨_, rfl, ?_⟩)); go_roundg k2
      case measure => have := HJ3.out; have := HK2.out; omega
      case rel => exact ⟨(x14_2), (wrap64 (x71_2 + 1)), z1_, H', ⟨by have := HJ3.out; have := HK2.out; omega⟩, ⟨by (with_reducible repeat (first | apply Kd.R_alloc | apply Kd.R_drewN | apply Kd.R_drew)); exact HO_14.out⟩, ⟨by (with_reducible repeat (first | apply Kd.R_alloc | apply Kd.R_drewN | apply Kd.R_drew)); exact HO_69.out⟩, ⟨bk_ BK101.out⟩, ⟨hs_⟩⟩
     replace c49 := Bool.eq_false_iff.mpr c49; subst c49; rw [if_neg nft_] at H; by_cases c51 : x14_2.length < 8796093022208; rotate_left
     ·rw [if_neg c51] at H; exact absurd H (by simp)
     rw [if_pos c51] at H; have LMc51 := Aside0.mk c51; clear c51; obtain ⟨y148, hy148⟩ : ∃ y_ : List ByteArray, y_ = (x14_2 ++ [rdOf ByteArray.empty x5_3 x71_2]) := ⟨_, rfl⟩; replace H : (commit_Links.l1 k2 y148 x5_3 (x5_3.length : Int) (wrap64 (x71_2 + 1))) = some (r1, r2) := by first | (rw [hy148]; with_reducible exact H) | (have H2_ := (Option.bind_some _ _).symm.trans H; rw [hy148]; with_reducible exact H2_) | (have H2_ := (Option.bind_some _ _).symm.trans H; with_reducible exact H2_) | with_reducible exact H | (rw [hy148]; exact H) | exact H
     have Ny148 := Aside0.mk hy148; clear hy148; have H' := Aside0.mk H; clear H; have p146 : 0 ≤ (x71_2 : Int) := of_decide_eq_true z0_; have q146 : x71_2 < (x5_3.length : Int) := of_decide_eq_true z0_; obtain ⟨ad146, e146, hx146_0⟩ := Kd.at_string (Kd.R_reads' HO_69.out).2.2 x71_2 p146 q146
     cases e146
     replace p146 := eq_true p146; replace q146 := eq_true q146; obtain ⟨Ao52, co52, eo52⟩ := Kd.R_slice HO_14.out; subst eo52; go_wp2_with (first | ((with_reducible refine gate_callee (f := 95) rfl ?_); refine gl_ (some 77) Tryz.func95 #[.slice Ao52 x14_2.length co52, .string (rdOf ByteArray.empty x5_3 x71_2)] ?_; (with_reducible refine (slices_Contains_string_string.calls k2 _ _ x14_2 (rdOf ByteArray.empty x5_3 x71_2) false _ ?side1 ?side2 A48.out).mono ?_); (case side1 => repeat (first | exact (Kd.R_reads' HO_14.out).2.2 | (with_reducible refine Kd.C_alloc ?_ _) | (with_reducible refine Kd.C_drewN ?_ _) | (with_reducible refine Kd.C_drew ?_))); (case side2 => exact (Kd.R_reads' HO_14.out).2.1); rintro e w' ⟨rfl, ⟨nd, rfl⟩⟩; refine ⟨_, rfl, ?_⟩) | ((with_reducible refine gate_builtin (b := .append) (xs := #[.tmp 79, .tmp 81]) rfl ?_); at_builtin; refine Kd.R_append Kd.string (w0 := w) w.heap.size rfl (.tmp 79) (.tmp 81) 22 9 (.string ⟨#[]⟩) 16 rfl Tryz.underlying22 info9 rfl (by decide) (by omega) (.slice Ao52 x14_2.length co52) x14_2 (rdOf ByteArray.empty x5_3 x71_2) [.string (rdOf ByteArray.empty x5_3 x71_2)] (fun k_ => some k_ ≠ (.slice (some ad146) x5_3.length co44 : Value).ownBlock) (fun _ => False) rfl rfl ?aP (fun _ hk => hk.elim) ?aF ?aO ?aB ?aS ?aL ?_; (case aP => exact rfl); (case aB => exact (hs_)); (case aF => exact (fun k_ hk => Kd.fresh' (Kd.R_lt (rk_ HO_69.out)) k_ hk)); (case aO => exact (rk_ HO_14.out)); (case aS => exact (below_size (hs_))); (case aL => have := LMc51.out; omega); intro v149 w53 ho hb hg hat; rw [← Ny148.out] at ho; have n0_ := Aside0.mk (Kd.R_after (ok := (fun _ => True)) (by (with_reducible repeat (first | apply Kd.R_alloc | apply Kd.R_drewN | apply Kd.R_drew)); exact Kd.R_mono HO_69.out (fun _ hk => ⟨trivial, hk⟩)) hg hat); have n1_ := Aside0.mk (blk_grown (g := gb101) (o := .cells #[.int .i64 a0_0, .string a0_1] 50 (0, 0)) (bk_ BK101.out) hg (Kd.R_ne HO_14.out BK101.out (by decide))); have n2_ := Aside0.mk (hb); have n3_ := Aside0.mk (ho); clear HO_69; clear BK101; clear HB; clear HO_14; have HO_69 := n0_; have BK101 := n1_; have HB := n2_; have HO150 := n3_; clear n0_ n1_ n2_ n3_; clear ho hb hg hat)); go_roundg k2
     case measure => have := HJ3.out; have := HK2.out; omega
     case rel => exact ⟨(y148), (wrap64 (x71_2 + 1)), z1_, H', ⟨by have := HJ3.out; have := HK2.out; omega⟩, ⟨by (with_reducible repeat (first | apply Kd.R_alloc | apply Kd.R_drewN | apply Kd.R_drew)); exact HO150.out⟩, ⟨by (with_reducible repeat (first | apply Kd.R_alloc | apply Kd.R_drewN | apply Kd.R_drew)); exact Kd.R_mono HO_69.out (fun _ hk => hk.2)⟩, ⟨bk_ BK101.out⟩, ⟨hs_⟩⟩


def graftagelaw16_lives.f (k : Nat)  : Option (Bool) := (commit_ParseWho.f k ⟨#[97, 32, 60, 97, 64, 98, 62, 32, 53, 32, 45, 48, 49, 51, 48]⟩).bind fun bt101 => ((commit_ParseWho.f k ⟨#[97, 32, 60, 98, 62, 32, 48, 53, 32, 43, 48, 48, 48, 48]⟩).bind fun bt107 => ((graftagelaw16_who.f).bind fun bt113 => ((graftagelaw16_who.f).bind fun bt117 => ((commit_Body.f k ⟨#[48, 49, 50, 51, 52, 53, 54, 55, 56, 57, 97, 98, 99, 100, 101, 102, 48, 49, 50, 51, 52, 53, 54, 55, 56, 57, 97, 98, 99, 100, 101, 102, 48, 49, 50, 51, 52, 53, 54, 55]⟩ ([] : List ByteArray) bt113.1 bt113.2.1 bt113.2.2.1 bt113.2.2.2 bt117.1 bt117.2.1 bt117.2.2.1 bt117.2.2.2 ⟨#[120, 10]⟩).bind fun bt121 => ((commit_Links.f k 3 bt121.1).bind fun bt123 => ((graftagelaw16_who.f).bind fun bt127 => ((commit_TagBody.f k ⟨#[48, 49, 50, 51, 52, 53, 54, 55, 56, 57, 97, 98, 99, 100, 101, 102, 48, 49, 50, 51, 52, 53, 54, 55, 56, 57, 97, 98, 99, 100, 101, 102, 48, 49, 50, 51, 52, 53, 54, 55]⟩ 5 ⟨#[118]⟩ bt127.1 bt127.2.1 bt127.2.2.1 bt127.2.2.2 ⟨#[]⟩).bind fun bt131 => ((graftagelaw16_who.f).bind fun bt133 => ((commit_Who.f bt133.1 bt133.2.1 bt133.2.2.1 bt133.2.2.2).bind fun t137 => (if t137.toList = ([97, 32, 60, 97, 64, 98, 62, 32, 53, 32, 43, 48, 49, 48, 48] : List UInt8) then (if bt101.2.2.2.1 = (-90) then (if bt101.2.2.2.2 = 0 then (if bt107.2.2.2.2 = 2 then (if bt121.1.toList = ([116, 114, 101, 101, 32, 48, 49, 50, 51, 52, 53, 54, 55, 56, 57, 97, 98, 99, 100, 101, 102, 48, 49, 50, 51, 52, 53, 54, 55, 56, 57, 97, 98, 99, 100, 101, 102, 48, 49, 50, 51, 52, 53, 54, 55, 10, 97, 117, 116, 104, 111, 114, 32, 97, 32, 60, 97, 64, 98, 62, 32, 53, 32, 43, 48, 49, 48, 48, 10, 99, 111, 109, 109, 105, 116, 116, 101, 114, 32, 97, 32, 60, 97, 64, 98, 62, 32, 53, 32, 43, 48, 49, 48, 48, 10, 10, 120, 10] : List UInt8) then (if bt121.2 = 0 then (if (bt123.1.length : Int) = 1 then (if 0 < (bt123.1.length : Int) then (if (rdOf ByteArray.empty bt123.1 0).toList = ([48, 49, 50, 51, 52, 53, 54, 55, 56, 57, 97, 98, 99, 100, 101, 102, 48, 49, 50, 51, 52, 53, 54, 55, 56, 57, 97, 98, 99, 100, 101, 102, 48, 49, 50, 51, 52, 53, 54, 55] : List UInt8) then (if bt123.2 = 0 then (if bt131.2 = 1 then ((commit_Whole.f k 3 ⟨#[120]⟩).bind fun t139 => (some (t139 == 2))) else (some false)) else (some false)) else (some false)) else (none)) else (some false)) else (some false)) else (some false)) else (some false)) else (some false)) else (some false)) else (some false)))))))))))
theorem graftagelaw16_lives.mono : ∀ k, LeO (graftagelaw16_lives.f k ) (graftagelaw16_lives.f (k + 1) ) := by
 intro  k; unfold graftagelaw16_lives.f; have m0_ := @commit_Body.mono; have m1_ := @commit_Links.mono; have m2_ := @commit_ParseWho.mono; have m3_ := @commit_TagBody.mono; have m4_ := @commit_Whole.mono; exact mz_
set_option maxHeartbeats 8000000 in
set_option maxRecDepth 100000 in
theorem graftagelaw16_lives.callsT (k : Nat)  (r : Bool) (w : World) (hgv : GV w) (hr_ : r = true) (h : graftagelaw16_lives.f k  = some r) :
  Calls Tryz.prog 15 #[] w fun e w' => e = .returned (.bool r) ∧ Below w.heap.size w w' := by
 have hu24 := Tryz.underlying24; have hu26 := Tryz.underlying26; have hu50 := Tryz.underlying50; have hu37 := Tryz.underlying37; have HB := Aside0.mk (Below.refl w.heap.size w); unfold graftagelaw16_lives.f at h; have H := h; clear h; replace H := Option.bind_eq_some_iff.mp H; obtain ⟨⟨t101, t102, t103, t104, t105⟩, A10, H⟩ := H; dsimp only at H; have A1 := Aside0.mk A10; clear A10; replace H := Option.bind_eq_some_iff.mp H; obtain ⟨⟨t107, t108, t109, t110, t111⟩, A20, H⟩ := H; dsimp only at H; have A2 := Aside0.mk A20; clear A20; replace H := Option.bind_eq_some_iff.mp H; obtain ⟨⟨t113, t114, t115, t116⟩, A30, H⟩ := H; dsimp only at H; have A3 := Aside0.mk A30; clear A30; replace H := Option.bind_eq_some_iff.mp H; obtain ⟨⟨t117, t118, t119, t120⟩, A40, H⟩ := H; dsimp only at H; have A4 := Aside0.mk A40; clear A40; replace H := Option.bind_eq_some_iff.mp H; obtain ⟨⟨t121, t122⟩, A50, H⟩ := H; dsimp only at H; have A5 := Aside0.mk A50; clear A50; replace H := Option.bind_eq_some_iff.mp H; obtain ⟨⟨t123, t126⟩, A60, H⟩ := H; dsimp only at H; have A6 := Aside0.mk A60; clear A60; replace H := Option.bind_eq_some_iff.mp H; obtain ⟨⟨t127, t128, t129, t130⟩, A70, H⟩ := H; dsimp only at H; have A7 := Aside0.mk A70; clear A70; replace H := Option.bind_eq_some_iff.mp H; obtain ⟨⟨t131, t132⟩, A80, H⟩ := H; dsimp only at H; have A8 := Aside0.mk A80; clear A80; replace H := Option.bind_eq_some_iff.mp H; obtain ⟨⟨t133, t134, t135, t136⟩, A90, H⟩ := H; dsimp only at H; have A9 := Aside0.mk A90; clear A90; replace H := Option.bind_eq_some_iff.mp H; obtain ⟨t137, A100, H⟩ := H; have A10 := Aside0.mk A100; clear A100; by_cases c11 : t137.toList = ([97, 32, 60, 97, 64, 98, 62, 32, 53, 32, 43, 48, 49, 48, 48] : List UInt8); rotate_left
 ·rw [if_neg c11] at H; have c11b0 := beq_eq_false_iff_ne.mpr c11; have c11b1 := bne_iff_ne.mpr c11; exact absurd ((Option.some.inj H).trans hr_) (by simp)
 rw [if_pos c11] at H; have c11b0 := beq_iff_eq.mpr c11; have c11b1 := bne_eq_false_iff_eq.mpr c11; clear c11; by_cases c12 : t104 = (-90); rotate_left
 ·rw [if_neg c12] at H; have c12b0 := beq_eq_false_iff_ne.mpr c12; have c12b1 := bne_iff_ne.mpr c12; exact absurd ((Option.some.inj H).trans hr_) (by simp)
 rw [if_pos c12] at H; have c12b0 := beq_iff_eq.mpr c12; have c12b1 := bne_eq_false_iff_eq.mpr c12; clear c12; by_cases c13 : t105 = 0; rotate_left
 ·rw [if_neg c13] at H; have c13b0 := beq_eq_false_iff_ne.mpr c13; have c13b1 := bne_iff_ne.mpr c13; exact absurd ((Option.some.inj H).trans hr_) (by simp)
 rw [if_pos c13] at H; have c13b0 := beq_iff_eq.mpr c13; have c13b1 := bne_eq_false_iff_eq.mpr c13; clear c13; by_cases c14 : t111 = 2; rotate_left
 ·rw [if_neg c14] at H; have c14b0 := beq_eq_false_iff_ne.mpr c14; have c14b1 := bne_iff_ne.mpr c14; exact absurd ((Option.some.inj H).trans hr_) (by simp)
 rw [if_pos c14] at H; have c14b0 := beq_iff_eq.mpr c14; have c14b1 := bne_eq_false_iff_eq.mpr c14; clear c14; by_cases c15 : t121.toList = ([116, 114, 101, 101, 32, 48, 49, 50, 51, 52, 53, 54, 55, 56, 57, 97, 98, 99, 100, 101, 102, 48, 49, 50, 51, 52, 53, 54, 55, 56, 57, 97, 98, 99, 100, 101, 102, 48, 49, 50, 51, 52, 53, 54, 55, 10, 97, 117, 116, 104, 111, 114, 32, 97, 32, 60, 97, 64, 98, 62, 32, 53, 32, 43, 48, 49, 48, 48, 10, 99, 111, 109, 109, 105, 116, 116, 101, 114, 32, 97, 32, 60, 97, 64, 98, 62, 32, 53, 32, 43, 48, 49, 48, 48, 10, 10, 120, 10] : List UInt8); rotate_left
 ·rw [if_neg c15] at H; have c15b0 := beq_eq_false_iff_ne.mpr c15; have c15b1 := bne_iff_ne.mpr c15; exact absurd ((Option.some.inj H).trans hr_) (by simp)
 rw [if_pos c15] at H; have c15b0 := beq_iff_eq.mpr c15; have c15b1 := bne_eq_false_iff_eq.mpr c15; clear c15; by_cases c16 : t122 = 0; rotate_left
 ·rw [if_neg c16] at H; have c16b0 := beq_eq_false_iff_ne.mpr c16; have c16b1 := bne_iff_ne.mpr c16; exact absurd ((Option.some.inj H).trans hr_) (by simp)
 rw [if_pos c16] at H; have c16b0 := beq_iff_eq.mpr c16; have c16b1 := bne_eq_false_iff_eq.mpr c16; clear c16; by_cases c17 : (t123.length : Int) = 1; rotate_left
 ·rw [if_neg c17] at H; have c17b0 := beq_eq_false_iff_ne.mpr c17; have c17b1 := bne_iff_ne.mpr c17; exact absurd ((Option.some.inj H).trans hr_) (by simp)
 rw [if_pos c17] at H; have c17b0 := beq_iff_eq.mpr c17; have c17b1 := bne_eq_false_iff_eq.mpr c17; clear c17; by_cases c18 : 0 < (t123.length : Int); rotate_left
 ·rw [if_neg c18] at H; exact absurd H (by simp)
 rw [if_pos c18] at H; have c18b0 := decide_eq_true c18; have c18b1 : decide (0 < t123.length) = true := decide_eq_true (by omega); clear c18; by_cases c19 : (rdOf ByteArray.empty t123 0).toList = ([48, 49, 50, 51, 52, 53, 54, 55, 56, 57, 97, 98, 99, 100, 101, 102, 48, 49, 50, 51, 52, 53, 54, 55, 56, 57, 97, 98, 99, 100, 101, 102, 48, 49, 50, 51, 52, 53, 54, 55] : List UInt8); rotate_left
 ·rw [if_neg c19] at H; have c19b0 := beq_eq_false_iff_ne.mpr c19; have c19b1 := bne_iff_ne.mpr c19; exact absurd ((Option.some.inj H).trans hr_) (by simp)
 rw [if_pos c19] at H; have c19b0 := beq_iff_eq.mpr c19; have c19b1 := bne_eq_false_iff_eq.mpr c19; clear c19; by_cases c20 : t126 = 0; rotate_left
 ·rw [if_neg c20] at H; have c20b0 := beq_eq_false_iff_ne.mpr c20; have c20b1 := bne_iff_ne.mpr c20; exact absurd ((Option.some.inj H).trans hr_) (by simp)
 rw [if_pos c20] at H; have c20b0 := beq_iff_eq.mpr c20; have c20b1 := bne_eq_false_iff_eq.mpr c20; clear c20; by_cases c21 : t132 = 1; rotate_left
 ·rw [if_neg c21] at H; have c21b0 := beq_eq_false_iff_ne.mpr c21; have c21b1 := bne_iff_ne.mpr c21; exact absurd ((Option.some.inj H).trans hr_) (by simp)
 rw [if_pos c21] at H; have c21b0 := beq_iff_eq.mpr c21; have c21b1 := bne_eq_false_iff_eq.mpr c21; clear c21; replace H := Option.bind_eq_some_iff.mp H; obtain ⟨t139, A220, H⟩ := H; have A22 := Aside0.mk A220; clear A220; obtain rfl := Option.some.inj H; go_enter Tryz.func15, Tryz.ntmps15; have tk1_ : True := trivial; have tk2_ : True := trivial; have tk3_ : True := trivial; have tk4_ : True := trivial; have tk5_ : True := trivial; have tk6_ : True := trivial; go_wp2_with (first | (have _t := tk1_; (with_reducible refine gate_callee (f := 29) rfl ?_); refine gl_ (some 12) Tryz.func29 #[.string ⟨#[97, 32, 60, 97, 64, 98, 62, 32, 53, 32, 45, 48, 49, 51, 48]⟩] ?_; (with_reducible refine (commit_ParseWho.calls k ⟨#[97, 32, 60, 97, 64, 98, 62, 32, 53, 32, 45, 48, 49, 51, 48]⟩ t101 t102 t103 t104 t105 _ ?side1 A1.out).mono ?_); (case side1 => exact GV.below hgv (hb_ HB.out)); rintro e w23 ⟨rfl, hb⟩; refine ⟨_, rfl, ?_⟩; replace HB := ah_ HB hb; (try clear hb); (try clear hb2); (try clear hk); (try clear hi); clear tk1_) | ((with_reducible refine gate_dst (N := 1) rfl ?_); (try (refine gate_guard (by rfl) ?_; dsimp only)); refine be_ (cs := #[.string ⟨#[]⟩, .string ⟨#[]⟩, .int .i64 0, .int .i64 0]) (t := 24) ?_; intro gb106 hg w24 hbox hb; have BK106 := Aside0.mk (hbox); have GW106 := ag_ hg HB; have GE106 := ag_ hg HB; replace HB := ah_ HB hb; clear hb hbox hg; obtain ⟨Z25_0, Z25_1, Z25_2, Z25_3, F25_0, F25_1, F25_2, F25_3⟩ := bc4 BK106.out) | (have _t := tk2_; (with_reducible refine gate_callee (f := 29) rfl ?_); refine gl_ (some 16) Tryz.func29 #[.string ⟨#[97, 32, 60, 98, 62, 32, 48, 53, 32, 43, 48, 48, 48, 48]⟩] ?_; (with_reducible refine (commit_ParseWho.calls k ⟨#[97, 32, 60, 98, 62, 32, 48, 53, 32, 43, 48, 48, 48, 48]⟩ t107 t108 t109 t110 t111 _ ?side1 A2.out).mono ?_); (case side1 => exact GV.below hgv (hs_)); rintro e w26 ⟨rfl, hb⟩; refine ⟨_, rfl, ?_⟩; replace BK106 := Aside0.mk (blk_below (g := gb106) (o := .cells #[.string t101, .string t102, .int .i64 t103, .int .i64 t104] 24 (0, 0)) (by have b_ := BK106; exact zb_) hb); replace HB := Aside0.mk (below_step (hs_) hb); (try clear hb); (try clear hb2); (try clear hk); (try clear hi); clear tk2_) | ((with_reducible refine gate_dst (N := 3) rfl ?_); (try (refine gate_guard (by rfl) ?_; dsimp only)); refine be_ (cs := #[.string ⟨#[]⟩, .string ⟨#[]⟩, .int .i64 0, .int .i64 0]) (t := 24) ?_; intro gb112 hg w27 hbox hb; have BK112 := Aside0.mk (hbox); have GW112 := Aside0.mk ((by rw [hg]; exact (below_size (hs_)) : w.heap.size ≤ gb112)); have GE112 := Aside0.mk ((by rw [hg]; exact (below_size (hs_)) : w.heap.size ≤ gb112)); replace HB := Aside0.mk (below_step (hs_) hb); have NB106_112 := Aside0.mk (nl2_ hg BK106.out); have NB112_106 := Aside0.mk (ng2_ hg BK106.out); replace BK106 := ab_ BK106 hb; clear hb hbox hg; have hnb28 := NB112_106.out; have hnc28 := NB106_112.out; obtain ⟨Z29_0, Z29_1, Z29_2, Z29_3, F29_0, F29_1, F29_2, F29_3⟩ := bc4 BK112.out) | (have _t := tk3_; (with_reducible refine gate_callee (f := 63) rfl ?_); refine gl_ (some 20) Tryz.func63 #[] ?_; (with_reducible refine (graftagelaw16_who.calls  t113 t114 t115 t116 _ A3.out).mono ?_); rintro e w30 ⟨rfl, hb⟩; refine ⟨_, rfl, ?_⟩; replace BK106 := Aside0.mk (blk_below (g := gb106) (o := .cells #[.string t101, .string t102, .int .i64 t103, .int .i64 t104] 24 (0, 0)) (by have b_ := BK106; have f_ := NB106_112; exact zb_) hb); replace BK112 := Aside0.mk (blk_below (g := gb112) (o := .cells #[.string t107, .string t108, .int .i64 t109, .int .i64 t110] 24 (0, 0)) (by have b_ := BK112; exact zb_) hb); replace HB := Aside0.mk (below_step (hs_) hb); (try clear hb); (try clear hb2); (try clear hk); (try clear hi); clear tk3_) | (have _t := tk4_; (with_reducible refine gate_callee (f := 63) rfl ?_); refine gl_ (some 21) Tryz.func63 #[] ?_; (with_reducible refine (graftagelaw16_who.calls  t117 t118 t119 t120 _ A4.out).mono ?_); rintro e w31 ⟨rfl, hb⟩; refine ⟨_, rfl, ?_⟩; replace BK106 := ab_ BK106 hb; replace BK112 := ab_ BK112 hb; replace HB := Aside0.mk (below_step (hs_) hb); (try clear hb); (try clear hb2); (try clear hk); (try clear hi); clear tk4_) | ((with_reducible refine gate_callee (f := 16) rfl ?_); refine gl_ (some 23) Tryz.func16 #[.agg #[.string ⟨#[48, 49, 50, 51, 52, 53, 54, 55, 56, 57, 97, 98, 99, 100, 101, 102, 48, 49, 50, 51, 52, 53, 54, 55, 56, 57, 97, 98, 99, 100, 101, 102, 48, 49, 50, 51, 52, 53, 54, 55]⟩, .slice none 0 0, .string t113, .string t114, .int .i64 t115, .int .i64 t116, .string t117, .string t118, .int .i64 t119, .int .i64 t120, .string ⟨#[120, 10]⟩]] ?_; (refine (commit_Body.calls k ⟨#[48, 49, 50, 51, 52, 53, 54, 55, 56, 57, 97, 98, 99, 100, 101, 102, 48, 49, 50, 51, 52, 53, 54, 55, 56, 57, 97, 98, 99, 100, 101, 102, 48, 49, 50, 51, 52, 53, 54, 55]⟩ _ _ ([] : List ByteArray) t113 t114 t115 t116 t117 t118 t119 t120 ⟨#[120, 10]⟩ t121 t122 _ ?side1 ?side2 ?side3 A5.out).mono ?_); (case side1 => exact Kd.C_nil _ _); (case side2 => exact Nat.le_refl _); (case side3 => exact GV.below hgv (hs_)); rintro e w32 ⟨rfl, hb⟩; refine ⟨_, rfl, ?_⟩; replace BK106 := ab_ BK106 hb; replace BK112 := ab_ BK112 hb; replace HB := Aside0.mk (below_step (hs_) hb); (try clear hb); (try clear hb2); (try clear hk); (try clear hi)) | ((with_reducible refine gate_callee (f := 34) rfl ?_); refine gl_ (some 29) Tryz.func34 #[.agg #[.int .i64 3, .string t121]] ?_; (with_reducible refine (commit_Links.calls k 3 t121 t123 t126 _ ?side1 A6.out).mono ?_); (case side1 => exact GV.below hgv (hs_)); rintro e w33 ⟨v124, rfl, ho0, hb⟩; refine ⟨_, rfl, ?_⟩; have HO125 := Aside0.mk (Kd.R_lower ho0 (below_size (hs_))); replace BK106 := ab_ BK106 hb; replace BK112 := ab_ BK112 hb; replace HB := Aside0.mk (below_step (hs_) hb); (try clear hb); (try clear hb2); (try clear hk); (try clear hi); (try clear ho0)) | (have _t := tk5_; (with_reducible refine gate_callee (f := 63) rfl ?_); refine gl_ (some 33) Tryz.func63 #[] ?_; (with_reducible refine (graftagelaw16_who.calls  t127 t128 t129 t130 _ A7.out).mono ?_); rintro e w34 ⟨rfl, hb⟩; refine ⟨_, rfl, ?_⟩; replace HO125 := Aside0.mk (Kd.R_below (rk_ HO125.out) hb); replace BK106 := ab_ BK106 hb; replace BK112 := ab_ BK112 hb; replace HB := Aside0.mk (below_step (hs_) hb); (try clear hb); (try clear hb2); (try clear hk); (try clear hi); clear tk5_) | ((with_reducible refine gate_callee (f := 25) rfl ?_); refine gl_ (some 35) Tryz.func25 #[.agg #[.string ⟨#[48, 49, 50, 51, 52, 53, 54, 55, 56, 57, 97, 98, 99, 100, 101, 102, 48, 49, 50, 51, 52, 53, 54, 55, 56, 57, 97, 98, 99, 100, 101, 102, 48, 49, 50, 51, 52, 53, 54, 55]⟩, .int .i64 5, .string ⟨#[118]⟩, .string t127, .string t128, .int .i64 t129, .int .i64 t130, .string ⟨#[]⟩]] ?_; (with_reducible refine (commit_TagBody.calls k ⟨#[48, 49, 50, 51, 52, 53, 54, 55, 56, 57, 97, 98, 99, 100, 101, 102, 48, 49, 50, 51, 52, 53, 54, 55, 56, 57, 97, 98, 99, 100, 101, 102, 48, 49, 50, 51, 52, 53, 54, 55]⟩ 5 ⟨#[118]⟩ t127 t128 t129 t130 ⟨#[]⟩ t131 t132 _ ?side1 A8.out).mono ?_); (case side1 => exact GV.below hgv (hs_)); rintro e w35 ⟨rfl, hb⟩; refine ⟨_, rfl, ?_⟩; replace HO125 := Aside0.mk (Kd.R_below (rk_ HO125.out) hb); replace BK106 := ab_ BK106 hb; replace BK112 := ab_ BK112 hb; replace HB := Aside0.mk (below_step (hs_) hb); (try clear hb); (try clear hb2); (try clear hk); (try clear hi)) | (have _t := tk6_; (with_reducible refine gate_callee (f := 63) rfl ?_); refine gl_ (some 38) Tryz.func63 #[] ?_; (with_reducible refine (graftagelaw16_who.calls  t133 t134 t135 t136 _ A9.out).mono ?_); rintro e w36 ⟨rfl, hb⟩; refine ⟨_, rfl, ?_⟩; replace HO125 := Aside0.mk (Kd.R_below (rk_ HO125.out) hb); replace BK106 := ab_ BK106 hb; replace BK112 := ab_ BK112 hb; replace HB := Aside0.mk (below_step (hs_) hb); (try clear hb); (try clear hb2); (try clear hk); (try clear hi); clear tk6_) | ((with_reducible refine gate_callee (f := 31) rfl ?_); refine gl_ (some 39) Tryz.func31 #[.agg #[.string t133, .string t134, .int .i64 t135, .int .i64 t136]] ?_; (with_reducible refine (commit_Who.calls t133 t134 t135 t136 t137 _ ?side1 A10.out).mono ?_); (case side1 => exact GV.below hgv (hs_)); rintro e w37 ⟨rfl, hb⟩; refine ⟨_, rfl, ?_⟩; replace HO125 := Aside0.mk (Kd.R_below (rk_ HO125.out) hb); replace BK106 := ab_ BK106 hb; replace BK112 := ab_ BK112 hb; replace HB := Aside0.mk (below_step (hs_) hb); (try clear hb); (try clear hb2); (try clear hk); (try clear hi); obtain ⟨Z38_0, Z38_1, Z38_2, Z38_3, F38_0, F38_1, F38_2, F38_3⟩ := bc4 BK106.out; obtain ⟨Ao39, co39, eo39⟩ := Kd.R_slice HO125.out; subst eo39; have p138 : 0 ≤ (0 : Int) := (by omega); have q138 : 0 < (t123.length : Int) := of_decide_eq_true z0_; obtain ⟨ad138, e138, hx138_0⟩ := Kd.at_string (Kd.R_reads' HO125.out).2.2 0 p138 q138; cases e138; have qi138 : (0 < t123.length) = True := eq_true (by omega); (try rw [show ((0 : Int)).toNat = 0 from rfl] at hx138_0); (try rw [Addr.add_zero'] at hx138_0); replace p138 := eq_true p138; replace q138 := eq_true q138) | (go_at_call 36; (with_reducible refine (commit_Whole.calls k 3 ⟨#[120]⟩ t139 _ ?side1 A22.out).mono ?_); (case side1 => exact GV.below hgv (hs_)); rintro e w40 ⟨rfl, hb⟩; replace HO125 := Aside0.mk (Kd.R_below (rk_ HO125.out) hb); replace BK106 := ab_ BK106 hb; replace BK112 := ab_ BK112 hb; replace HB := Aside0.mk (below_step (hs_) hb); (try clear hb); (try clear hb2); (try clear hk); (try clear hi)))
 go_ret
 exact ⟨z3_, hs_⟩

end Go.Proofs.YtbhfbbfjdklfgaaGreatDoor.Q


/- The chapter's examples hold: commit. -/
namespace Go.Proofs.YtbhfbbfjdklfgaaGreatDoor.Q
open Go.RowKit Go.Proofs.YtbhfbbfjdklfgaaGreatDoorW.PrintWords Go.Proofs.YtbhfbbfjdklfgaaGreatDoorW.PrintLast Go.Proofs.YtbhfbbfjdklfgaaGreatDoorW.PrintMore
theorem lives16 : Ev (fun k => graftagelaw16_lives.f k) true := Ev.of (fun k => graftagelaw16_lives.mono k) (k := 400) (by decide +kernel)
theorem ev_is {α : Type} {g : Nat → Option α} {r t : α} (hg : ∀ k, LeO (g k) (g (k + 1))) (h : Ev g r) {k : Nat} (ht : g k = some t) : t = r := by
  obtain ⟨K, hK⟩ := h
  have h1 := hK (max K k) (Nat.le_max_left _ _)
  have h2 := at_rounds hg (Nat.le_max_right K k) ht
  rw [h1] at h2
  exact (Option.some.inj h2).symm
theorem graftagelaw16_lives.calls (k : Nat) (r : Bool) (w : World) (hgv : GV w) (h : graftagelaw16_lives.f k = some r) : Calls Tryz.prog 15 #[] w fun e w' => e = .returned (.bool r) ∧ Below w.heap.size w w' :=
  graftagelaw16_lives.callsT k r w hgv (ev_is (fun k => graftagelaw16_lives.mono k) lives16 h) h
theorem liveOr16 : Ev (fun k => (graftagelaw16_lives.f k).bind fun t => some t) true := Ev.bind lives16 (Ev.now _)
end Go.Proofs.YtbhfbbfjdklfgaaGreatDoor.Q


namespace Go.Proofs.YtbhfbbfjdklfgaaGreatDoor.Q
open Go.RowKit Go.Proofs.YtbhfbbfjdklfgaaGreatDoorW.PrintWords Go.Proofs.YtbhfbbfjdklfgaaGreatDoorW.PrintLast Go.Proofs.YtbhfbbfjdklfgaaGreatDoorW.PrintMore
attribute [local go_sem] max2_int min2_int max_two min_two max_three min_three max_four min_four   -- for this text's walks alone

mutual
def graftagelaw16_CommitBodies.j0 : Nat → Bool → ByteArray → List ByteArray → ByteArray → ByteArray → Int → Int → ByteArray → ByteArray → Int → Int → ByteArray → Option (Bool)
 | 0, _, _, _, _, _, _, _, _, _, _, _, _ => none
 | k + 1, x18, x102000, x102001, x102002, x102003, x102004, x102005, x102006, x102007, x102008, x102009, x102010 => if x18 = true then ((graftagelaw16_lives.f k).bind fun t102 => (some t102)) else ((commit_Body.f k x102000 x102001 x102002 x102003 x102004 x102005 x102006 x102007 x102008 x102009 x102010).bind fun bt103 => ((graftageref16_Body.f k x102000 x102001 x102002 x102003 x102004 x102005 x102006 x102007 x102008 x102009 x102010).bind fun bt105 => ((commit_Check.f k x102000 x102001 x102002 x102003 x102004 x102005 x102006 x102007 x102008 x102009 x102010).bind fun t107 => ((graftageref16_Check.f k x102000 x102001 x102002 x102003 x102004 x102005 x102006 x102007 x102008 x102009 x102010).bind fun t108 => (if t107 = t108 then (if bt103.1.toList = bt105.1.toList then (graftagelaw16_CommitBodies.j1 k bt103.1 bt103.2 (bt103.2 != bt105.2) x102000 x102001 x102002 x102003 x102004 x102005 x102006 x102007 x102008 x102009 x102010) else (graftagelaw16_CommitBodies.j1 k bt103.1 bt103.2 true x102000 x102001 x102002 x102003 x102004 x102005 x102006 x102007 x102008 x102009 x102010)) else (graftagelaw16_CommitBodies.j1 k bt103.1 bt103.2 true x102000 x102001 x102002 x102003 x102004 x102005 x102006 x102007 x102008 x102009 x102010))))))
def graftagelaw16_CommitBodies.j1 : Nat → ByteArray → Int → Bool → ByteArray → List ByteArray → ByteArray → ByteArray → Int → Int → ByteArray → ByteArray → Int → Int → ByteArray → Option (Bool)
 | 0, _, _, _, _, _, _, _, _, _, _, _, _, _, _ => none
 | k + 1, x3, x4, x44, x102000, x102001, x102002, x102003, x102004, x102005, x102006, x102007, x102008, x102009, x102010 => if x44 = true then (some false) else (if x4 = 0 then ((commit_Parse.f k x3).bind fun bt109 => ((graftagelaw16_lives.f k).bind fun t124 => (if t124 = true then (if bt109.2.2.2.2.2.2.2.2.2.2.2 = 0 then ((graftageref16_Same.f k x102000 x102001 x102002 x102003 x102004 x102005 x102006 x102007 x102008 x102009 x102010 bt109.1 bt109.2.1 bt109.2.2.1 bt109.2.2.2.1 bt109.2.2.2.2.1 bt109.2.2.2.2.2.1 bt109.2.2.2.2.2.2.1 bt109.2.2.2.2.2.2.2.1 bt109.2.2.2.2.2.2.2.2.1 bt109.2.2.2.2.2.2.2.2.2.1 bt109.2.2.2.2.2.2.2.2.2.2.1).bind fun t125 => (some t125)) else (some false)) else (some false)))) else ((graftagelaw16_lives.f k).bind fun t126 => (some t126)))
end
def graftagelaw16_CommitBodies.f (k : Nat) (a0_0 : ByteArray) (l0_1 : List ByteArray) (a0_2 : ByteArray) (a0_3 : ByteArray) (a0_4 : Int) (a0_5 : Int) (a0_6 : ByteArray) (a0_7 : ByteArray) (a0_8 : Int) (a0_9 : Int) (a0_10 : ByteArray) : Option (Bool) := if (l0_1.length : Int) > 40 then (graftagelaw16_CommitBodies.j0 k true a0_0 l0_1 a0_2 a0_3 a0_4 a0_5 a0_6 a0_7 a0_8 a0_9 a0_10) else (graftagelaw16_CommitBodies.j0 k (decide ((a0_10.size : Int) > 5000)) a0_0 l0_1 a0_2 a0_3 a0_4 a0_5 a0_6 a0_7 a0_8 a0_9 a0_10)
def graftagelaw16_CommitBodies.T5 : Bool × List (List Nat × List Nat) := (true, [([], []), ([0], [0]), ([], []), ([2, 1], [2]), ([1, 3], [1, 3]), ([4, 3], [4]), ([5], [5]), ([5], [5]), ([6, 7, 5], [5, 6, 7]), ([5, 8], [5, 8]), ([9, 5], [9]), ([10], [10]), ([10], [10]), ([11, 12, 10], [10, 11, 12]), ([10, 13], [10, 13])])
def graftagelaw16_CommitBodies.B5 : List Nat := [0, 1, 0, 7, 15, 31, 63, 63, 255, 511, 1023, 2047, 2047, 8191, 16383]
theorem graftagelaw16_CommitBodies.tab5 : rtab .any (opsOf Tryz.f3 5) = graftagelaw16_CommitBodies.T5 := by kernel_rfl
theorem graftagelaw16_CommitBodies.bits5 : waitsOk graftagelaw16_CommitBodies.T5.2 graftagelaw16_CommitBodies.B5 = true := by kernel_rfl
set_option maxHeartbeats 8000000 in
set_option maxRecDepth 100000 in
theorem graftagelaw16_CommitBodies.calls (k : Nat) (a0_0 : ByteArray) (A0_1 : Option Addr) (c0_1 : Nat) (l0_1 : List ByteArray) (a0_2 : ByteArray) (a0_3 : ByteArray) (a0_4 : Int) (a0_5 : Int) (a0_6 : ByteArray) (a0_7 : ByteArray) (a0_8 : Int) (a0_9 : Int) (a0_10 : ByteArray) (r : Bool) (w : World) (hr0_1 : Kd.C Kd.string w A0_1 l0_1.length l0_1) (hc0_1 : l0_1.length ≤ c0_1) (hgv : GV w) (h : graftagelaw16_CommitBodies.f k a0_0 l0_1 a0_2 a0_3 a0_4 a0_5 a0_6 a0_7 a0_8 a0_9 a0_10 = some r) :
  Calls Tryz.prog 3 #[.agg #[.string a0_0, .slice A0_1 l0_1.length c0_1, .string a0_2, .string a0_3, .int .i64 a0_4, .int .i64 a0_5, .string a0_6, .string a0_7, .int .i64 a0_8, .int .i64 a0_9, .string a0_10]] w fun e w' => e = .returned (.bool r) ∧ Below w.heap.size w w' := by
 have hu26 := Tryz.underlying26; have HR0_1 := Aside0.mk hr0_1; have HC0_1 := Aside0.mk hc0_1; clear hr0_1 hc0_1; have HB := Aside0.mk (Below.refl w.heap.size w); unfold graftagelaw16_CommitBodies.f at h; have H := h; clear h; have HC2 := Aside0.mk H; clear H; go_enter Tryz.func3, Tryz.ntmps3; go_upto_region 1 with (first | ((with_reducible refine gate_dst (N := 1) rfl ?_); (try (refine gate_guard (by rfl) ?_; dsimp only)); refine be_ (cs := #[.string a0_0, .slice A0_1 l0_1.length c0_1, .string a0_2, .string a0_3, .int .i64 a0_4, .int .i64 a0_5, .string a0_6, .string a0_7, .int .i64 a0_8, .int .i64 a0_9, .string a0_10]) (t := 26) ?_; intro gb101 hg w3 hbox hb; have BK101 := Aside0.mk (hbox); have GW101 := ag_ hg HB; have GE101 := ag_ hg HB; replace HB := ah_ HB hb; clear hb hbox hg)); (try simp only [Act.put, List.setIfInBounds_toArray, List.set_cons_zero, List.set_cons_succ])
 go_cut [18] (fun v18 wc => ∃ (kq : Nat) (x18_1 : Bool), v18 = .bool x18_1 ∧ Aside0 (graftagelaw16_CommitBodies.j0 kq x18_1 a0_0 l0_1 a0_2 a0_3 a0_4 a0_5 a0_6 a0_7 a0_8 a0_9 a0_10 = some r) ∧ Aside0 (kq ≤ k) ∧ Aside0 (wc.heap[gb101]? = some (.cells #[.string a0_0, (.slice A0_1 l0_1.length c0_1), .string a0_2, .string a0_3, .int .i64 a0_4, .int .i64 a0_5, .string a0_6, .string a0_7, .int .i64 a0_8, .int .i64 a0_9, .string a0_10] 26 (0, 0))) ∧ Aside0 (Below w.heap.size w wc))
 case first =>
  have H := HC2.out; clear HC2; by_cases c4 : (l0_1.length : Int) > 40
  ·rw [if_pos c4] at H; have c4b0 := decide_eq_true c4; have c4b1 : decide (40 < l0_1.length) = true := decide_eq_true (by omega); clear c4; (first | rw [c4b0] | (simp only [i64_w, i32_w]; rw [c4b0]) | skip); (try rw [c4b8])
   have H' := Aside0.mk H; clear H; obtain ⟨Z5_0, Z5_1, Z5_2, Z5_3, Z5_4, Z5_5, Z5_6, Z5_7, Z5_8, Z5_9, Z5_10, F5_0, F5_1, F5_2, F5_3, F5_4, F5_5, F5_6, F5_7, F5_8, F5_9, F5_10⟩ := bc11 BK101.out; go_wp2
   go_meet
   case rel => exact ⟨_, (true), z1_, H', ⟨z4_⟩, ⟨bk_ BK101.out⟩, ⟨hs_⟩⟩
  rw [if_neg c4] at H; have c4b0 := decide_eq_false c4; have c4b1 : decide (40 < l0_1.length) = false := decide_eq_false (by omega); clear c4; (first | rw [c4b0] | (simp only [i64_w, i32_w]; rw [c4b0]) | skip); (try rw [c4b8])
  have H' := Aside0.mk H; clear H; obtain ⟨Z6_0, Z6_1, Z6_2, Z6_3, Z6_4, Z6_5, Z6_6, Z6_7, Z6_8, Z6_9, Z6_10, F6_0, F6_1, F6_2, F6_3, F6_4, F6_5, F6_6, F6_7, F6_8, F6_9, F6_10⟩ := bc11 BK101.out; go_wp2
  go_meet
  case rel => exact ⟨_, (decide ((a0_10.size : Int) > 5000)), z1_, H', ⟨z4_⟩, ⟨bk_ BK101.out⟩, ⟨hs_⟩⟩
 case rest =>
  clear HC2; try clear p2
  try clear c3
  try clear c4
  try clear c4b0
  try clear c4b1
  try clear Z5_0 Z5_1 Z5_10 Z5_2 Z5_3 Z5_4 Z5_5 Z5_6 Z5_7 Z5_8 Z5_9
  try clear Z6_0 Z6_1 Z6_10 Z6_2 Z6_3 Z6_4 Z6_5 Z6_6 Z6_7 Z6_8 Z6_9
  try clear F5_0 F5_1 F5_10 F5_2 F5_3 F5_4 F5_5 F5_6 F5_7 F5_8 F5_9
  try clear F6_0 F6_1 F6_10 F6_2 F6_3 F6_4 F6_5 F6_6 F6_7 F6_8 F6_9
  obtain ⟨kq, x18_1, rfl, HA, HJ1, BK101, HB⟩ := hcut
  cases kq with
  | zero => exact absurd HA.out (by simp [graftagelaw16_CommitBodies.j0])
  | succ kj1 =>
   have H := HA.out; clear HA; simp only [graftagelaw16_CommitBodies.j0] at H; by_cases c7 : x18_1 = true
   ·subst c7; rw [if_pos rfl] at H; replace H := Option.bind_eq_some_iff.mp H; obtain ⟨t102, A80, H⟩ := H; have A8 := Aside0.mk A80; clear A80; obtain rfl := Option.some.inj H; go_wp2_with (first | ((with_reducible refine gate_callee (f := 15) rfl ?_); refine gl_ (some 19) Tryz.func15 #[] ?_; (with_reducible refine (graftagelaw16_lives.calls kj1  t102 _ ?side1 A8.out).mono ?_); (case side1 => exact GV.below hgv (hs_)); rintro e w9 ⟨rfl, hb⟩; refine ⟨_, rfl, ?_⟩; replace BK101 := ab_ BK101 hb; replace HB := Aside0.mk (below_step (hs_) hb); (try clear hb); (try clear hb2); (try clear hk); (try clear hi)))
    go_ret
    exact ⟨z3_, hs_⟩
   replace c7 := Bool.eq_false_iff.mpr c7; subst c7; rw [if_neg nft_] at H; replace H := Option.bind_eq_some_iff.mp H; obtain ⟨⟨t103, t104⟩, A100, H⟩ := H; dsimp only at H; have A10 := Aside0.mk A100; clear A100; replace H := Option.bind_eq_some_iff.mp H; obtain ⟨⟨t105, t106⟩, A110, H⟩ := H; dsimp only at H; have A11 := Aside0.mk A110; clear A110; have HC12 := Aside0.mk H; clear H; obtain ⟨Z13_0, Z13_1, Z13_2, Z13_3, Z13_4, Z13_5, Z13_6, Z13_7, Z13_8, Z13_9, Z13_10, F13_0, F13_1, F13_2, F13_3, F13_4, F13_5, F13_6, F13_7, F13_8, F13_9, F13_10⟩ := bc11 BK101.out; go_upto_region 5 with (first | ((with_reducible refine gate_callee (f := 16) rfl ?_); refine gl_ (some 22) Tryz.func16 #[.agg #[.string a0_0, .slice A0_1 l0_1.length c0_1, .string a0_2, .string a0_3, .int .i64 a0_4, .int .i64 a0_5, .string a0_6, .string a0_7, .int .i64 a0_8, .int .i64 a0_9, .string a0_10]] ?_; (with_reducible refine (commit_Body.calls kj1 a0_0 _ _ l0_1 a0_2 a0_3 a0_4 a0_5 a0_6 a0_7 a0_8 a0_9 a0_10 t103 t104 _ ?side1 ?side2 ?side3 A10.out).mono ?_); (case side1 => repeat (first | exact (Kd.C_below HR0_1.out HB.out) | (with_reducible refine Kd.C_alloc ?_ _) | (with_reducible refine Kd.C_drewN ?_ _) | (with_reducible refine Kd.C_drew ?_))); (case side2 => exact HC0_1.out); (case side3 => exact GV.below hgv (hs_)); rintro e w14 ⟨rfl, hb⟩; refine ⟨_, rfl, ?_⟩; replace BK101 := ab_ BK101 hb; replace HB := Aside0.mk (below_step (hs_) hb); (try clear hb); (try clear hb2); (try clear hk); (try clear hi); obtain ⟨Z15_0, Z15_1, Z15_2, Z15_3, Z15_4, Z15_5, Z15_6, Z15_7, Z15_8, Z15_9, Z15_10, F15_0, F15_1, F15_2, F15_3, F15_4, F15_5, F15_6, F15_7, F15_8, F15_9, F15_10⟩ := bc11 BK101.out) | ((with_reducible refine gate_callee (f := 17) rfl ?_); refine gl_ (some 27) Tryz.func17 #[.agg #[.string a0_0, .slice A0_1 l0_1.length c0_1, .string a0_2, .string a0_3, .int .i64 a0_4, .int .i64 a0_5, .string a0_6, .string a0_7, .int .i64 a0_8, .int .i64 a0_9, .string a0_10]] ?_; (with_reducible refine (graftageref16_Body.calls kj1 a0_0 _ _ l0_1 a0_2 a0_3 a0_4 a0_5 a0_6 a0_7 a0_8 a0_9 a0_10 t105 t106 _ ?side1 ?side2 A11.out).mono ?_); (case side1 => repeat (first | exact (Kd.C_below HR0_1.out HB.out) | (with_reducible refine Kd.C_alloc ?_ _) | (with_reducible refine Kd.C_drewN ?_ _) | (with_reducible refine Kd.C_drew ?_))); (case side2 => exact HC0_1.out); rintro e w16 ⟨rfl, hb⟩; refine ⟨_, rfl, ?_⟩; replace BK101 := ab_ BK101 hb; replace HB := Aside0.mk (below_step (hs_) hb); (try clear hb); (try clear hb2); (try clear hk); (try clear hi)))
   (try simp only [Act.put, List.setIfInBounds_toArray, List.set_cons_zero, List.set_cons_succ])
   go_cut [44] (fun v44 wc => ∃ (kq : Nat) (x44_11 : Bool), v44 = .bool x44_11 ∧ Aside0 (graftagelaw16_CommitBodies.j1 kq t103 t104 x44_11 a0_0 l0_1 a0_2 a0_3 a0_4 a0_5 a0_6 a0_7 a0_8 a0_9 a0_10 = some r) ∧ Aside0 (kq ≤ kj1) ∧ Aside0 (wc.heap[gb101]? = some (.cells #[.string a0_0, (.slice A0_1 l0_1.length c0_1), .string a0_2, .string a0_3, .int .i64 a0_4, .int .i64 a0_5, .string a0_6, .string a0_7, .int .i64 a0_8, .int .i64 a0_9, .string a0_10] 26 (0, 0))) ∧ Aside0 (Below w.heap.size w wc))
   case first =>
    have H := HC12.out; clear HC12; replace H := Option.bind_eq_some_iff.mp H; obtain ⟨t107, A170, H⟩ := H; have A17 := Aside0.mk A170; clear A170; replace H := Option.bind_eq_some_iff.mp H; obtain ⟨t108, A180, H⟩ := H; have A18 := Aside0.mk A180; clear A180; by_cases c19 : t107 = t108; rotate_left
    ·rw [if_neg c19] at H; have c19b0 := beq_eq_false_iff_ne.mpr c19; have c19b1 := bne_iff_ne.mpr c19; (first | rw [c19b0] | (simp only [i64_w, i32_w]; rw [c19b0]) | skip); (try rw [c19b8])
     have H' := Aside0.mk H; clear H; try go_wp2
     replace BK101 := Aside0.mk (blk_drew BK101.out); replace HB := Aside0.mk (below_drew1 HB.out); refine start_ (n := 15) (S := fun w' => w'.cell? ⟨gb101, 0, none⟩ = some (.string a0_0) ∧ w'.cell? ⟨gb101, 1, none⟩ = some (.slice A0_1 l0_1.length c0_1) ∧ w'.cell? ⟨gb101, 2, none⟩ = some (.string a0_2) ∧ w'.cell? ⟨gb101, 3, none⟩ = some (.string a0_3) ∧ w'.cell? ⟨gb101, 4, none⟩ = some (.int .i64 a0_4) ∧ w'.cell? ⟨gb101, 5, none⟩ = some (.int .i64 a0_5) ∧ w'.cell? ⟨gb101, 6, none⟩ = some (.string a0_6) ∧ w'.cell? ⟨gb101, 7, none⟩ = some (.string a0_7) ∧ w'.cell? ⟨gb101, 8, none⟩ = some (.int .i64 a0_8) ∧ w'.cell? ⟨gb101, 9, none⟩ = some (.int .i64 a0_9) ∧ w'.cell? ⟨gb101, 10, none⟩ = some (.string a0_10)) (ds := []) (bs 15 0) (by kernel_rfl) rfl rfl ⟨(blk_cell BK101.out 0).trans rfl, (blk_cell BK101.out 1).trans rfl, (blk_cell BK101.out 2).trans rfl, (blk_cell BK101.out 3).trans rfl, (blk_cell BK101.out 4).trans rfl, (blk_cell BK101.out 5).trans rfl, (blk_cell BK101.out 6).trans rfl, (blk_cell BK101.out 7).trans rfl, (blk_cell BK101.out 8).trans rfl, (blk_cell BK101.out 9).trans rfl, (blk_cell BK101.out 10).trans rfl⟩ (fun hHeld => ?_); refine with_tabW graftagelaw16_CommitBodies.tab5 graftagelaw16_CommitBodies.bits5 (fun HT_ HW_ => ?_); generalize w16.drew = w27 at BK101 HB hHeld ⊢; refine tkW11_ (i := 0) (N := some 30) (bs 15 1) rfl rfl hHeld ?_; refine tkW11_ (i := 2) (N := some 32) (bs 15 5) rfl rfl hHeld ?_; refine one_ (i := 1) (N := some 31) (bs 15 7) rfl rfl (one_of HT_.out (by kernel_rfl)) (by decide) (fun K hK => ?_); refine goes_ Tryz.func18 (by kernel_rfl) rfl #[.agg #[.string a0_0, .slice A0_1 l0_1.length c0_1, .string a0_2, .string a0_3, .int .i64 a0_4, .int .i64 a0_5, .string a0_6, .string a0_7, .int .i64 a0_8, .int .i64 a0_9, .string a0_10]] (by rfl) rfl rfl z5_ ?_
     with_reducible refine (commit_Check.calls kj1 a0_0 _ _ l0_1 a0_2 a0_3 a0_4 a0_5 a0_6 a0_7 a0_8 a0_9 a0_10 t107 _ ?side1 ?side2 ?side3 A17.out).mono ?_
     (case side1 => repeat (first | exact (Kd.C_below HR0_1.out HB.out) | (with_reducible refine Kd.C_alloc ?_ _) | (with_reducible refine Kd.C_drewN ?_ _) | (with_reducible refine Kd.C_drew ?_)))
     (case side2 => exact HC0_1.out)
     (case side3 => exact GV.below hgv (hs_))
     rintro e w28 ⟨rfl, hb⟩; refine ⟨_, rfl, ?_⟩; replace BK101 := ab_ BK101 hb; replace HB := Aside0.mk (below_step (hs_) hb); (try clear hb)
     (try clear hb2)
     (try clear hk)
     (try clear hi)
     refine hK.out _ _ ⟨(blk_cell BK101.out 0).trans rfl, (blk_cell BK101.out 1).trans rfl, (blk_cell BK101.out 2).trans rfl, (blk_cell BK101.out 3).trans rfl, (blk_cell BK101.out 4).trans rfl, (blk_cell BK101.out 5).trans rfl, (blk_cell BK101.out 6).trans rfl, (blk_cell BK101.out 7).trans rfl, (blk_cell BK101.out 8).trans rfl, (blk_cell BK101.out 9).trans rfl, (blk_cell BK101.out 10).trans rfl⟩ (fun hHeld => ?_); clear hK K; refine norm_ (a' := ?_) ?_ ?_; rotate_left
     ·show Act.put _ (some 31) _ = _
      simp only [Act.put, List.setIfInBounds_toArray, List.set_cons_zero, List.set_cons_succ, i64_w, i32_w]; rfl
     refine one_ (i := 3) (N := some 33) (bs 15 15) rfl rfl (one_of HT_.out (by kernel_rfl)) (by decide) (fun K hK => ?_); refine goes_ Tryz.func19 (by kernel_rfl) rfl #[.agg #[.string a0_0, .slice A0_1 l0_1.length c0_1, .string a0_2, .string a0_3, .int .i64 a0_4, .int .i64 a0_5, .string a0_6, .string a0_7, .int .i64 a0_8, .int .i64 a0_9, .string a0_10]] (by rfl) rfl rfl z5_ ?_
     with_reducible refine (graftageref16_Check.calls kj1 a0_0 _ _ l0_1 a0_2 a0_3 a0_4 a0_5 a0_6 a0_7 a0_8 a0_9 a0_10 t108 _ ?side1 ?side2 A18.out).mono ?_
     (case side1 => repeat (first | exact (Kd.C_below HR0_1.out HB.out) | (with_reducible refine Kd.C_alloc ?_ _) | (with_reducible refine Kd.C_drewN ?_ _) | (with_reducible refine Kd.C_drew ?_)))
     (case side2 => exact HC0_1.out)
     rintro e w29 ⟨rfl, hb⟩; refine ⟨_, rfl, ?_⟩; replace BK101 := ab_ BK101 hb; replace HB := Aside0.mk (below_step (hs_) hb); (try clear hb)
     (try clear hb2)
     (try clear hk)
     (try clear hi)
     refine hK.out _ _ ⟨(blk_cell BK101.out 0).trans rfl, (blk_cell BK101.out 1).trans rfl, (blk_cell BK101.out 2).trans rfl, (blk_cell BK101.out 3).trans rfl, (blk_cell BK101.out 4).trans rfl, (blk_cell BK101.out 5).trans rfl, (blk_cell BK101.out 6).trans rfl, (blk_cell BK101.out 7).trans rfl, (blk_cell BK101.out 8).trans rfl, (blk_cell BK101.out 9).trans rfl, (blk_cell BK101.out 10).trans rfl⟩ (fun hHeld => ?_); clear hK K; refine norm_ (a' := ?_) ?_ ?_; rotate_left
     ·show Act.put _ (some 33) _ = _
      simp only [Act.put, List.setIfInBounds_toArray, List.set_cons_zero, List.set_cons_succ, i64_w, i32_w]; rfl
     refine pu_ (i := 4) (N := some 34) (bs 15 31) rfl rfl ?_; refine pu_ (i := 5) (N := some 35) (bs 15 63) rfl rfl ?_; refine pn_ (i := 6) (N := some 36) (bs 15 127) rfl rfl ?_; refine pn_ (i := 7) (N := some 37) (bs 15 255) rfl rfl ?_; refine pn_ (i := 8) (N := some 38) (bs 15 511) rfl rfl ?_; refine pu_ (i := 9) (N := some 39) (bs 15 1023) rfl rfl ?_; refine pu_ (i := 10) (N := some 40) (bs 15 2047) rfl rfl ?_; refine pn_ (i := 11) (N := some 41) (bs 15 4095) rfl rfl ?_; refine pn_ (i := 12) (N := some 42) (bs 15 8191) rfl rfl ?_; refine pn_ (i := 13) (N := some 43) (bs 15 16383) rfl rfl ?_; refine pu_ (i := 14) (N := some 44) (bs 15 32767) rfl rfl ?_; refine done_ (done_of HT_.out (by kernel_rfl)) ?_; try go_wp2
     go_meet
     case rel => exact ⟨_, (true), z1_, H', ⟨by have := HJ1.out; first | omega | exact Nat.le_refl _⟩, ⟨bk_ BK101.out⟩, ⟨hs_⟩⟩
    rw [if_pos c19] at H; have c19b0 := beq_iff_eq.mpr c19; have c19b1 := bne_eq_false_iff_eq.mpr c19; clear c19; (first | rw [c19b0] | (simp only [i64_w, i32_w]; rw [c19b0]) | skip); (try rw [c19b8])
    by_cases c20 : t103.toList = t105.toList; rotate_left
    ·rw [if_neg c20] at H; have c20b0 := beq_eq_false_iff_ne.mpr c20; have c20b1 := bne_iff_ne.mpr c20; have H' := Aside0.mk H; clear H; try go_wp2
     replace BK101 := Aside0.mk (blk_drew BK101.out); replace HB := Aside0.mk (below_drew1 HB.out); refine start_ (n := 15) (S := fun w' => w'.cell? ⟨gb101, 0, none⟩ = some (.string a0_0) ∧ w'.cell? ⟨gb101, 1, none⟩ = some (.slice A0_1 l0_1.length c0_1) ∧ w'.cell? ⟨gb101, 2, none⟩ = some (.string a0_2) ∧ w'.cell? ⟨gb101, 3, none⟩ = some (.string a0_3) ∧ w'.cell? ⟨gb101, 4, none⟩ = some (.int .i64 a0_4) ∧ w'.cell? ⟨gb101, 5, none⟩ = some (.int .i64 a0_5) ∧ w'.cell? ⟨gb101, 6, none⟩ = some (.string a0_6) ∧ w'.cell? ⟨gb101, 7, none⟩ = some (.string a0_7) ∧ w'.cell? ⟨gb101, 8, none⟩ = some (.int .i64 a0_8) ∧ w'.cell? ⟨gb101, 9, none⟩ = some (.int .i64 a0_9) ∧ w'.cell? ⟨gb101, 10, none⟩ = some (.string a0_10)) (ds := []) (bs 15 0) (by kernel_rfl) rfl rfl ⟨(blk_cell BK101.out 0).trans rfl, (blk_cell BK101.out 1).trans rfl, (blk_cell BK101.out 2).trans rfl, (blk_cell BK101.out 3).trans rfl, (blk_cell BK101.out 4).trans rfl, (blk_cell BK101.out 5).trans rfl, (blk_cell BK101.out 6).trans rfl, (blk_cell BK101.out 7).trans rfl, (blk_cell BK101.out 8).trans rfl, (blk_cell BK101.out 9).trans rfl, (blk_cell BK101.out 10).trans rfl⟩ (fun hHeld => ?_); refine with_tabW graftagelaw16_CommitBodies.tab5 graftagelaw16_CommitBodies.bits5 (fun HT_ HW_ => ?_); generalize w16.drew = w24 at BK101 HB hHeld ⊢; refine tkW11_ (i := 0) (N := some 30) (bs 15 1) rfl rfl hHeld ?_; refine tkW11_ (i := 2) (N := some 32) (bs 15 5) rfl rfl hHeld ?_; refine one_ (i := 1) (N := some 31) (bs 15 7) rfl rfl (one_of HT_.out (by kernel_rfl)) (by decide) (fun K hK => ?_); refine goes_ Tryz.func18 (by kernel_rfl) rfl #[.agg #[.string a0_0, .slice A0_1 l0_1.length c0_1, .string a0_2, .string a0_3, .int .i64 a0_4, .int .i64 a0_5, .string a0_6, .string a0_7, .int .i64 a0_8, .int .i64 a0_9, .string a0_10]] (by rfl) rfl rfl z5_ ?_
     with_reducible refine (commit_Check.calls kj1 a0_0 _ _ l0_1 a0_2 a0_3 a0_4 a0_5 a0_6 a0_7 a0_8 a0_9 a0_10 t107 _ ?side1 ?side2 ?side3 A17.out).mono ?_
     (case side1 => repeat (first | exact (Kd.C_below HR0_1.out HB.out) | (with_reducible refine Kd.C_alloc ?_ _) | (with_reducible refine Kd.C_drewN ?_ _) | (with_reducible refine Kd.C_drew ?_)))
     (case side2 => exact HC0_1.out)
     (case side3 => exact GV.below hgv (hs_))
     rintro e w25 ⟨rfl, hb⟩; refine ⟨_, rfl, ?_⟩; replace BK101 := ab_ BK101 hb; replace HB := Aside0.mk (below_step (hs_) hb); (try clear hb)
     (try clear hb2)
     (try clear hk)
     (try clear hi)
     refine hK.out _ _ ⟨(blk_cell BK101.out 0).trans rfl, (blk_cell BK101.out 1).trans rfl, (blk_cell BK101.out 2).trans rfl, (blk_cell BK101.out 3).trans rfl, (blk_cell BK101.out 4).trans rfl, (blk_cell BK101.out 5).trans rfl, (blk_cell BK101.out 6).trans rfl, (blk_cell BK101.out 7).trans rfl, (blk_cell BK101.out 8).trans rfl, (blk_cell BK101.out 9).trans rfl, (blk_cell BK101.out 10).trans rfl⟩ (fun hHeld => ?_); clear hK K; refine norm_ (a' := ?_) ?_ ?_; rotate_left
     ·show Act.put _ (some 31) _ = _
      simp only [Act.put, List.setIfInBounds_toArray, List.set_cons_zero, List.set_cons_succ, i64_w, i32_w]; rfl
     refine one_ (i := 3) (N := some 33) (bs 15 15) rfl rfl (one_of HT_.out (by kernel_rfl)) (by decide) (fun K hK => ?_); refine goes_ Tryz.func19 (by kernel_rfl) rfl #[.agg #[.string a0_0, .slice A0_1 l0_1.length c0_1, .string a0_2, .string a0_3, .int .i64 a0_4, .int .i64 a0_5, .string a0_6, .string a0_7, .int .i64 a0_8, .int .i64 a0_9, .string a0_10]] (by rfl) rfl rfl z5_ ?_
     with_reducible refine (graftageref16_Check.calls kj1 a0_0 _ _ l0_1 a0_2 a0_3 a0_4 a0_5 a0_6 a0_7 a0_8 a0_9 a0_10 t108 _ ?side1 ?side2 A18.out).mono ?_
     (case side1 => repeat (first | exact (Kd.C_below HR0_1.out HB.out) | (with_reducible refine Kd.C_alloc ?_ _) | (with_reducible refine Kd.C_drewN ?_ _) | (with_reducible refine Kd.C_drew ?_)))
     (case side2 => exact HC0_1.out)
     rintro e w26 ⟨rfl, hb⟩; refine ⟨_, rfl, ?_⟩; replace BK101 := ab_ BK101 hb; replace HB := Aside0.mk (below_step (hs_) hb); (try clear hb)
     (try clear hb2)
     (try clear hk)
     (try clear hi)
     refine hK.out _ _ ⟨(blk_cell BK101.out 0).trans rfl, (blk_cell BK101.out 1).trans rfl, (blk_cell BK101.out 2).trans rfl, (blk_cell BK101.out 3).trans rfl, (blk_cell BK101.out 4).trans rfl, (blk_cell BK101.out 5).trans rfl, (blk_cell BK101.out 6).trans rfl, (blk_cell BK101.out 7).trans rfl, (blk_cell BK101.out 8).trans rfl, (blk_cell BK101.out 9).trans rfl, (blk_cell BK101.out 10).trans rfl⟩ (fun hHeld => ?_); clear hK K; refine norm_ (a' := ?_) ?_ ?_; rotate_left
     ·show Act.put _ (some 33) _ = _
      simp only [Act.put, List.setIfInBounds_toArray, List.set_cons_zero, List.set_cons_succ, i64_w, i32_w]; rfl
     refine pu_ (i := 4) (N := some 34) (bs 15 31) rfl rfl ?_; refine pu_ (i := 5) (N := some 35) (bs 15 63) rfl rfl ?_; refine pu_ (i := 6) (N := some 36) (bs 15 127) rfl rfl ?_; refine pu_ (i := 7) (N := some 37) (bs 15 255) rfl rfl ?_; refine pu_ (i := 8) (N := some 38) (bs 15 511) rfl rfl ?_; refine pu_ (i := 9) (N := some 39) (bs 15 1023) rfl rfl ?_; refine pu_ (i := 10) (N := some 40) (bs 15 2047) rfl rfl ?_; refine pn_ (i := 11) (N := some 41) (bs 15 4095) rfl rfl ?_; refine pn_ (i := 12) (N := some 42) (bs 15 8191) rfl rfl ?_; refine pn_ (i := 13) (N := some 43) (bs 15 16383) rfl rfl ?_; refine pu_ (i := 14) (N := some 44) (bs 15 32767) rfl rfl ?_; refine done_ (done_of HT_.out (by kernel_rfl)) ?_; try go_wp2
     go_meet
     case rel => exact ⟨_, (true), z1_, H', ⟨by have := HJ1.out; first | omega | exact Nat.le_refl _⟩, ⟨bk_ BK101.out⟩, ⟨hs_⟩⟩
    rw [if_pos c20] at H; have c20b0 := beq_iff_eq.mpr c20; have c20b1 := bne_eq_false_iff_eq.mpr c20; clear c20; have H' := Aside0.mk H; clear H; try go_wp2
    replace BK101 := Aside0.mk (blk_drew BK101.out); replace HB := Aside0.mk (below_drew1 HB.out); refine start_ (n := 15) (S := fun w' => w'.cell? ⟨gb101, 0, none⟩ = some (.string a0_0) ∧ w'.cell? ⟨gb101, 1, none⟩ = some (.slice A0_1 l0_1.length c0_1) ∧ w'.cell? ⟨gb101, 2, none⟩ = some (.string a0_2) ∧ w'.cell? ⟨gb101, 3, none⟩ = some (.string a0_3) ∧ w'.cell? ⟨gb101, 4, none⟩ = some (.int .i64 a0_4) ∧ w'.cell? ⟨gb101, 5, none⟩ = some (.int .i64 a0_5) ∧ w'.cell? ⟨gb101, 6, none⟩ = some (.string a0_6) ∧ w'.cell? ⟨gb101, 7, none⟩ = some (.string a0_7) ∧ w'.cell? ⟨gb101, 8, none⟩ = some (.int .i64 a0_8) ∧ w'.cell? ⟨gb101, 9, none⟩ = some (.int .i64 a0_9) ∧ w'.cell? ⟨gb101, 10, none⟩ = some (.string a0_10)) (ds := []) (bs 15 0) (by kernel_rfl) rfl rfl ⟨(blk_cell BK101.out 0).trans rfl, (blk_cell BK101.out 1).trans rfl, (blk_cell BK101.out 2).trans rfl, (blk_cell BK101.out 3).trans rfl, (blk_cell BK101.out 4).trans rfl, (blk_cell BK101.out 5).trans rfl, (blk_cell BK101.out 6).trans rfl, (blk_cell BK101.out 7).trans rfl, (blk_cell BK101.out 8).trans rfl, (blk_cell BK101.out 9).trans rfl, (blk_cell BK101.out 10).trans rfl⟩ (fun hHeld => ?_); refine with_tabW graftagelaw16_CommitBodies.tab5 graftagelaw16_CommitBodies.bits5 (fun HT_ HW_ => ?_); generalize w16.drew = w21 at BK101 HB hHeld ⊢; refine tkW11_ (i := 0) (N := some 30) (bs 15 1) rfl rfl hHeld ?_; refine tkW11_ (i := 2) (N := some 32) (bs 15 5) rfl rfl hHeld ?_; refine one_ (i := 1) (N := some 31) (bs 15 7) rfl rfl (one_of HT_.out (by kernel_rfl)) (by decide) (fun K hK => ?_); refine goes_ Tryz.func18 (by kernel_rfl) rfl #[.agg #[.string a0_0, .slice A0_1 l0_1.length c0_1, .string a0_2, .string a0_3, .int .i64 a0_4, .int .i64 a0_5, .string a0_6, .string a0_7, .int .i64 a0_8, .int .i64 a0_9, .string a0_10]] (by rfl) rfl rfl z5_ ?_
    with_reducible refine (commit_Check.calls kj1 a0_0 _ _ l0_1 a0_2 a0_3 a0_4 a0_5 a0_6 a0_7 a0_8 a0_9 a0_10 t107 _ ?side1 ?side2 ?side3 A17.out).mono ?_
    (case side1 => repeat (first | exact (Kd.C_below HR0_1.out HB.out) | (with_reducible refine Kd.C_alloc ?_ _) | (with_reducible refine Kd.C_drewN ?_ _) | (with_reducible refine Kd.C_drew ?_)))
    (case side2 => exact HC0_1.out)
    (case side3 => exact GV.below hgv (hs_))
    rintro e w22 ⟨rfl, hb⟩; refine ⟨_, rfl, ?_⟩; replace BK101 := ab_ BK101 hb; replace HB := Aside0.mk (below_step (hs_) hb); (try clear hb)
    (try clear hb2)
    (try clear hk)
    (try clear hi)
    refine hK.out _ _ ⟨(blk_cell BK101.out 0).trans rfl, (blk_cell BK101.out 1).trans rfl, (blk_cell BK101.out 2).trans rfl, (blk_cell BK101.out 3).trans rfl, (blk_cell BK101.out 4).trans rfl, (blk_cell BK101.out 5).trans rfl, (blk_cell BK101.out 6).trans rfl, (blk_cell BK101.out 7).trans rfl, (blk_cell BK101.out 8).trans rfl, (blk_cell BK101.out 9).trans rfl, (blk_cell BK101.out 10).trans rfl⟩ (fun hHeld => ?_); clear hK K; refine norm_ (a' := ?_) ?_ ?_; rotate_left
    ·show Act.put _ (some 31) _ = _
     simp only [Act.put, List.setIfInBounds_toArray, List.set_cons_zero, List.set_cons_succ, i64_w, i32_w]; rfl
    refine one_ (i := 3) (N := some 33) (bs 15 15) rfl rfl (one_of HT_.out (by kernel_rfl)) (by decide) (fun K hK => ?_); refine goes_ Tryz.func19 (by kernel_rfl) rfl #[.agg #[.string a0_0, .slice A0_1 l0_1.length c0_1, .string a0_2, .string a0_3, .int .i64 a0_4, .int .i64 a0_5, .string a0_6, .string a0_7, .int .i64 a0_8, .int .i64 a0_9, .string a0_10]] (by rfl) rfl rfl z5_ ?_
    with_reducible refine (graftageref16_Check.calls kj1 a0_0 _ _ l0_1 a0_2 a0_3 a0_4 a0_5 a0_6 a0_7 a0_8 a0_9 a0_10 t108 _ ?side1 ?side2 A18.out).mono ?_
    (case side1 => repeat (first | exact (Kd.C_below HR0_1.out HB.out) | (with_reducible refine Kd.C_alloc ?_ _) | (with_reducible refine Kd.C_drewN ?_ _) | (with_reducible refine Kd.C_drew ?_)))
    (case side2 => exact HC0_1.out)
    rintro e w23 ⟨rfl, hb⟩; refine ⟨_, rfl, ?_⟩; replace BK101 := ab_ BK101 hb; replace HB := Aside0.mk (below_step (hs_) hb); (try clear hb)
    (try clear hb2)
    (try clear hk)
    (try clear hi)
    refine hK.out _ _ ⟨(blk_cell BK101.out 0).trans rfl, (blk_cell BK101.out 1).trans rfl, (blk_cell BK101.out 2).trans rfl, (blk_cell BK101.out 3).trans rfl, (blk_cell BK101.out 4).trans rfl, (blk_cell BK101.out 5).trans rfl, (blk_cell BK101.out 6).trans rfl, (blk_cell BK101.out 7).trans rfl, (blk_cell BK101.out 8).trans rfl, (blk_cell BK101.out 9).trans rfl, (blk_cell BK101.out 10).trans rfl⟩ (fun hHeld => ?_); clear hK K; refine norm_ (a' := ?_) ?_ ?_; rotate_left
    ·show Act.put _ (some 33) _ = _
     simp only [Act.put, List.setIfInBounds_toArray, List.set_cons_zero, List.set_cons_succ, i64_w, i32_w]; rfl
    refine pu_ (i := 4) (N := some 34) (bs 15 31) rfl rfl ?_; refine pu_ (i := 5) (N := some 35) (bs 15 63) rfl rfl ?_; refine pu_ (i := 6) (N := some 36) (bs 15 127) rfl rfl ?_; refine pu_ (i := 7) (N := some 37) (bs 15 255) rfl rfl ?_; refine pu_ (i := 8) (N := some 38) (bs 15 511) rfl rfl ?_; refine pu_ (i := 9) (N := some 39) (bs 15 1023) rfl rfl ?_; refine pu_ (i := 10) (N := some 40) (bs 15 2047) rfl rfl ?_; refine pu_ (i := 11) (N := some 41) (bs 15 4095) rfl rfl ?_; refine pu_ (i := 12) (N := some 42) (bs 15 8191) rfl rfl ?_; refine pu_ (i := 13) (N := some 43) (bs 15 16383) rfl rfl ?_; refine pu_ (i := 14) (N := some 44) (bs 15 32767) rfl rfl ?_; refine done_ (done_of HT_.out (by kernel_rfl)) ?_; try go_wp2
    go_meet
    case rel => exact ⟨_, ((t104 != t106)), z1_, H', ⟨by have := HJ1.out; first | omega | exact Nat.le_refl _⟩, ⟨bk_ BK101.out⟩, ⟨hs_⟩⟩
   case rest =>
    clear HC12; try clear c1
    try clear c2
    try clear p2
    try clear c7
    try clear c15
    try clear c16
    try clear c17
    try clear c18
    try clear c19
    try clear c19b0
    try clear c19b1
    try clear c20
    try clear c20b0
    try clear c20b1
    try clear Z13_0 Z13_1 Z13_10 Z13_2 Z13_3 Z13_4 Z13_5 Z13_6 Z13_7 Z13_8 Z13_9
    try clear Z15_0 Z15_1 Z15_10 Z15_2 Z15_3 Z15_4 Z15_5 Z15_6 Z15_7 Z15_8 Z15_9
    try clear Z6_7 Z6_8 Z6_9
    try clear F13_0 F13_1 F13_10 F13_2 F13_3 F13_4 F13_5 F13_6 F13_7 F13_8 F13_9
    try clear F15_0 F15_1 F15_10 F15_2 F15_3 F15_4 F15_5 F15_6 F15_7 F15_8 F15_9
    try clear F5_0 F5_1 F5_10 F5_2 F5_3 F5_4 F5_5 F5_6 F5_7 F5_8 F5_9
    try clear F6_0 F6_1 F6_10 F6_2 F6_3 F6_4 F6_5 F6_6 F6_7 F6_8 F6_9
    obtain ⟨kq, x44_11, rfl, HA, HJ11, BK101, HB⟩ := hcut
    cases kq with
    | zero => exact absurd HA.out (by simp [graftagelaw16_CommitBodies.j1])
    | succ kj11 =>
     have H := HA.out; clear HA; simp only [graftagelaw16_CommitBodies.j1] at H; by_cases c30 : x44_11 = true
     ·subst c30; rw [if_pos rfl] at H; obtain rfl := Option.some.inj H; go_wp2
      go_ret
      exact ⟨z3_, hs_⟩
     replace c30 := Bool.eq_false_iff.mpr c30; subst c30; rw [if_neg nft_] at H; by_cases c31 : t104 = 0; rotate_left
     ·rw [if_neg c31] at H; have c31b0 := beq_eq_false_iff_ne.mpr c31; have c31b1 := bne_iff_ne.mpr c31; replace H := Option.bind_eq_some_iff.mp H; obtain ⟨t126, A580, H⟩ := H; have A58 := Aside0.mk A580; clear A580; obtain rfl := Option.some.inj H; go_wp2_with (first | ((with_reducible refine gate_callee (f := 15) rfl ?_); refine gl_ (some 47) Tryz.func15 #[] ?_; (with_reducible refine (graftagelaw16_lives.calls kj11  t126 _ ?side1 A58.out).mono ?_); (case side1 => exact GV.below hgv (hs_)); rintro e w59 ⟨rfl, hb⟩; refine ⟨_, rfl, ?_⟩; replace BK101 := ab_ BK101 hb; replace HB := Aside0.mk (below_step (hs_) hb); (try clear hb); (try clear hb2); (try clear hk); (try clear hi)))
      go_ret
      exact ⟨z3_, hs_⟩
     rw [if_pos c31] at H; have c31b0 := beq_iff_eq.mpr c31; have c31b1 := bne_eq_false_iff_eq.mpr c31; clear c31; replace H := Option.bind_eq_some_iff.mp H; obtain ⟨⟨t109, t110, t113, t114, t115, t116, t117, t118, t119, t120, t121, t122⟩, A320, H⟩ := H; dsimp only at H; have A32 := Aside0.mk A320; clear A320; replace H := Option.bind_eq_some_iff.mp H; obtain ⟨t124, A330, H⟩ := H; have A33 := Aside0.mk A330; clear A330; by_cases c34 : t124 = true; rotate_left
     ·replace c34 := Bool.eq_false_iff.mpr c34; subst c34; rw [if_neg nft_] at H; obtain rfl := Option.some.inj H; go_wp2_with (first | ((with_reducible refine gate_callee (f := 20) rfl ?_); refine gl_ (some 50) Tryz.func20 #[.string t103] ?_; (with_reducible refine (commit_Parse.calls kj11 t103 t109 t110 t113 t114 t115 t116 t117 t118 t119 t120 t121 t122 _ ?side1 A32.out).mono ?_); (case side1 => exact GV.below hgv (hs_)); rintro e w52 ⟨v111, rfl, ho0, hb⟩; refine ⟨_, rfl, ?_⟩; have HO112 := Aside0.mk (Kd.R_lower ho0 (below_size (hs_))); replace BK101 := ab_ BK101 hb; replace HB := Aside0.mk (below_step (hs_) hb); (try clear hb); (try clear hb2); (try clear hk); (try clear hi); (try clear ho0)) | ((with_reducible refine gate_dst (N := 7) rfl ?_); (try (refine gate_guard (by rfl) ?_; dsimp only)); refine be_ (cs := #[.string ⟨#[]⟩, .slice none 0 0, .string ⟨#[]⟩, .string ⟨#[]⟩, .int .i64 0, .int .i64 0, .string ⟨#[]⟩, .string ⟨#[]⟩, .int .i64 0, .int .i64 0, .string ⟨#[]⟩]) (t := 26) ?_; intro gb123 hg w53 hbox hb; replace HO112 := Aside0.mk (Kd.R_below (rk_ HO112.out) hb); have BK123 := Aside0.mk (hbox); have GW123 := Aside0.mk ((by rw [hg]; exact (below_size (hs_)) : w.heap.size ≤ gb123)); have GE123 := Aside0.mk ((by rw [hg]; exact (below_size (hs_)) : w.heap.size ≤ gb123)); replace HB := Aside0.mk (below_step (hs_) hb); have NB101_123 := Aside0.mk (nl2_ hg BK101.out); have NB123_101 := Aside0.mk (ng2_ hg BK101.out); replace BK101 := ab_ BK101 hb; clear hb hbox hg; have hnb54 := NB123_101.out; have hnc54 := NB101_123.out; obtain ⟨Z55_0, Z55_1, Z55_2, Z55_3, Z55_4, Z55_5, Z55_6, Z55_7, Z55_8, Z55_9, Z55_10, F55_0, F55_1, F55_2, F55_3, F55_4, F55_5, F55_6, F55_7, F55_8, F55_9, F55_10⟩ := bc11 BK123.out; obtain ⟨Ao56, co56, eo56⟩ := Kd.R_slice HO112.out; subst eo56) | ((with_reducible refine gate_callee (f := 15) rfl ?_); refine gl_ (some 53) Tryz.func15 #[] ?_; (with_reducible refine (graftagelaw16_lives.calls kj11  false _ ?side1 A33.out).mono ?_); (case side1 => exact GV.below hgv (hs_)); rintro e w57 ⟨rfl, hb⟩; refine ⟨_, rfl, ?_⟩; replace HO112 := Aside0.mk (Kd.R_below (by (with_reducible repeat (first | apply Kd.R_alloc | apply Kd.R_drewN | apply Kd.R_drew)); exact (Kd.R_mono (Kd.R_far (p := ⟨gb123, 10, none⟩) (Kd.R_far (p := ⟨gb123, 9, none⟩) (Kd.R_far (p := ⟨gb123, 8, none⟩) (Kd.R_far (p := ⟨gb123, 7, none⟩) (Kd.R_far (p := ⟨gb123, 6, none⟩) (Kd.R_far (p := ⟨gb123, 5, none⟩) (Kd.R_far (p := ⟨gb123, 4, none⟩) (Kd.R_far (p := ⟨gb123, 3, none⟩) (Kd.R_far (p := ⟨gb123, 2, none⟩) (Kd.R_far (p := ⟨gb123, 1, none⟩) (Kd.R_far (p := ⟨gb123, 0, none⟩) (Kd.R_types HO112.out BK123.out (by decide)) (fun _ hk => hk.2) (.string t109)) (fun _ hk => hk.2) (.slice Ao56 t110.length co56)) (fun _ hk => hk.2) (.string t113)) (fun _ hk => hk.2) (.string t114)) (fun _ hk => hk.2) (.int .i64 t115)) (fun _ hk => hk.2) (.int .i64 t116)) (fun _ hk => hk.2) (.string t117)) (fun _ hk => hk.2) (.string t118)) (fun _ hk => hk.2) (.int .i64 t119)) (fun _ hk => hk.2) (.int .i64 t120)) (fun _ hk => hk.2) (.string t121)) (fun _ h_ => h_.1))) hb); replace BK101 := Aside0.mk (blk_below (g := gb101) (o := .cells #[.string a0_0, .slice A0_1 l0_1.length c0_1, .string a0_2, .string a0_3, .int .i64 a0_4, .int .i64 a0_5, .string a0_6, .string a0_7, .int .i64 a0_8, .int .i64 a0_9, .string a0_10] 26 (0, 0)) (by have b_ := BK101; have f_ := NB101_123; exact zb_) hb); replace BK123 := Aside0.mk (blk_below (g := gb123) (o := .cells #[.string t109, .slice Ao56 t110.length co56, .string t113, .string t114, .int .i64 t115, .int .i64 t116, .string t117, .string t118, .int .i64 t119, .int .i64 t120, .string t121] 26 (0, 0)) (by have b_ := BK123; exact zb_) hb); replace HB := Aside0.mk (below_step (hs_) hb); (try clear hb); (try clear hb2); (try clear hk); (try clear hi)))
      go_ret
      exact ⟨z3_, hs_⟩
     subst c34; rw [if_pos rfl] at H; by_cases c35 : t122 = 0; rotate_left
     ·rw [if_neg c35] at H; have c35b0 := beq_eq_false_iff_ne.mpr c35; have c35b1 := bne_iff_ne.mpr c35; obtain rfl := Option.some.inj H; go_wp2_with (first | ((with_reducible refine gate_callee (f := 20) rfl ?_); refine gl_ (some 50) Tryz.func20 #[.string t103] ?_; (with_reducible refine (commit_Parse.calls kj11 t103 t109 t110 t113 t114 t115 t116 t117 t118 t119 t120 t121 t122 _ ?side1 A32.out).mono ?_); (case side1 => exact GV.below hgv (hs_)); rintro e w46 ⟨v111, rfl, ho0, hb⟩; refine ⟨_, rfl, ?_⟩; have HO112 := Aside0.mk (Kd.R_lower ho0 (below_size (hs_))); replace BK101 := ab_ BK101 hb; replace HB := Aside0.mk (below_step (hs_) hb); (try clear hb); (try clear hb2); (try clear hk); (try clear hi); (try clear ho0)) | ((with_reducible refine gate_dst (N := 7) rfl ?_); (try (refine gate_guard (by rfl) ?_; dsimp only)); refine be_ (cs := #[.string ⟨#[]⟩, .slice none 0 0, .string ⟨#[]⟩, .string ⟨#[]⟩, .int .i64 0, .int .i64 0, .string ⟨#[]⟩, .string ⟨#[]⟩, .int .i64 0, .int .i64 0, .string ⟨#[]⟩]) (t := 26) ?_; intro gb123 hg w47 hbox hb; replace HO112 := Aside0.mk (Kd.R_below (rk_ HO112.out) hb); have BK123 := Aside0.mk (hbox); have GW123 := Aside0.mk ((by rw [hg]; exact (below_size (hs_)) : w.heap.size ≤ gb123)); have GE123 := Aside0.mk ((by rw [hg]; exact (below_size (hs_)) : w.heap.size ≤ gb123)); replace HB := Aside0.mk (below_step (hs_) hb); have NB101_123 := Aside0.mk (nl2_ hg BK101.out); have NB123_101 := Aside0.mk (ng2_ hg BK101.out); replace BK101 := ab_ BK101 hb; clear hb hbox hg; have hnb48 := NB123_101.out; have hnc48 := NB101_123.out; obtain ⟨Z49_0, Z49_1, Z49_2, Z49_3, Z49_4, Z49_5, Z49_6, Z49_7, Z49_8, Z49_9, Z49_10, F49_0, F49_1, F49_2, F49_3, F49_4, F49_5, F49_6, F49_7, F49_8, F49_9, F49_10⟩ := bc11 BK123.out; obtain ⟨Ao50, co50, eo50⟩ := Kd.R_slice HO112.out; subst eo50) | ((with_reducible refine gate_callee (f := 15) rfl ?_); refine gl_ (some 53) Tryz.func15 #[] ?_; (with_reducible refine (graftagelaw16_lives.calls kj11  true _ ?side1 A33.out).mono ?_); (case side1 => exact GV.below hgv (hs_)); rintro e w51 ⟨rfl, hb⟩; refine ⟨_, rfl, ?_⟩; replace HO112 := Aside0.mk (Kd.R_below (by (with_reducible repeat (first | apply Kd.R_alloc | apply Kd.R_drewN | apply Kd.R_drew)); exact (Kd.R_mono (Kd.R_far (p := ⟨gb123, 10, none⟩) (Kd.R_far (p := ⟨gb123, 9, none⟩) (Kd.R_far (p := ⟨gb123, 8, none⟩) (Kd.R_far (p := ⟨gb123, 7, none⟩) (Kd.R_far (p := ⟨gb123, 6, none⟩) (Kd.R_far (p := ⟨gb123, 5, none⟩) (Kd.R_far (p := ⟨gb123, 4, none⟩) (Kd.R_far (p := ⟨gb123, 3, none⟩) (Kd.R_far (p := ⟨gb123, 2, none⟩) (Kd.R_far (p := ⟨gb123, 1, none⟩) (Kd.R_far (p := ⟨gb123, 0, none⟩) (Kd.R_types HO112.out BK123.out (by decide)) (fun _ hk => hk.2) (.string t109)) (fun _ hk => hk.2) (.slice Ao50 t110.length co50)) (fun _ hk => hk.2) (.string t113)) (fun _ hk => hk.2) (.string t114)) (fun _ hk => hk.2) (.int .i64 t115)) (fun _ hk => hk.2) (.int .i64 t116)) (fun _ hk => hk.2) (.string t117)) (fun _ hk => hk.2) (.string t118)) (fun _ hk => hk.2) (.int .i64 t119)) (fun _ hk => hk.2) (.int .i64 t120)) (fun _ hk => hk.2) (.string t121)) (fun _ h_ => h_.1))) hb); replace BK101 := Aside0.mk (blk_below (g := gb101) (o := .cells #[.string a0_0, .slice A0_1 l0_1.length c0_1, .string a0_2, .string a0_3, .int .i64 a0_4, .int .i64 a0_5, .string a0_6, .string a0_7, .int .i64 a0_8, .int .i64 a0_9, .string a0_10] 26 (0, 0)) (by have b_ := BK101; have f_ := NB101_123; exact zb_) hb); replace BK123 := Aside0.mk (blk_below (g := gb123) (o := .cells #[.string t109, .slice Ao50 t110.length co50, .string t113, .string t114, .int .i64 t115, .int .i64 t116, .string t117, .string t118, .int .i64 t119, .int .i64 t120, .string t121] 26 (0, 0)) (by have b_ := BK123; exact zb_) hb); replace HB := Aside0.mk (below_step (hs_) hb); (try clear hb); (try clear hb2); (try clear hk); (try clear hi)))
      go_ret
      exact ⟨z3_, hs_⟩
     rw [if_pos c35] at H; have c35b0 := beq_iff_eq.mpr c35; have c35b1 := bne_eq_false_iff_eq.mpr c35; clear c35; replace H := Option.bind_eq_some_iff.mp H; obtain ⟨t125, A360, H⟩ := H; have A36 := Aside0.mk A360; clear A360; obtain rfl := Option.some.inj H; go_wp2_with (first | ((with_reducible refine gate_callee (f := 20) rfl ?_); refine gl_ (some 50) Tryz.func20 #[.string t103] ?_; (with_reducible refine (commit_Parse.calls kj11 t103 t109 t110 t113 t114 t115 t116 t117 t118 t119 t120 t121 t122 _ ?side1 A32.out).mono ?_); (case side1 => exact GV.below hgv (hs_)); rintro e w37 ⟨v111, rfl, ho0, hb⟩; refine ⟨_, rfl, ?_⟩; have HO112 := Aside0.mk (Kd.R_lower ho0 (below_size (hs_))); replace BK101 := ab_ BK101 hb; replace HB := Aside0.mk (below_step (hs_) hb); (try clear hb); (try clear hb2); (try clear hk); (try clear hi); (try clear ho0)) | ((with_reducible refine gate_dst (N := 7) rfl ?_); (try (refine gate_guard (by rfl) ?_; dsimp only)); refine be_ (cs := #[.string ⟨#[]⟩, .slice none 0 0, .string ⟨#[]⟩, .string ⟨#[]⟩, .int .i64 0, .int .i64 0, .string ⟨#[]⟩, .string ⟨#[]⟩, .int .i64 0, .int .i64 0, .string ⟨#[]⟩]) (t := 26) ?_; intro gb123 hg w38 hbox hb; replace HO112 := Aside0.mk (Kd.R_below (rk_ HO112.out) hb); have BK123 := Aside0.mk (hbox); have GW123 := Aside0.mk ((by rw [hg]; exact (below_size (hs_)) : w.heap.size ≤ gb123)); have GE123 := Aside0.mk ((by rw [hg]; exact (below_size (hs_)) : w.heap.size ≤ gb123)); replace HB := Aside0.mk (below_step (hs_) hb); have NB101_123 := Aside0.mk (nl2_ hg BK101.out); have NB123_101 := Aside0.mk (ng2_ hg BK101.out); replace BK101 := ab_ BK101 hb; clear hb hbox hg; have hnb39 := NB123_101.out; have hnc39 := NB101_123.out; obtain ⟨Z40_0, Z40_1, Z40_2, Z40_3, Z40_4, Z40_5, Z40_6, Z40_7, Z40_8, Z40_9, Z40_10, F40_0, F40_1, F40_2, F40_3, F40_4, F40_5, F40_6, F40_7, F40_8, F40_9, F40_10⟩ := bc11 BK123.out; obtain ⟨Ao41, co41, eo41⟩ := Kd.R_slice HO112.out; subst eo41) | ((with_reducible refine gate_callee (f := 15) rfl ?_); refine gl_ (some 53) Tryz.func15 #[] ?_; (with_reducible refine (graftagelaw16_lives.calls kj11  true _ ?side1 A33.out).mono ?_); (case side1 => exact GV.below hgv (hs_)); rintro e w42 ⟨rfl, hb⟩; refine ⟨_, rfl, ?_⟩; replace HO112 := Aside0.mk (Kd.R_below (by (with_reducible repeat (first | apply Kd.R_alloc | apply Kd.R_drewN | apply Kd.R_drew)); exact (Kd.R_mono (Kd.R_far (p := ⟨gb123, 10, none⟩) (Kd.R_far (p := ⟨gb123, 9, none⟩) (Kd.R_far (p := ⟨gb123, 8, none⟩) (Kd.R_far (p := ⟨gb123, 7, none⟩) (Kd.R_far (p := ⟨gb123, 6, none⟩) (Kd.R_far (p := ⟨gb123, 5, none⟩) (Kd.R_far (p := ⟨gb123, 4, none⟩) (Kd.R_far (p := ⟨gb123, 3, none⟩) (Kd.R_far (p := ⟨gb123, 2, none⟩) (Kd.R_far (p := ⟨gb123, 1, none⟩) (Kd.R_far (p := ⟨gb123, 0, none⟩) (Kd.R_types HO112.out BK123.out (by decide)) (fun _ hk => hk.2) (.string t109)) (fun _ hk => hk.2) (.slice Ao41 t110.length co41)) (fun _ hk => hk.2) (.string t113)) (fun _ hk => hk.2) (.string t114)) (fun _ hk => hk.2) (.int .i64 t115)) (fun _ hk => hk.2) (.int .i64 t116)) (fun _ hk => hk.2) (.string t117)) (fun _ hk => hk.2) (.string t118)) (fun _ hk => hk.2) (.int .i64 t119)) (fun _ hk => hk.2) (.int .i64 t120)) (fun _ hk => hk.2) (.string t121)) (fun _ h_ => h_.1))) hb); replace BK101 := Aside0.mk (blk_below (g := gb101) (o := .cells #[.string a0_0, .slice A0_1 l0_1.length c0_1, .string a0_2, .string a0_3, .int .i64 a0_4, .int .i64 a0_5, .string a0_6, .string a0_7, .int .i64 a0_8, .int .i64 a0_9, .string a0_10] 26 (0, 0)) (by have b_ := BK101; have f_ := NB101_123; exact zb_) hb); replace BK123 := Aside0.mk (blk_below (g := gb123) (o := .cells #[.string t109, .slice Ao41 t110.length co41, .string t113, .string t114, .int .i64 t115, .int .i64 t116, .string t117, .string t118, .int .i64 t119, .int .i64 t120, .string t121] 26 (0, 0)) (by have b_ := BK123; exact zb_) hb); replace HB := Aside0.mk (below_step (hs_) hb); (try clear hb); (try clear hb2); (try clear hk); (try clear hi); obtain ⟨Z43_0, Z43_1, Z43_2, Z43_3, Z43_4, Z43_5, Z43_6, Z43_7, Z43_8, Z43_9, Z43_10, F43_0, F43_1, F43_2, F43_3, F43_4, F43_5, F43_6, F43_7, F43_8, F43_9, F43_10⟩ := bc11 BK101.out; obtain ⟨Z44_0, Z44_1, Z44_2, Z44_3, Z44_4, Z44_5, Z44_6, Z44_7, Z44_8, Z44_9, Z44_10, F44_0, F44_1, F44_2, F44_3, F44_4, F44_5, F44_6, F44_7, F44_8, F44_9, F44_10⟩ := bc11 BK123.out) | (go_at_call 21; (with_reducible refine (graftageref16_Same.calls kj11 a0_0 _ _ l0_1 a0_2 a0_3 a0_4 a0_5 a0_6 a0_7 a0_8 a0_9 a0_10 t109 _ _ t110 t113 t114 t115 t116 t117 t118 t119 t120 t121 t125 _ ?side1 ?side2 ?side3 ?side4 A36.out).mono ?_); (case side1 => repeat (first | exact (Kd.C_below HR0_1.out HB.out) | (with_reducible refine Kd.C_alloc ?_ _) | (with_reducible refine Kd.C_drewN ?_ _) | (with_reducible refine Kd.C_drew ?_))); (case side2 => exact HC0_1.out); (case side3 => repeat (first | exact (Kd.R_reads' HO112.out).2.2 | (with_reducible refine Kd.C_alloc ?_ _) | (with_reducible refine Kd.C_drewN ?_ _) | (with_reducible refine Kd.C_drew ?_))); (case side4 => exact (Kd.R_reads' HO112.out).2.1); rintro e w45 ⟨rfl, hb⟩; replace HO112 := Aside0.mk (Kd.R_below (rk_ HO112.out) hb); replace BK101 := ab_ BK101 hb; replace BK123 := ab_ BK123 hb; replace HB := Aside0.mk (below_step (hs_) hb); (try clear hb); (try clear hb2); (try clear hk); (try clear hi)))
     go_ret
     exact ⟨z3_, hs_⟩

end Go.Proofs.YtbhfbbfjdklfgaaGreatDoor.Q


/- Persons' words: cuts, digits and zones over lists of bytes. -/
namespace Go.Proofs.YtbhfbbfjdklfgaaGreatDoor.Q
open Go.RowKit Go.Proofs.YtbhfbbfjdklfgaaGreatDoorW.PrintWords Go.Proofs.YtbhfbbfjdklfgaaGreatDoorW.PrintLast Go.Proofs.YtbhfbbfjdklfgaaGreatDoorW.PrintMore
def mk (l : List UInt8) : ByteArray := ⟨l.toArray⟩
theorem mk_data (l : List UInt8) : (mk l).data.toList = l := by simp [mk]
theorem mk_of (s : ByteArray) : mk s.data.toList = s := ba_ext (mk_data _)
theorem mk_toList (l : List UInt8) : (mk l).toList = l := by rw [ByteArray.toList_eq, mk_data]
theorem mk_size (l : List UInt8) : (mk l).size = l.length := by rw [Lib.size_eq, mk_data]
theorem mk_app (a b : List UInt8) : mk a ++ mk b = mk (a ++ b) := ba_ext (by rw [append_data, mk_data, mk_data, mk_data])
theorem size_of (s : ByteArray) : s.data.toList.length = s.size := (Lib.size_eq s).symm
theorem index_cons_hit {b : UInt8} {l s : List UInt8} (h : s.isPrefixOf (b :: l) = true) : Lib.index (b :: l) s = 0 := by rw [Lib.index, if_pos h]
theorem index_cons_miss {b : UInt8} {l s : List UInt8} (h : s.isPrefixOf (b :: l) = false) : Lib.index (b :: l) s = if Lib.index l s == -1 then -1 else Lib.index l s + 1 := by rw [Lib.index, if_neg (by simp [h])]
/-- where it is found, it stands, and not before -/
theorem index_spec (s : List UInt8) (hs : s ≠ []) : ∀ l : List UInt8, 0 ≤ Lib.index l s → ∃ a b, l = a ++ s ++ b ∧ Lib.index l s = a.length
  | [], h => by
    rw [Lib.index, if_neg (by simp [hs])] at h; omega
  | c :: l, h => by
    by_cases hp : s.isPrefixOf (c :: l) = true
    · obtain ⟨t, ht⟩ := List.isPrefixOf_iff_prefix.1 hp
      exact ⟨[], t, by simp [ht], by rw [index_cons_hit hp]; rfl⟩
    · rw [Bool.not_eq_true] at hp
      rw [index_cons_miss hp] at h ⊢
      by_cases h1 : Lib.index l s = -1
      · rw [h1] at h; simp at h
      · obtain ⟨a, b, e, he⟩ := index_spec s hs l (by have := Lib.index_ge l s; omega)
        refine ⟨c :: a, b, by rw [e]; simp, ?_⟩
        rw [if_neg (by simpa using h1), he, List.length_cons]; omega
/-- a pair of bytes, the second of which does not stand ahead -/
theorem index_pair (x y : UInt8) (hxy : x ≠ y) : ∀ (a b : List UInt8), y ∉ a → Lib.index (a ++ x :: y :: b) [x, y] = a.length
  | [], b, _ => index_cons_hit (by simp [List.isPrefixOf])
  | c :: a, b, h => by
    have ih := index_pair x y hxy a b (fun e => h (by simp [e]))
    have hp : [x, y].isPrefixOf (c :: (a ++ x :: y :: b)) = false := by
      cases a with
      | nil => simp [List.isPrefixOf]; intro _ e; exact absurd e.symm hxy
      | cons d r => simp [List.isPrefixOf]; intro _ e; subst e; simp at h
    rw [List.cons_append, index_cons_miss hp, ih, if_neg (by simp only [beq_iff_eq]; omega), List.length_cons]
    omega
/-- a pair, the first of which does not stand ahead -/
theorem index_pair' (x y : UInt8) : ∀ (a b : List UInt8), x ∉ a → Lib.index (a ++ x :: y :: b) [x, y] = a.length
  | [], b, _ => index_cons_hit (by simp [List.isPrefixOf])
  | c :: a, b, h => by
    have ih := index_pair' x y a b (fun e => h (by simp [e]))
    have hp : [x, y].isPrefixOf (c :: (a ++ x :: y :: b)) = false := by
      simp [List.isPrefixOf]; intro e; subst e; simp at h
    rw [List.cons_append, index_cons_miss hp, ih, if_neg (by simp only [beq_iff_eq]; omega), List.length_cons]
    omega
theorem index_one (x : UInt8) : ∀ (a b : List UInt8), x ∉ a → Lib.index (a ++ x :: b) [x] = a.length
  | [], b, _ => index_cons_hit (by simp [List.isPrefixOf])
  | c :: a, b, h => by
    have ih := index_one x a b (fun e => h (by simp [e]))
    have hp : [x].isPrefixOf (c :: (a ++ x :: b)) = false := by
      simp [List.isPrefixOf]; intro e; subst e; simp at h
    rw [List.cons_append, index_cons_miss hp, ih, if_neg (by simp only [beq_iff_eq]; omega), List.length_cons]
    omega
theorem cut_of {l s : List UInt8} (h : 0 ≤ Lib.index l s) : Lib.cut l s = (l.take (Lib.index l s).toNat, l.drop ((Lib.index l s).toNat + s.length), true) := by unfold Lib.cut; rw [if_pos h]
theorem cut_no {l s : List UInt8} (h : ¬ 0 ≤ Lib.index l s) : Lib.cut l s = (l, [], false) := by unfold Lib.cut; rw [if_neg h]
theorem cut_pair (x y : UInt8) (hxy : x ≠ y) (a b : List UInt8) (h : y ∉ a) : Lib.cut (a ++ x :: y :: b) [x, y] = (a, b, true) := by
  have := index_pair x y hxy a b h
  rw [cut_of (by omega), this]
  simp [List.take_append, List.drop_append]
theorem cut_pair' (x y : UInt8) (a b : List UInt8) (h : x ∉ a) : Lib.cut (a ++ x :: y :: b) [x, y] = (a, b, true) := by
  have := index_pair' x y a b h
  rw [cut_of (by omega), this]
  simp [List.take_append, List.drop_append]
theorem cut_one (x : UInt8) (a b : List UInt8) (h : x ∉ a) : Lib.cut (a ++ x :: b) [x] = (a, b, true) := by
  have := index_one x a b h
  rw [cut_of (by omega), this]
  simp [List.take_append, List.drop_append]
/-- what a cut that was made says of the text -/
theorem cut_text {l s a b : List UInt8} (hs : s ≠ []) (h : Lib.cut l s = (a, b, true)) : l = a ++ s ++ b ∧ Lib.index l s = a.length := by
  by_cases h0 : 0 ≤ Lib.index l s
  · rw [cut_of h0] at h
    obtain ⟨h1, h2⟩ := Prod.mk.inj h
    obtain ⟨h2, _⟩ := Prod.mk.inj h2
    obtain ⟨p, q, e, he⟩ := index_spec s hs l h0
    rw [he] at h1 h2
    have e1 : p = a := by rw [← h1, e]; simp [List.take_append]
    have e2 : q = b := by rw [← h2, e]; simp [List.drop_append]
    subst e1 e2
    exact ⟨e, he⟩
  · rw [cut_no h0] at h; simp at h
def isDig (c : UInt8) : Bool := decide (48 ≤ c.toNat) && decide (c.toNat ≤ 57)
def valN (acc : Nat) (l : List UInt8) : Nat := l.foldl (fun a c => 10 * a + (c.toNat - 48)) acc
theorem valN_nil (acc : Nat) : valN acc [] = acc := by unfold valN; rw [List.foldl_nil]
theorem valN_cons (acc : Nat) (c : UInt8) (l : List UInt8) : valN acc (c :: l) = valN (10 * acc + (c.toNat - 48)) l := by unfold valN; rw [List.foldl_cons]
theorem digitVal_dig {c : UInt8} (h : isDig c = true) : Lib.digitVal c = some (c.toNat - 48) := by
  unfold isDig at h
  simp only [Bool.and_eq_true, decide_eq_true_eq] at h
  unfold Lib.digitVal
  rw [if_pos h]
theorem decFrom_val (l : List UInt8) : ∀ (acc : Nat), l.all isDig = true → Lib.decFrom acc l = some (valN acc l) := by
  induction l with
  | nil => intro acc _; rfl
  | cons c l ih =>
    intro acc h
    rw [List.all_cons, Bool.and_eq_true] at h
    rw [Lib.decFrom, digitVal_dig h.1]
    show Lib.decFrom (acc * 10 + (c.toNat - 48)) l = _
    rw [ih _ h.2, valN_cons, Nat.mul_comm]
theorem atoi_val {l : List UInt8} (hn : l ≠ []) (h : l.all isDig = true) : Lib.atoi l = some ((valN 0 l : Nat) : Int) := by
  cases l with
  | nil => exact absurd rfl hn
  | cons c r =>
    have hc : isDig c = true := by rw [List.all_cons, Bool.and_eq_true] at h; exact h.1
    unfold isDig at hc
    simp only [Bool.and_eq_true, decide_eq_true_eq] at hc
    have h1 : (c == 45) = false := by rw [beq_eq_false_iff_ne]; rintro rfl; simp at hc
    have h2 : (c == 43) = false := by rw [beq_eq_false_iff_ne]; rintro rfl; simp at hc
    rw [Lib.atoi, h1, h2]
    simp only [Bool.false_eq_true, if_false]
    unfold Lib.decNat
    rw [List.isEmpty_cons]
    simp only [Bool.false_eq_true, if_false]
    rw [decFrom_val _ _ h]; rfl
theorem valN_lt : ∀ (l : List UInt8) (acc n : Nat), l.all isDig = true → acc < 10 ^ n → valN acc l < 10 ^ (n + l.length)
  | [], acc, n, _, h => by simpa [valN_nil] using h
  | c :: l, acc, n, h, ha => by
    rw [List.all_cons, Bool.and_eq_true] at h
    have hc := h.1
    unfold isDig at hc
    simp only [Bool.and_eq_true, decide_eq_true_eq] at hc
    have := valN_lt l (10 * acc + (c.toNat - 48)) (n + 1) h.2 (by rw [Nat.pow_succ]; omega)
    rw [valN_cons, List.length_cons, show n + (l.length + 1) = n + 1 + l.length by omega]
    exact this
theorem valN_app (l : List UInt8) (c : UInt8) : ∀ acc, valN acc (l ++ [c]) = 10 * valN acc l + (c.toNat - 48) := by
  induction l with
  | nil => intro acc; rfl
  | cons d l ih => intro acc; rw [List.cons_append, valN_cons, ih, valN_cons]
theorem dec_all (u : Nat) : (Lib.decDigits u).all isDig = true := by
  induction u using Nat.strongRecOn with
  | _ u ih =>
    rw [Lib.decDigits]
    split
    · rename_i h
      simp [isDig, UInt8.toNat_ofNat']
      omega
    · rename_i h
      rw [List.all_append, ih (u / 10) (by omega)]
      simp [isDig, UInt8.toNat_ofNat']
      omega
theorem dec_ne (u : Nat) : Lib.decDigits u ≠ [] := by
  rw [Lib.decDigits]; split <;> simp
theorem dec_val (u : Nat) : valN 0 (Lib.decDigits u) = u := by
  induction u using Nat.strongRecOn with
  | _ u ih =>
    rw [Lib.decDigits]
    split
    · rename_i h
      simp [valN_cons, valN_nil, UInt8.toNat_ofNat']
      omega
    · rename_i h
      rw [valN_app, ih (u / 10) (by omega)]
      simp [UInt8.toNat_ofNat']
      omega
theorem dec_head (u : Nat) (h : 10 ≤ u) : ∃ c l, Lib.decDigits u = c :: l ∧ c ≠ 48 ∧ l ≠ [] := by
  induction u using Nat.strongRecOn with
  | _ u ih =>
    rw [Lib.decDigits, dif_neg (by omega)]
    by_cases h1 : u / 10 < 10
    · rw [Lib.decDigits, dif_pos h1]
      refine ⟨UInt8.ofNat (48 + u / 10), [UInt8.ofNat (48 + u % 10)], rfl, ?_, by simp⟩
      intro e
      have := congrArg UInt8.toNat e
      simp [UInt8.toNat_ofNat'] at this
      omega
    · obtain ⟨c, l, e, h2, h3⟩ := ih (u / 10) (by omega) (by omega)
      exact ⟨c, l ++ [UInt8.ofNat (48 + u % 10)], by rw [e]; rfl, h2, by simp⟩
end Go.Proofs.YtbhfbbfjdklfgaaGreatDoor.Q


namespace Go.Proofs.YtbhfbbfjdklfgaaGreatDoor.Q
open Go.RowKit Go.Proofs.YtbhfbbfjdklfgaaGreatDoorW.PrintWords Go.Proofs.YtbhfbbfjdklfgaaGreatDoorW.PrintLast Go.Proofs.YtbhfbbfjdklfgaaGreatDoorW.PrintMore
attribute [local go_sem] max2_int min2_int max_two min_two max_three min_three max_four min_four   -- for this text's walks alone




end Go.Proofs.YtbhfbbfjdklfgaaGreatDoor.Q


/- Persons: what the printed functions compute, the program's and the reference's. -/
namespace Go.Proofs.YtbhfbbfjdklfgaaGreatDoor.Q
open Go.RowKit Go.Proofs.YtbhfbbfjdklfgaaGreatDoorW.PrintWords Go.Proofs.YtbhfbbfjdklfgaaGreatDoorW.PrintLast Go.Proofs.YtbhfbbfjdklfgaaGreatDoorW.PrintMore
theorem ev_ite {α : Type} {c : Prop} [Decidable c] {f g : Nat → Option α} {r : α} (h1 : c → Ev f r) (h2 : ¬ c → Ev g r) : Ev (fun k => if c then f k else g k) r := by
  by_cases h : c
  · exact Ev.congr (fun k => if_pos h) (h1 h)
  · exact Ev.congr (fun k => if_neg h) (h2 h)
theorem ev_yes {α : Type} {c : Prop} [Decidable c] {f g : Nat → Option α} {r : α} (h : c) (h1 : Ev f r) : Ev (fun k => if c then f k else g k) r := ev_ite (fun _ => h1) (fun h2 => absurd h h2)
theorem ev_no {α : Type} {c : Prop} [Decidable c] {f g : Nat → Option α} {r : α} (h : ¬ c) (h1 : Ev g r) : Ev (fun k => if c then f k else g k) r := ev_ite (fun h2 => absurd h2 h) (fun _ => h1)
theorem ev_eq {α : Type} {f : Nat → Option α} {r q : α} (h : Ev f q) (e : q = r) : Ev f r := e ▸ h
theorem sfx_at {s : ByteArray} {i : Nat} {c : UInt8} {t : List UInt8} (h : s.data.toList.drop i = c :: t) : i < s.size ∧ bt s (i : Int) = (c.toNat : Int) ∧ s.data.toList.drop (i + 1) = t := by
  have hlt : i < s.data.toList.length := by
    rcases Nat.lt_or_ge i s.data.toList.length with h1 | h1
    · exact h1
    · rw [List.drop_eq_nil_of_le h1] at h; cases h
  have hs : i < s.size := by rw [← size_of]; exact hlt
  rw [List.drop_eq_getElem_cons hlt] at h
  obtain ⟨h1, h2⟩ := List.cons.inj h
  refine ⟨hs, ?_, h2⟩
  rw [bt_get s i hs, h1]
theorem sfx_end {s : ByteArray} {i : Nat} (h : s.data.toList.drop i = []) : s.size ≤ i := by
  rw [← size_of]; simpa [List.drop_eq_nil_iff] using h
theorem ext_data (s : ByteArray) (i j : Nat) : (s.extract i j).data.toList = (s.data.toList.drop i).take (j - i) := by
  rw [ByteArray.data_extract, Array.toList_extract, List.extract_eq_drop_take', List.drop_take]
theorem ext_mk (s : ByteArray) (i j : Nat) : s.extract i j = mk ((s.data.toList.drop i).take (j - i)) := ba_ext (by rw [ext_data, mk_data])
def okU (c : UInt8) : Bool := decide (32 ≤ c.toNat) && (!(decide (c.toNat = 60)) && !(decide (c.toNat = 62)))
def edge (s : ByteArray) : Bool := decide (s.size < 1) || (decide (64 < s.size) || (decide (bt s 0 = 32) || decide (bt s ((s.size : Int) - 1) = 32)))
def namedB (s : ByteArray) : Bool := !edge s && s.data.toList.all okU
theorem okU_all {c : UInt8} {t : List UInt8} : (c :: t).all okU = (okU c && t.all okU) := rfl
theorem named_l0 (s : ByteArray) (hs : s.size ≤ 140737488351232) : ∀ (t : List UInt8) (i : Nat), s.data.toList.drop i = t → Ev (fun k => commit_named.l0 k s (s.size : Int) i) (t.all okU)
  | [], i, h => by
    have := sfx_end h
    exact Ev.step (f := ?_) (fun k => by rw [commit_named.l0, if_neg (by omega)]) (Ev.now _)
  | c :: t, i, h => by
    obtain ⟨hlt, hb, ht⟩ := sfx_at h
    have e1 : wrap64 ((i : Int) + 1) = ((i + 1 : Nat) : Int) := by rw [wrap_id (by omega) (by omega)]; omega
    refine Ev.step (f := ?_) (fun k => by rw [commit_named.l0, if_pos (by omega), if_pos (by omega), if_pos (by omega), hb, e1]) ?_
    rw [okU_all]
    refine ev_ite (fun g => ev_eq (Ev.now _) ?_) (fun g => ?_)
    · unfold okU; rw [decide_eq_false (by omega)]; rfl
    refine ev_ite (fun g2 => ev_eq (Ev.now _) ?_) (fun g2 => ?_)
    · unfold okU; rw [decide_eq_true (show c.toNat = 60 by omega)]; simp
    refine ev_ite (fun g3 => ev_eq (Ev.now _) ?_) (fun g3 => ?_)
    · unfold okU; rw [decide_eq_true (show c.toNat = 62 by omega)]; simp
    refine ev_eq (named_l0 s hs t (i + 1) ht) ?_
    unfold okU
    rw [decide_eq_true (show 32 ≤ c.toNat by omega), decide_eq_false (show ¬ c.toNat = 60 by omega), decide_eq_false (show ¬ c.toNat = 62 by omega)]; rfl
theorem refNamed_l0 (s : ByteArray) (hs : s.size ≤ 140737488351232) : ∀ (t : List UInt8) (i : Nat), s.data.toList.drop i = t → Ev (fun k => graftageref16_named.l0 k s i) (t.all okU)
  | [], i, h => by
    have := sfx_end h
    exact Ev.step (f := ?_) (fun k => by rw [graftageref16_named.l0, if_neg (by omega)]) (Ev.now _)
  | c :: t, i, h => by
    obtain ⟨hlt, hb, ht⟩ := sfx_at h
    have e1 : wrap64 ((i : Int) + 1) = ((i + 1 : Nat) : Int) := by rw [wrap_id (by omega) (by omega)]; omega
    refine Ev.step (f := ?_) (fun k => by rw [graftageref16_named.l0, if_pos (by omega), if_pos (by omega), hb, e1]) ?_
    rw [okU_all]
    refine ev_ite (fun g => ev_eq (Ev.now _) ?_) (fun g => ?_)
    · unfold okU; rw [decide_eq_false (by omega)]; rfl
    refine ev_ite (fun g2 => ev_eq (Ev.now _) ?_) (fun g2 => ?_)
    · unfold okU; rw [decide_eq_true (show c.toNat = 60 by omega)]; simp
    refine ev_ite (fun g3 => ev_eq (Ev.now _) ?_) (fun g3 => ?_)
    · unfold okU; rw [decide_eq_true (show c.toNat = 62 by omega)]; simp
    refine ev_eq (refNamed_l0 s hs t (i + 1) ht) ?_
    unfold okU
    rw [decide_eq_true (show 32 ≤ c.toNat by omega), decide_eq_false (show ¬ c.toNat = 60 by omega), decide_eq_false (show ¬ c.toNat = 62 by omega)]; rfl
theorem named_ev (s : ByteArray) (hs : s.size ≤ 140737488351232) : Ev (fun k => commit_named.f k s) (namedB s) := by
  have hT : edge s = true → Ev (fun k => commit_named.j0 k s true) (namedB s) := fun h => by
    unfold namedB; rw [h]
    exact Ev.step (f := ?_) (fun k => by rw [commit_named.j0, if_pos rfl]) (Ev.now _)
  unfold edge at hT
  refine ev_ite (fun g => hT (by rw [decide_eq_true (by omega)]; rfl)) (fun g => ?_)
  refine ev_ite (fun g2 => hT (by rw [decide_eq_true (show 64 < s.size by omega)]; simp)) (fun g2 => ?_)
  refine ev_yes (by omega) (ev_ite (fun g3 => hT (by rw [decide_eq_true g3]; simp)) (fun g3 => ?_))
  have e1 : wrap64 ((s.size : Int) - 1) = (s.size : Int) - 1 := wrap_id (by omega) (by omega)
  rw [e1]
  refine ev_yes (by omega) (ev_yes (by omega) ?_)
  by_cases g4 : bt s ((s.size : Int) - 1) = 32
  · rw [show (bt s ((s.size : Int) - 1) == 32) = true by simpa using g4]
    exact hT (by rw [decide_eq_true g4]; simp)
  · rw [show (bt s ((s.size : Int) - 1) == 32) = false by simpa using g4]
    refine Ev.step (f := ?_) (fun k => by rw [commit_named.j0, if_neg (by decide)]) ?_
    have he : edge s = false := by
      unfold edge
      rw [decide_eq_false (show ¬ s.size < 1 by omega), decide_eq_false (show ¬ 64 < s.size by omega), decide_eq_false g3, decide_eq_false g4]; rfl
    unfold namedB
    rw [he]
    have := named_l0 s hs s.data.toList 0 rfl
    exact_mod_cast this
theorem refNamed_ev (s : ByteArray) (hs : s.size ≤ 140737488351232) : Ev (fun k => graftageref16_named.f k s) (namedB s) := by
  have hT : edge s = true → Ev (fun k => graftageref16_named.j0 k s true) (namedB s) := fun h => by
    unfold namedB; rw [h]
    exact Ev.step (f := ?_) (fun k => by rw [graftageref16_named.j0, if_pos rfl]) (Ev.now _)
  unfold edge at hT
  refine ev_ite (fun g => hT (by rw [decide_eq_true (by omega)]; rfl)) (fun g => ?_)
  refine ev_ite (fun g2 => hT (by rw [decide_eq_true (show 64 < s.size by omega)]; simp)) (fun g2 => ?_)
  refine ev_yes (by omega) (ev_ite (fun g3 => hT (by rw [decide_eq_true g3]; simp)) (fun g3 => ?_))
  have e1 : wrap64 ((s.size : Int) - 1) = (s.size : Int) - 1 := wrap_id (by omega) (by omega)
  rw [e1]
  refine ev_yes (by omega) (ev_yes (by omega) ?_)
  by_cases g4 : bt s ((s.size : Int) - 1) = 32
  · rw [show (bt s ((s.size : Int) - 1) == 32) = true by simpa using g4]
    exact hT (by rw [decide_eq_true g4]; simp)
  · rw [show (bt s ((s.size : Int) - 1) == 32) = false by simpa using g4]
    refine Ev.step (f := ?_) (fun k => by rw [graftageref16_named.j0, if_neg (by decide)]) ?_
    have he : edge s = false := by
      unfold edge
      rw [decide_eq_false (show ¬ s.size < 1 by omega), decide_eq_false (show ¬ 64 < s.size by omega), decide_eq_false g3, decide_eq_false g4]; rfl
    unfold namedB
    rw [he]
    have := refNamed_l0 s hs s.data.toList 0 rfl
    exact_mod_cast this
def personB (n m : ByteArray) (t z : Int) : Bool := namedB n && (namedB m && (decide (0 ≤ t) && (decide (t ≤ 1099511627776) && (decide (-840 ≤ z) && decide (z ≤ 840)))))
theorem somebody_ev (n m : ByteArray) (t z : Int) (hn : n.size ≤ 140737488351232) (hm : m.size ≤ 140737488351232) : Ev (fun k => commit_somebody.f k n m t z) (personB n m t z) := by
  unfold personB
  refine Ev.bind (named_ev n hn) (ev_ite (fun g => ?_) (fun g => ev_eq (Ev.now _) ?_))
  · rw [g, Bool.true_and]
    refine Ev.bind (named_ev m hm) (ev_ite (fun g => ?_) (fun g => ev_eq (Ev.now _) ?_))
    · rw [g, Bool.true_and]
      refine ev_ite (fun g1 => ?_) (fun g1 => ev_eq (Ev.now _) (by rw [decide_eq_false (by omega)]; rfl))
      refine ev_ite (fun g2 => ?_) (fun g2 => ev_eq (Ev.now _) (by rw [decide_eq_false (show ¬ t ≤ 1099511627776 by omega)]; simp))
      refine ev_ite (fun g3 => ?_) (fun g3 => ev_eq (Ev.now _) (by rw [decide_eq_false (show ¬ -840 ≤ z by omega)]; simp))
      refine ev_eq (Ev.now _) ?_
      rw [decide_eq_true (show 0 ≤ t by omega), decide_eq_true g2, decide_eq_true (show -840 ≤ z by omega)]; rfl
    · rw [Bool.not_eq_true] at g; rw [g]; rfl
  · rw [Bool.not_eq_true] at g; rw [g]; rfl
theorem Person_ev (n m : ByteArray) (t z : Int) (hn : n.size ≤ 140737488351232) (hm : m.size ≤ 140737488351232) : Ev (fun k => graftageref16_Person.f k n m t z) (personB n m t z) := by
  unfold personB
  refine Ev.bind (refNamed_ev n hn) (ev_ite (fun g => ?_) (fun g => ev_eq (Ev.now _) ?_))
  · rw [g, Bool.true_and]
    refine Ev.bind (refNamed_ev m hm) (ev_ite (fun g => ?_) (fun g => ev_eq (Ev.now _) ?_))
    · rw [g, Bool.true_and]
      refine ev_ite (fun g1 => ?_) (fun g1 => ev_eq (Ev.now _) (by rw [decide_eq_false (by omega)]; rfl))
      refine ev_ite (fun g2 => ?_) (fun g2 => ev_eq (Ev.now _) (by rw [decide_eq_false (show ¬ t ≤ 1099511627776 by omega)]; simp))
      refine ev_ite (fun g3 => ?_) (fun g3 => ev_eq (Ev.now _) (by rw [decide_eq_false (show ¬ -840 ≤ z by omega)]; simp))
      refine ev_eq (Ev.now _) ?_
      rw [decide_eq_true (show 0 ≤ t by omega), decide_eq_true g2, decide_eq_true (show -840 ≤ z by omega)]; rfl
    · rw [Bool.not_eq_true] at g; rw [g]; rfl
  · rw [Bool.not_eq_true] at g; rw [g]; rfl
def offD (s : ByteArray) : Bool := decide (s.size < 1) || (decide (18 < s.size) || (decide (1 < s.size) && decide (bt s 0 = 48)))
def digOk (s : ByteArray) : Bool := !offD s && s.data.toList.all isDig
def valI (s : ByteArray) : Int := ((valN 0 s.data.toList : Nat) : Int)
theorem isDig_all {c : UInt8} {t : List UInt8} : (c :: t).all isDig = (isDig c && t.all isDig) := rfl
theorem Atoi_eq (s : ByteArray) (h0 : 1 ≤ s.size) (h1 : s.size ≤ 18) (h : s.data.toList.all isDig = true) : strconv_Atoi.f s = some (valI s, none) := by
  unfold strconv_Atoi.f
  rw [if_pos h1, atoi_val (fun e => by have := size_of s; rw [e] at this; simp at this; omega) h]
  rfl
theorem wdigits_l0 (s : ByteArray) (h0 : 1 ≤ s.size) (h1 : s.size ≤ 18) : ∀ (t : List UInt8) (i : Nat), s.data.toList.drop i = t → (s.data.toList.take i).all isDig = true → Ev (fun k => commit_digits.l0 k s (s.size : Int) i) (if t.all isDig = true then (valI s, true) else (0, false))
  | [], i, h, hp => by
    have hi := sfx_end h
    have ha : s.data.toList.all isDig = true := by rwa [List.take_of_length_le (by rw [size_of]; exact hi)] at hp
    refine Ev.step (f := ?_) (fun k => by rw [commit_digits.l0, if_neg (by omega), Atoi_eq s h0 h1 ha]) (ev_eq (Ev.now _) ?_)
    rfl
  | c :: t, i, h, hp => by
    obtain ⟨hlt, hb, ht⟩ := sfx_at h
    have e1 : wrap64 ((i : Int) + 1) = ((i + 1 : Nat) : Int) := by rw [wrap_id (by omega) (by omega)]; omega
    refine Ev.step (f := ?_) (fun k => by rw [commit_digits.l0, if_pos (by omega), if_pos (by omega), if_pos (by omega), hb, e1]) ?_
    rw [isDig_all]
    refine ev_ite (fun g => ev_eq (Ev.now _) ?_) (fun g => ?_)
    · unfold isDig; rw [decide_eq_false (by omega)]; rfl
    refine ev_ite (fun g2 => ev_eq (Ev.now _) ?_) (fun g2 => ?_)
    · unfold isDig; rw [decide_eq_false (show ¬ c.toNat ≤ 57 by omega)]; simp
    have hc : isDig c = true := by unfold isDig; rw [decide_eq_true (show 48 ≤ c.toNat by omega), decide_eq_true (show c.toNat ≤ 57 by omega)]; rfl
    have hp2 : (s.data.toList.take (i + 1)).all isDig = true := by
      have hl : i < s.data.toList.length := by rw [size_of]; exact hlt
      rw [List.take_succ_eq_append_getElem hl, List.all_append, hp, Bool.true_and]
      rw [List.drop_eq_getElem_cons hl] at h
      rw [(List.cons.inj h).1]
      simp [hc]
    rw [hc, Bool.true_and]
    exact wdigits_l0 s h0 h1 t (i + 1) ht hp2
theorem digits_ev (s : ByteArray) (hs : s.size ≤ 140737488351232) : Ev (fun k => commit_digits.f k s 18) (if digOk s = true then (valI s, true) else (0, false)) := by
  have hT : offD s = true → Ev (fun k => commit_digits.j0 k s true) (if digOk s = true then (valI s, true) else (0, false)) := fun h => by
    unfold digOk; rw [h]
    exact Ev.step (f := ?_) (fun k => by rw [commit_digits.j0, if_pos rfl]) (Ev.now _)
  have hF : offD s = false → 1 ≤ s.size → s.size ≤ 18 → Ev (fun k => commit_digits.j0 k s false) (if digOk s = true then (valI s, true) else (0, false)) := fun h h0 h1 => by
    unfold digOk; rw [h]
    refine Ev.step (f := ?_) (fun k => by rw [commit_digits.j0, if_neg (by decide)]) ?_
    have := wdigits_l0 s h0 h1 s.data.toList 0 rfl rfl
    exact_mod_cast this
  unfold offD at hT hF
  refine ev_ite (fun g => hT (by rw [decide_eq_true (by omega)]; rfl)) (fun g => ?_)
  refine ev_ite (fun g2 => hT (by rw [decide_eq_true (show 18 < s.size by omega)]; simp)) (fun g2 => ?_)
  rw [decide_eq_false (show ¬ s.size < 1 by omega), decide_eq_false (show ¬ 18 < s.size by omega)] at hF
  refine ev_ite (fun g3 => ev_yes (by omega) ?_) (fun g3 => hF (by rw [decide_eq_false (show ¬ 1 < s.size by omega)]; rfl) (by omega) (by omega))
  rw [decide_eq_true (show 1 < s.size by omega)] at hT hF
  by_cases g4 : bt s 0 = 48
  · rw [show (bt s 0 == 48) = true by simpa using g4]; exact hT (by rw [decide_eq_true g4]; simp)
  · rw [show (bt s 0 == 48) = false by simpa using g4]; exact hF (by rw [decide_eq_false g4]; rfl) (by omega) (by omega)
def zoneB (s : ByteArray) : Int × Bool :=
  if s.size = 5 ∧ (bt s 0 = 43 ∨ bt s 0 = 45) ∧ s.data.toList ≠ [45, 48, 48, 48, 48] ∧ (s.data.toList.drop 1).all isDig = true then
    (if 60 ≤ valI (s.extract 3 s.size) then (0, false) else if bt s 0 = 45 then (-60 * valI (s.extract 1 3) - valI (s.extract 3 s.size), true) else (60 * valI (s.extract 1 3) + valI (s.extract 3 s.size), true))
  else (0, false)
theorem all_drop1 {s : ByteArray} (h5 : s.size = 5) (h : (s.data.toList.drop 1).all isDig = true) : (s.extract 1 3).data.toList.all isDig = true ∧ (s.extract 3 s.size).data.toList.all isDig = true ∧ (s.extract 1 3).size = 2 ∧ (s.extract 3 s.size).size = 2 := by
  rw [ext_data, ext_data]
  refine ⟨?_, ?_, ?_, ?_⟩
  · rw [List.all_eq_true] at h ⊢
    exact fun x hx => h x (List.mem_of_mem_take hx)
  · rw [List.all_eq_true] at h ⊢
    intro x hx
    have := List.mem_of_mem_take hx
    exact h x (by rw [show (3 : Nat) = 1 + 2 by rfl, ← List.drop_drop] at this; exact List.mem_of_mem_drop this)
  · rw [← size_of, ext_data, List.length_take, List.length_drop, size_of]; omega
  · rw [← size_of, ext_data, List.length_take, List.length_drop, size_of]; omega
theorem val_two {s : ByteArray} (h2 : s.size = 2) (h : s.data.toList.all isDig = true) : 0 ≤ valI s ∧ valI s < 100 := by
  have := valN_lt s.data.toList 0 0 h (by decide)
  rw [size_of, h2] at this
  unfold valI
  omega
theorem zone_l0 (s : ByteArray) (h5 : s.size = 5) : ∀ (t : List UInt8) (i : Nat), 1 ≤ i → s.data.toList.drop i = t → ((s.data.toList.drop 1).take (i - 1)).all isDig = true → Ev (fun k => commit_zone.l0 k s i) (if t.all isDig = true then (if 60 ≤ valI (s.extract 3 s.size) then (0, false) else if bt s 0 = 45 then (-60 * valI (s.extract 1 3) - valI (s.extract 3 s.size), true) else (60 * valI (s.extract 1 3) + valI (s.extract 3 s.size), true)) else (0, false))
  | [], i, h1, h, hp => by
    have hi := sfx_end h
    have ha : (s.data.toList.drop 1).all isDig = true := by
      rwa [List.take_of_length_le (by rw [List.length_drop, size_of]; omega)] at hp
    obtain ⟨a1, a2, a3, a4⟩ := all_drop1 h5 ha
    obtain ⟨b1, b2⟩ := val_two a3 a1
    obtain ⟨b3, b4⟩ := val_two a4 a2
    refine Ev.step (f := ?_) (fun k => by rw [commit_zone.l0, if_neg (by omega), if_pos (by omega), if_pos (by omega), Atoi_eq _ (by omega) (by omega) a1, Atoi_eq _ (by omega) (by omega) a2, Option.bind_some, Option.bind_some]) ?_
    change Ev _ (if 60 ≤ valI (s.extract 3 s.size) then (0, false) else if bt s 0 = 45 then (-60 * valI (s.extract 1 3) - valI (s.extract 3 s.size), true) else (60 * valI (s.extract 1 3) + valI (s.extract 3 s.size), true))
    refine ev_ite (fun g => ev_eq (Ev.now _) (by rw [if_pos g])) (fun g => ?_)
    rw [if_neg g]
    refine ev_yes (by omega) (ev_ite (fun g2 => ev_eq (Ev.now _) ?_) (fun g2 => ev_eq (Ev.now _) ?_))
    · rw [if_pos g2, wrap_id (x := -60 * valI (s.extract 1 3)) (by omega) (by omega), wrap_id (by omega) (by omega)]
    · rw [if_neg g2, wrap_id (x := 60 * valI (s.extract 1 3)) (by omega) (by omega), wrap_id (by omega) (by omega)]
  | c :: t, i, h1, h, hp => by
    obtain ⟨hlt, hb, ht⟩ := sfx_at h
    have e1 : wrap64 ((i : Int) + 1) = ((i + 1 : Nat) : Int) := by rw [wrap_id (by omega) (by omega)]; omega
    refine Ev.step (f := ?_) (fun k => by rw [commit_zone.l0, if_pos (by omega), if_pos (by omega), if_pos (by omega), hb, e1]) ?_
    rw [isDig_all]
    refine ev_ite (fun g => ev_eq (Ev.now _) ?_) (fun g => ?_)
    · unfold isDig; rw [decide_eq_false (by omega)]; rfl
    refine ev_ite (fun g2 => ev_eq (Ev.now _) ?_) (fun g2 => ?_)
    · unfold isDig; rw [decide_eq_false (show ¬ c.toNat ≤ 57 by omega)]; simp
    have hc : isDig c = true := by unfold isDig; rw [decide_eq_true (show 48 ≤ c.toNat by omega), decide_eq_true (show c.toNat ≤ 57 by omega)]; rfl
    rw [hc, Bool.true_and]
    refine zone_l0 s h5 t (i + 1) (by omega) ht ?_
    have hl : i - 1 < (s.data.toList.drop 1).length := by rw [List.length_drop, size_of]; omega
    rw [show i + 1 - 1 = i - 1 + 1 by omega, List.take_succ_eq_append_getElem hl, List.all_append, hp, Bool.true_and]
    have hl2 : i < s.data.toList.length := by rw [size_of]; exact hlt
    have e3 : (s.data.toList.drop 1)[i - 1] = c := by
      rw [List.getElem_drop]
      rw [List.drop_eq_getElem_cons hl2] at h
      rw [← (List.cons.inj h).1]
      congr 1; omega
    rw [e3]; simp [hc]
theorem toList_beq (s : ByteArray) (l : List UInt8) : (s.toList == l) = decide (s.data.toList = l) := by
  rw [ByteArray.toList_eq, Bool.eq_iff_iff]; simp
theorem zone_ev (s : ByteArray) : Ev (fun k => commit_zone.f k s) (zoneB s) := by
  have hT : ¬ (s.size = 5 ∧ (bt s 0 = 43 ∨ bt s 0 = 45) ∧ s.data.toList ≠ [45, 48, 48, 48, 48]) → Ev (fun k => commit_zone.j0 k s true) (zoneB s) := fun h => by
    unfold zoneB; rw [if_neg (fun e => h ⟨e.1, e.2.1, e.2.2.1⟩)]
    exact Ev.step (f := ?_) (fun k => by rw [commit_zone.j0, if_pos rfl]) (Ev.now _)
  have hF : s.size = 5 → (bt s 0 = 43 ∨ bt s 0 = 45) → Ev (fun k => commit_zone.j0 k s (decide (s.data.toList = [45, 48, 48, 48, 48]))) (zoneB s) := fun h1 h2 => by
    by_cases h3 : s.data.toList = [45, 48, 48, 48, 48]
    · rw [decide_eq_true h3]; exact hT (fun e => e.2.2 h3)
    · rw [decide_eq_false h3]
      refine Ev.step (f := ?_) (fun k => by rw [commit_zone.j0, if_neg (by decide)]) ?_
      refine ev_eq (zone_l0 s h1 _ 1 (by omega) rfl (by simp)) ?_
      unfold zoneB
      by_cases h4 : (s.data.toList.drop 1).all isDig = true
      · rw [if_pos h4]; exact (if_pos ⟨h1, h2, h3, h4⟩).symm
      · rw [if_neg h4]; exact (if_neg (fun e => h4 e.2.2.2)).symm
  unfold commit_zone.f
  rw [toList_beq]
  refine ev_ite (fun g => ev_yes (by omega) ?_) (fun g => hT (fun e => g (by omega)))
  refine ev_ite (fun g2 => hF (by omega) (.inl g2)) (fun g2 => ev_ite (fun g3 => hF (by omega) (.inr g3)) (fun g3 => hT (fun e => by rcases e.2.1 with h | h <;> contradiction)))
end Go.Proofs.YtbhfbbfjdklfgaaGreatDoor.Q


namespace Go.Proofs.YtbhfbbfjdklfgaaGreatDoor.Q
open Go.RowKit Go.Proofs.YtbhfbbfjdklfgaaGreatDoorW.PrintWords Go.Proofs.YtbhfbbfjdklfgaaGreatDoorW.PrintLast Go.Proofs.YtbhfbbfjdklfgaaGreatDoorW.PrintMore
attribute [local go_sem] max2_int min2_int max_two min_two max_three min_three max_four min_four   -- for this text's walks alone

def graftageref16_ParseWho.T10 : Bool × List (List Nat × List Nat) := (true, [([], []), ([], []), ([0, 1], [0, 1]), ([], []), ([], []), ([4], [4]), ([], []), ([3, 5, 6], [3, 5, 6]), ([2, 7], [2, 7]), ([], []), ([9, 8, 0, 1, 2, 3, 4, 5, 6, 7, 8, 9], [8, 9])])
def graftageref16_ParseWho.B10 : List Nat := [0, 0, 3, 0, 0, 16, 0, 120, 255, 0, 1023]
theorem graftageref16_ParseWho.tab10 : rtab .any (opsOf Tryz.f30 10) = graftageref16_ParseWho.T10 := by kernel_rfl
theorem graftageref16_ParseWho.bits10 : waitsOk graftageref16_ParseWho.T10.2 graftageref16_ParseWho.B10 = true := by kernel_rfl
end Go.Proofs.YtbhfbbfjdklfgaaGreatDoor.Q


/- Persons: the words of a person, and the person of words. -/
namespace Go.Proofs.YtbhfbbfjdklfgaaGreatDoor.Q
open Go.RowKit Go.Proofs.YtbhfbbfjdklfgaaGreatDoorW.PrintWords Go.Proofs.YtbhfbbfjdklfgaaGreatDoorW.PrintLast Go.Proofs.YtbhfbbfjdklfgaaGreatDoorW.PrintMore
theorem lit_mk (l : List UInt8) : (⟨l.toArray⟩ : ByteArray) = mk l := rfl
theorem size_app (a b : ByteArray) : (a ++ b).size = a.size + b.size := ByteArray.size_append
theorem dec_len (n : Nat) : ∀ u : Nat, u < 10 ^ (n + 1) → (Lib.decDigits u).length ≤ n + 1 := by
  induction n with
  | zero => intro u h; rw [Lib.decDigits, dif_pos (by omega)]; simp
  | succ n ih =>
    intro u h
    rw [Lib.decDigits]
    split
    · simp
    · rw [List.length_append, List.length_singleton]
      have := ih (u / 10) (by rw [Nat.pow_succ] at h; omega)
      omega
theorem itoa_len (t : Int) (h0 : -9223372036854775808 ≤ t) (h1 : t ≤ 9223372036854775807) : (Lib.itoa t).length ≤ 20 := by
  unfold Lib.itoa
  split
  · rw [List.length_cons]; have := dec_len 18 t.natAbs (by omega); omega
  · have := dec_len 18 t.toNat (by omega); omega
theorem Itoa_eq (t : Int) (h0 : -9223372036854775808 ≤ t) (h1 : t ≤ 9223372036854775807) : strconv_Itoa.f t = some (mk (Lib.itoa t)) := by
  unfold strconv_Itoa.f
  rw [if_pos h0, if_pos h1]; rfl
theorem itoa_nat (n : Nat) : Lib.itoa (n : Int) = Lib.decDigits n := by
  unfold Lib.itoa; rw [if_neg (by omega), Int.toNat_natCast]
theorem one_num (x : Int) (h0 : 0 ≤ x) (h1 : x < 10) : strOfNums [(wrap64 (48 + x)) % 256] = mk (Lib.decDigits x.toNat) := by
  rw [wrap_id (by omega) (by omega), Int.emod_eq_of_lt (by omega) (by omega), Lib.decDigits, dif_pos (by omega)]
  have := Go.Lib.Lz.strOfNums_map [UInt8.ofNat (48 + x.toNat)]
  rw [← lit_mk, ← this]
  congr 1
  simp [UInt8.toNat_ofNat']
  omega
theorem Num_l0 : ∀ (n : Nat) (out : ByteArray), (n : Int) ≤ 9223372036854775807 → ∀ d, out.size ≤ 1099511627776 - d → n < 10 ^ (d + 1) → d ≤ 20 → Ev (fun k => graftageref16_Num.l0 k (n : Int) out) (mk (Lib.decDigits n) ++ out) := by
  intro n
  induction n using Nat.strongRecOn with
  | _ n ih =>
    intro out hn d ho hd hd2
    by_cases h : (n : Int) ≥ 10
    · have hq : ∀ d : Nat, n < 10 ^ (d + 1 + 1) → n / 10 < 10 ^ (d + 1) := fun d hd => by
        have h2 : 10 ^ (d + 1 + 1) = 10 ^ (d + 1) * 10 := Nat.pow_succ ..
        generalize 10 ^ (d + 1) = q at h2 ⊢
        omega
      have e0 : (Int.tmod (n : Int) 10) = ((n % 10 : Nat) : Int) := by rw [Int.tmod_eq_emod_of_nonneg (by omega)]; omega
      have e1 : wrap64 (Int.tdiv (n : Int) 10) = ((n / 10 : Nat) : Int) := by rw [Int.tdiv_eq_ediv_of_nonneg (by omega), wrap_id (by omega) (by omega)]; omega
      have es : (strOfNums [(wrap64 (48 + ((n % 10 : Nat) : Int))) % 256]).size = 1 := by rw [one_num _ (by omega) (by omega), mk_size, Int.toNat_natCast, Lib.decDigits, dif_pos (by omega)]; rfl
      refine Ev.step (f := ?_) (fun k => by rw [graftageref16_Num.l0, if_pos h, e0, Option.bind_some, if_pos (by omega), e1]) ?_
      rw [one_num _ (by omega) (by omega), Int.toNat_natCast]
      cases d with
      | zero => omega
      | succ d =>
        have hl1 : (mk (Lib.decDigits (n % 10))).size = 1 := by
          rw [mk_size, Lib.decDigits.eq_def (n % 10), dif_pos (by omega)]; rfl
        have e2 : Lib.decDigits n = Lib.decDigits (n / 10) ++ Lib.decDigits (n % 10) := by
          rw [Lib.decDigits, dif_neg (by omega)]
          conv => rhs; rw [Lib.decDigits.eq_def (n % 10)]
          rw [dif_pos (by omega)]
        have := ih (n / 10) (by omega) (mk (Lib.decDigits (n % 10)) ++ out) (by omega) d (by rw [size_app, hl1]; omega) (hq d hd) (by omega)
        rw [e2, ← mk_app]
        refine ev_eq this ?_
        exact ba_ext (by simp only [append_data, List.append_assoc])
    · have es : (strOfNums [(wrap64 (48 + (n : Int))) % 256]).size = 1 := by rw [one_num _ (by omega) (by omega), mk_size, Int.toNat_natCast, Lib.decDigits, dif_pos (by omega)]; rfl
      refine Ev.step (f := ?_) (fun k => by rw [graftageref16_Num.l0, if_neg h, Option.bind_some, if_pos (by omega), one_num _ (by omega) (by omega), Int.toNat_natCast]) (Ev.now _)
theorem Num_ev (t : Int) (h0 : 0 ≤ t) (h1 : t ≤ 9223372036854775807) : Ev (fun k => graftageref16_Num.f k t) (mk (Lib.itoa t)) := by
  have := Num_l0 t.toNat ⟨#[]⟩ (by omega) 19 (by decide) (by omega) (by omega)
  rw [show ((t.toNat : Nat) : Int) = t by omega] at this
  refine ev_eq this ?_
  rw [Lib.itoa, if_neg (by omega)]
  exact ba_ext (by rw [append_data]; simp)
def twoL (n : Nat) : List UInt8 := Lib.decDigits (n / 10 % 10) ++ Lib.decDigits (n % 10)
def tailL (t z : Int) : List UInt8 := Lib.itoa t ++ 32 :: (if z < 0 then 45 else 43) :: (twoL (z.natAbs / 60) ++ twoL (z.natAbs % 60))
def whoL (n m : List UInt8) (t z : Int) : List UInt8 := n ++ 32 :: 60 :: (m ++ 62 :: 32 :: tailL t z)
def whoB (n m : ByteArray) (t z : Int) : ByteArray := mk (whoL n.data.toList m.data.toList t z)
theorem two_len (n : Nat) : (twoL n).length = 2 := by
  unfold twoL
  rw [List.length_append, Lib.decDigits, dif_pos (by omega), Lib.decDigits, dif_pos (by omega)]; rfl
theorem Who1_eq (n : Nat) (h : (n : Int) ≤ 9223372036854775807) : commit_Who_1.f (n : Int) = some (mk (twoL n)) := by
  unfold commit_Who_1.f
  have e1 : (Int.tmod (wrap64 (Int.tdiv (n : Int) 10)) 10) = ((n / 10 % 10 : Nat) : Int) := by
    rw [Int.tdiv_eq_ediv_of_nonneg (by omega), wrap_id (by omega) (by omega), Int.tmod_eq_emod_of_nonneg (by omega)]; omega
  have e2 : (Int.tmod (n : Int) 10) = ((n % 10 : Nat) : Int) := by rw [Int.tmod_eq_emod_of_nonneg (by omega)]; omega
  rw [e1, e2, Itoa_eq _ (by omega) (by omega), Itoa_eq _ (by omega) (by omega), Option.bind_some, Option.bind_some, itoa_nat, itoa_nat]
  have l1 : (mk (Lib.decDigits (n / 10 % 10))).size = 1 := by rw [mk_size, Lib.decDigits, dif_pos (by omega)]; rfl
  have l2 : (mk (Lib.decDigits (n % 10))).size = 1 := by rw [mk_size, Lib.decDigits, dif_pos (by omega)]; rfl
  rw [if_pos (by omega), mk_app]; rfl
theorem Who_eq (n m : ByteArray) (t z : Int) (hn : n.size ≤ 140737488351232) (hm : m.size ≤ 140737488351232) (h0 : -9223372036854775808 ≤ t) (h1 : t ≤ 9223372036854775807) (hz0 : -9223372036854775808 < z) (hz1 : z ≤ 9223372036854775807) : commit_Who.f n m t z = some (whoB n m t z) := by
  have hl := itoa_len t h0 h1
  have hl1 := two_len (z.natAbs / 60)
  have hl2 := two_len (z.natAbs % 60)
  have s1 : (mk (Lib.itoa t)).size ≤ 20 := by rw [mk_size]; exact hl
  have s2 : (mk (twoL (z.natAbs / 60))).size = 2 := by rw [mk_size]; exact hl1
  have s3 : (mk (twoL (z.natAbs % 60))).size = 2 := by rw [mk_size]; exact hl2
  have c2 : (⟨#[32, 60]⟩ : ByteArray).size = 2 := rfl
  have c3 : (⟨#[62, 32]⟩ : ByteArray).size = 2 := rfl
  have c4 : (⟨#[32]⟩ : ByteArray).size = 1 := rfl
  have c5 : (⟨#[45]⟩ : ByteArray).size = 1 := rfl
  have c6 : (⟨#[43]⟩ : ByteArray).size = 1 := rfl
  unfold commit_Who.f
  rw [Itoa_eq t h0 h1]
  by_cases h : z < 0
  · have e1 : wrap64 (Int.tdiv (wrap64 (-z)) 60) = ((z.natAbs / 60 : Nat) : Int) := by
      rw [wrap_id (x := -z) (by omega) (by omega), Int.tdiv_eq_ediv_of_nonneg (by omega), wrap_id (by omega) (by omega)]; omega
    have e2 : Int.tmod (wrap64 (-z)) 60 = ((z.natAbs % 60 : Nat) : Int) := by
      rw [wrap_id (x := -z) (by omega) (by omega), Int.tmod_eq_emod_of_nonneg (by omega)]; omega
    rw [if_pos h, if_pos (by omega), if_pos (by simp only [size_app]; omega), if_pos (by simp only [size_app]; omega), Option.bind_some, if_pos (by simp only [size_app]; omega), if_pos (by simp only [size_app]; omega), if_pos (by simp only [size_app]; omega), e1, e2, Who1_eq _ (by omega), Who1_eq _ (by omega), Option.bind_some, if_pos (by simp only [size_app]; omega), Option.bind_some, if_pos (by simp only [size_app]; omega)]
    congr 1
    refine ba_ext ?_
    unfold whoB whoL tailL
    rw [if_pos h]
    simp only [append_data, mk_data, List.append_assoc, List.cons_append, List.nil_append]
    try simp
  · have e1 : wrap64 (Int.tdiv z 60) = ((z.natAbs / 60 : Nat) : Int) := by
      rw [Int.tdiv_eq_ediv_of_nonneg (by omega), wrap_id (by omega) (by omega)]; omega
    have e2 : Int.tmod z 60 = ((z.natAbs % 60 : Nat) : Int) := by
      rw [Int.tmod_eq_emod_of_nonneg (by omega)]; omega
    rw [if_neg h, if_pos (by omega), if_pos (by simp only [size_app]; omega), if_pos (by simp only [size_app]; omega), Option.bind_some, if_pos (by simp only [size_app]; omega), if_pos (by simp only [size_app]; omega), if_pos (by simp only [size_app]; omega), e1, e2, Who1_eq _ (by omega), Who1_eq _ (by omega), Option.bind_some, if_pos (by simp only [size_app]; omega), Option.bind_some, if_pos (by simp only [size_app]; omega)]
    congr 1
    refine ba_ext ?_
    unfold whoB whoL tailL
    rw [if_neg h]
    simp only [append_data, mk_data, List.append_assoc, List.cons_append, List.nil_append]
    try simp
theorem four_num (u : Nat) (h : u ≤ 840) : strOfNums [(wrap64 (48 + (wrap64 (Int.tdiv (u : Int) 600)))) % 256, (wrap64 (48 + (Int.tmod (wrap64 (Int.tdiv (u : Int) 60)) 10))) % 256, (wrap64 (48 + (wrap64 (Int.tdiv (Int.tmod (u : Int) 60) 10)))) % 256, (wrap64 (48 + (Int.tmod (u : Int) 10))) % 256] = mk (twoL (u / 60) ++ twoL (u % 60)) := by
  have a1 : wrap64 (Int.tdiv (u : Int) 600) = ((u / 600 : Nat) : Int) := by rw [Int.tdiv_eq_ediv_of_nonneg (by omega), wrap_id (by omega) (by omega)]; omega
  have a2 : Int.tmod (wrap64 (Int.tdiv (u : Int) 60)) 10 = ((u / 60 % 10 : Nat) : Int) := by rw [Int.tdiv_eq_ediv_of_nonneg (by omega), wrap_id (by omega) (by omega), Int.tmod_eq_emod_of_nonneg (by omega)]; omega
  have a3 : wrap64 (Int.tdiv (Int.tmod (u : Int) 60) 10) = ((u % 60 / 10 : Nat) : Int) := by rw [Int.tmod_eq_emod_of_nonneg (by omega), Int.tdiv_eq_ediv_of_nonneg (by omega), wrap_id (by omega) (by omega)]; omega
  have a4 : Int.tmod (u : Int) 10 = ((u % 10 : Nat) : Int) := by rw [Int.tmod_eq_emod_of_nonneg (by omega)]; omega
  have w : ∀ q : Nat, q < 10 → (wrap64 (48 + (q : Int))) % 256 = ((UInt8.ofNat (48 + q)).toNat : Int) := by
    intro q hq
    rw [wrap_id (by omega) (by omega), Int.emod_eq_of_lt (by omega) (by omega), UInt8.toNat_ofNat']
    omega
  rw [a1, a2, a3, a4, w _ (by omega), w _ (by omega), w _ (by omega), w _ (by omega)]
  have := Go.Lib.Lz.strOfNums_map [UInt8.ofNat (48 + u / 600), UInt8.ofNat (48 + u / 60 % 10), UInt8.ofNat (48 + u % 60 / 10), UInt8.ofNat (48 + u % 10)]
  simp only [List.map_cons, List.map_nil] at this
  rw [this, lit_mk]
  congr 1
  unfold twoL
  rw [show u / 60 / 10 % 10 = u / 600 by omega, show u % 60 / 10 % 10 = u % 60 / 10 by omega, show u % 60 % 10 = u % 10 by omega]
  rw [Lib.decDigits.eq_def (u / 600), dif_pos (by omega), Lib.decDigits.eq_def (u / 60 % 10), dif_pos (by omega), Lib.decDigits.eq_def (u % 60 / 10), dif_pos (by omega), Lib.decDigits.eq_def (u % 10), dif_pos (by omega)]
  rfl
theorem refWho_ev (n m : ByteArray) (t z : Int) (hn : n.size ≤ 140737488351232) (hm : m.size ≤ 140737488351232) (h0 : 0 ≤ t) (h1 : t ≤ 9223372036854775807) (hz0 : -840 ≤ z) (hz1 : z ≤ 840) : Ev (fun k => graftageref16_Who.f k n m t z) (whoB n m t z) := by
  have hl := itoa_len t (by omega) h1
  have s1 : (mk (Lib.itoa t)).size ≤ 20 := by rw [mk_size]; exact hl
  have s2 : (mk (twoL (z.natAbs / 60) ++ twoL (z.natAbs % 60))).size = 4 := by rw [mk_size, List.length_append, two_len, two_len]
  have c2 : (⟨#[32, 60]⟩ : ByteArray).size = 2 := rfl
  have c3 : (⟨#[62, 32]⟩ : ByteArray).size = 2 := rfl
  have c4 : (⟨#[32]⟩ : ByteArray).size = 1 := rfl
  have c5 : (⟨#[45]⟩ : ByteArray).size = 1 := rfl
  have c6 : (⟨#[43]⟩ : ByteArray).size = 1 := rfl
  unfold graftageref16_Who.f
  by_cases h : z < 0
  · simp only [if_pos h, Option.bind_some]
    rw [wrap_id (x := -z) (by omega) (by omega), show -z = ((z.natAbs : Nat) : Int) by omega, four_num z.natAbs (by omega)]
    refine ev_yes (by omega) (ev_yes (by simp only [size_app]; omega) (ev_yes (by simp only [size_app]; omega) (Ev.bind (Num_ev t h0 h1) ?_)))
    refine ev_yes (by simp only [size_app]; omega) (ev_yes (by simp only [size_app]; omega) (ev_yes (by simp only [size_app]; omega) (ev_yes (by simp only [size_app]; omega) (ev_eq (Ev.now _) ?_))))
    refine ba_ext ?_
    unfold whoB whoL tailL
    rw [if_pos h]
    simp only [append_data, mk_data, List.append_assoc, List.cons_append, List.nil_append]
    try simp
  · simp only [if_neg h, Option.bind_some]
    rw [show z = ((z.natAbs : Nat) : Int) by omega, four_num z.natAbs (by omega)]
    refine ev_yes (by omega) (ev_yes (by simp only [size_app]; omega) (ev_yes (by simp only [size_app]; omega) (Ev.bind (Num_ev t h0 h1) ?_)))
    refine ev_yes (by simp only [size_app]; omega) (ev_yes (by simp only [size_app]; omega) (ev_yes (by simp only [size_app]; omega) (ev_yes (by simp only [size_app]; omega) (ev_eq (Ev.now _) ?_))))
    refine ba_ext ?_
    unfold whoB whoL tailL
    rw [if_neg (by omega)]
    simp only [append_data, mk_data, List.append_assoc, List.cons_append, List.nil_append]
    try simp
end Go.Proofs.YtbhfbbfjdklfgaaGreatDoor.Q


/- Persons: the person of words, told alike by the program and the reference. -/
namespace Go.Proofs.YtbhfbbfjdklfgaaGreatDoor.Q
open Go.RowKit Go.Proofs.YtbhfbbfjdklfgaaGreatDoorW.PrintWords Go.Proofs.YtbhfbbfjdklfgaaGreatDoorW.PrintLast Go.Proofs.YtbhfbbfjdklfgaaGreatDoorW.PrintMore
theorem Cut_eq (s t : ByteArray) (hs : s.size < 4294967281) : strings_Cut.f s t = some (mk (Lib.cut s.data.toList t.data.toList).1, mk (Lib.cut s.data.toList t.data.toList).2.1, (Lib.cut s.data.toList t.data.toList).2.2) := by
  unfold strings_Cut.f; rw [if_pos hs]; rfl
theorem cut_len (l s : List UInt8) : (Lib.cut l s).1.length + (Lib.cut l s).2.1.length ≤ l.length := by
  by_cases h : 0 ≤ Lib.index l s
  · rw [cut_of h]; simp only [List.length_take, List.length_drop]; omega
  · rw [cut_no h]; simp
theorem contains_iff : ∀ l : List UInt8, Lib.containsAny l [60, 62] = true ↔ (60 ∈ l ∨ 62 ∈ l)
  | [] => by simp [Lib.containsAny, Lib.indexAny]
  | c :: l => by
    have ih := contains_iff l
    unfold Lib.containsAny at ih ⊢
    rw [decide_eq_true_iff] at ih ⊢
    rw [Lib.indexAny]
    by_cases h : ([60, 62] : List UInt8).contains c = true
    · rw [if_pos h]
      simp at h
      rcases h with rfl | rfl <;> simp
    · rw [if_neg h]
      have h60 : c ≠ 60 := by rintro rfl; simp at h
      have h62 : c ≠ 62 := by rintro rfl; simp at h
      have hge := Go.Lib.indexAny_ge [60, 62] l
      by_cases h1 : Lib.indexAny l [60, 62] = -1
      · rw [h1] at ih ⊢
        simp at ih ⊢
        exact ⟨⟨fun e => h60 e.symm, ih.1⟩, fun e => h62 e.symm, ih.2⟩
      · rw [if_neg (by simpa using h1)]
        have : 0 ≤ Lib.indexAny l [60, 62] := by omega
        have h2 := ih.1 this
        constructor
        · intro _; rcases h2 with h2 | h2 <;> simp [h2]
        · intro _; omega
theorem index_not (x : UInt8) : ∀ l : List UInt8, Lib.index l [x] = -1 ↔ x ∉ l
  | [] => by rw [Lib.index]; simp
  | c :: l => by
    by_cases h : c = x
    · subst h
      rw [index_cons_hit (by simp [List.isPrefixOf])]; simp
    · rw [index_cons_miss (by simp [List.isPrefixOf]; exact fun e => h e.symm)]
      have ih := index_not x l
      have hge := Lib.index_ge l [x]
      by_cases h1 : Lib.index l [x] = -1
      · rw [if_pos (by simpa using h1)]
        simp only [List.mem_cons, not_or, true_iff]
        exact ⟨fun e => h e.symm, ih.1 h1⟩
      · rw [if_neg (by simpa using h1)]
        constructor
        · intro h2; omega
        · intro h2; exact absurd (ih.2 (fun e => h2 (by simp [e]))) h1
def noA (l : List UInt8) : Prop := 60 ∉ l ∧ 62 ∉ l
instance (l : List UInt8) : Decidable (noA l) := by unfold noA; infer_instance
def finW (n m : ByteArray) (t z : Int) : ByteArray × ByteArray × Int × Int × Int := if personB n m t z = true then (n, m, t, z, 0) else (⟨#[]⟩, ⟨#[]⟩, 0, 0, 1)
def c1 (s : ByteArray) : List UInt8 × List UInt8 × Bool := Lib.cut s.data.toList [32, 60]
def c2 (s : ByteArray) : List UInt8 × List UInt8 × Bool := Lib.cut (c1 s).2.1 [62, 32]
def c3 (s : ByteArray) : List UInt8 × List UInt8 × Bool := Lib.cut (c2 s).2.1 [32]
def wOk (s : ByteArray) : Prop := (c1 s).2.2 = true ∧ (c2 s).2.2 = true ∧ (c3 s).2.2 = true ∧ digOk (mk (c3 s).1) = true ∧ (zoneB (mk (c3 s).2.1)).2 = true ∧ noA (c1 s).1 ∧ noA (c2 s).1
instance (s : ByteArray) : Decidable (wOk s) := by unfold wOk; infer_instance
def parseWhoB (s : ByteArray) : ByteArray × ByteArray × Int × Int × Int :=
  if wOk s then finW (mk (c1 s).1) (mk (c2 s).1) (valI (mk (c3 s).1)) (zoneB (mk (c3 s).2.1)).1 else (⟨#[]⟩, ⟨#[]⟩, 0, 0, 2)
theorem c_len (s : ByteArray) : (c1 s).1.length + (c1 s).2.1.length ≤ s.size ∧ (c2 s).1.length + (c2 s).2.1.length ≤ (c1 s).2.1.length ∧ (c3 s).1.length + (c3 s).2.1.length ≤ (c2 s).2.1.length := by
  have h1 := cut_len s.data.toList [32, 60]
  have h2 := cut_len (c1 s).2.1 [62, 32]
  have h3 := cut_len (c2 s).2.1 [32]
  rw [size_of] at h1
  exact ⟨h1, h2, h3⟩
theorem ParseWho_ev (s : ByteArray) (hs : s.size ≤ 4294967000) : Ev (fun k => commit_ParseWho.f k s) (parseWhoB s) := by
  obtain ⟨l1, l2, l3⟩ := c_len s
  have E1 : strings_Cut.f s ⟨#[32, 60]⟩ = some (mk (c1 s).1, mk (c1 s).2.1, (c1 s).2.2) := Cut_eq _ _ (by omega)
  have E2 : strings_Cut.f (mk (c1 s).2.1) ⟨#[62, 32]⟩ = some (mk (c2 s).1, mk (c2 s).2.1, (c2 s).2.2) := by
    rw [Cut_eq _ _ (by rw [mk_size]; omega), mk_data]; rfl
  have E3 : strings_Cut.f (mk (c2 s).2.1) ⟨#[32]⟩ = some (mk (c3 s).1, mk (c3 s).2.1, (c3 s).2.2) := by
    rw [Cut_eq _ _ (by rw [mk_size]; omega), mk_data]; rfl
  have bad : ¬ wOk s → ∀ (n m : ByteArray) (t z : Int), Ev (fun k => commit_ParseWho.j0 k n m t z true) (parseWhoB s) := fun h n m t z => by
    unfold parseWhoB; rw [if_neg h]
    exact Ev.step (f := ?_) (fun k => by rw [commit_ParseWho.j0, if_pos rfl]) (Ev.now _)
  unfold commit_ParseWho.f
  rw [E1]
  simp only [Option.bind_some]
  rw [E2]
  simp only [Option.bind_some]
  rw [E3]
  simp only [Option.bind_some]
  refine Ev.bind (digits_ev _ (by rw [mk_size]; omega)) (Ev.bind (zone_ev _) ?_)
  unfold wOk at bad
  refine ev_ite (fun g1 => ?_) (fun g1 => bad (fun e => g1 e.1) _ _ _ _)
  refine ev_ite (fun g2 => ?_) (fun g2 => bad (fun e => g2 e.2.1) _ _ _ _)
  refine ev_ite (fun g3 => ?_) (fun g3 => bad (fun e => g3 e.2.2.1) _ _ _ _)
  refine ev_ite (fun g4 => ?_) (fun g4 => bad (fun e => g4 (by rw [if_pos e.2.2.2.1])) _ _ _ _)
  have g4' : digOk (mk (c3 s).1) = true := by
    by_cases h : digOk (mk (c3 s).1) = true
    · exact h
    · rw [if_neg h] at g4; simp at g4
  rw [if_pos g4']
  refine ev_ite (fun g5 => ?_) (fun g5 => bad (fun e => g5 e.2.2.2.2.1) _ _ _ _)
  refine ev_yes (by rw [mk_size, mk_size]; omega) ?_
  have E4 : strings_ContainsAny.f (mk (c1 s).1 ++ mk (c2 s).1) ⟨#[60, 62]⟩ = some (Lib.containsAny ((c1 s).1 ++ (c2 s).1) [60, 62]) := by
    unfold strings_ContainsAny.f
    rw [if_pos (by rw [size_app, mk_size, mk_size]; omega), if_pos (by decide), if_pos (by decide), append_data, mk_data, mk_data]
  rw [E4]
  simp only [Option.bind_some]
  by_cases g6 : Lib.containsAny ((c1 s).1 ++ (c2 s).1) [60, 62] = true
  · rw [g6]
    refine bad (fun e => ?_) _ _ _ _
    rw [contains_iff, List.mem_append, List.mem_append] at g6
    obtain ⟨_, _, _, _, _, ⟨a, b⟩, c, d⟩ := e
    rcases g6 with (h | h) | (h | h) <;> contradiction
  · have hw : wOk s := by
      rw [contains_iff, List.mem_append, List.mem_append] at g6
      simp only [not_or] at g6
      exact ⟨g1, g2, g3, g4', g5, ⟨g6.1.1, g6.2.1⟩, g6.1.2, g6.2.2⟩
    rw [Bool.not_eq_true] at g6
    rw [g6]
    refine Ev.step (f := ?_) (fun k => by rw [commit_ParseWho.j0, if_neg (by decide)]) ?_
    unfold parseWhoB finW
    rw [if_pos hw]
    refine Ev.bind (somebody_ev _ _ _ _ (by rw [mk_size]; omega) (by rw [mk_size]; omega)) (ev_ite (fun g => ?_) (fun g => ?_))
    · rw [if_pos g]; exact Ev.now _
    · rw [if_neg g]; exact Ev.now _
end Go.Proofs.YtbhfbbfjdklfgaaGreatDoor.Q


/- Persons: the reference's reading of a person's words. -/
namespace Go.Proofs.YtbhfbbfjdklfgaaGreatDoor.Q
open Go.RowKit Go.Proofs.YtbhfbbfjdklfgaaGreatDoorW.PrintWords Go.Proofs.YtbhfbbfjdklfgaaGreatDoorW.PrintLast Go.Proofs.YtbhfbbfjdklfgaaGreatDoorW.PrintMore
theorem drop_pre {α : Type} (a b : List α) (i : Nat) (h : a.length = i) : (a ++ b).drop i = b := by subst h; simp
theorem take_pre {α : Type} (a b : List α) (i : Nat) (h : a.length = i) : (a ++ b).take i = a := by subst h; simp
end Go.Proofs.YtbhfbbfjdklfgaaGreatDoor.Q


/- Persons: told and read back, the same person; read and told again, the same words. -/
namespace Go.Proofs.YtbhfbbfjdklfgaaGreatDoor.Q
open Go.RowKit Go.Proofs.YtbhfbbfjdklfgaaGreatDoorW.PrintWords Go.Proofs.YtbhfbbfjdklfgaaGreatDoorW.PrintLast Go.Proofs.YtbhfbbfjdklfgaaGreatDoorW.PrintMore
def dg (d : Nat) : UInt8 := UInt8.ofNat (48 + d)
theorem dg_val {d : Nat} (h : d < 10) : (dg d).toNat = 48 + d := by
  unfold dg; rw [UInt8.toNat_ofNat']; omega
theorem dg_isDig {d : Nat} (h : d < 10) : isDig (dg d) = true := by
  unfold isDig; rw [dg_val h]; simp; omega
theorem dec_one {d : Nat} (h : d < 10) : Lib.decDigits d = [dg d] := by
  rw [Lib.decDigits.eq_def, dif_pos h]; rfl
theorem twoL_eq (u : Nat) : twoL u = [dg (u / 10 % 10), dg (u % 10)] := by
  unfold twoL; rw [dec_one (by omega), dec_one (by omega)]; rfl
theorem val2 (a b : UInt8) : valI (mk [a, b]) = ((10 * (a.toNat - 48) + (b.toNat - 48) : Nat) : Int) := by
  unfold valI; rw [mk_data, valN_cons, valN_cons, valN_nil]; simp
theorem bt0 (c : UInt8) (l : List UInt8) : bt (mk (c :: l)) 0 = (c.toNat : Int) := (sfx_at (s := mk (c :: l)) (i := 0) (by rw [mk_data]; rfl)).2.1
theorem zone5 (c a b d e : UInt8) : zoneB (mk [c, a, b, d, e]) =
    if (c.toNat = 43 ∨ c.toNat = 45) ∧ [c, a, b, d, e] ≠ [45, 48, 48, 48, 48] ∧ isDig a = true ∧ isDig b = true ∧ isDig d = true ∧ isDig e = true then
      (if 60 ≤ (10 * (d.toNat - 48) + (e.toNat - 48) : Nat) then (0, false) else if c.toNat = 45 then (-(60 * (10 * (a.toNat - 48) + (b.toNat - 48) : Nat) + (10 * (d.toNat - 48) + (e.toNat - 48) : Nat) : Int), true) else ((60 * (10 * (a.toNat - 48) + (b.toNat - 48) : Nat) + (10 * (d.toNat - 48) + (e.toNat - 48) : Nat) : Int), true))
    else (0, false) := by
  have hs : (mk [c, a, b, d, e]).size = 5 := mk_size _
  have x1 : (mk [c, a, b, d, e]).extract 1 3 = mk [a, b] := by rw [ext_mk, mk_data]; rfl
  have x2 : (mk [c, a, b, d, e]).extract 3 (mk [c, a, b, d, e]).size = mk [d, e] := by rw [hs, ext_mk, mk_data]; rfl
  unfold zoneB
  rw [x1, x2, hs, bt0, mk_data, val2, val2]
  have hc : (5 = 5 ∧ ((c.toNat : Int) = 43 ∨ (c.toNat : Int) = 45) ∧ [c, a, b, d, e] ≠ [45, 48, 48, 48, 48] ∧ ([c, a, b, d, e].drop 1).all isDig = true) ↔ ((c.toNat = 43 ∨ c.toNat = 45) ∧ [c, a, b, d, e] ≠ [45, 48, 48, 48, 48] ∧ isDig a = true ∧ isDig b = true ∧ isDig d = true ∧ isDig e = true) := by
    rw [show [c, a, b, d, e].drop 1 = [a, b, d, e] from rfl]
    simp only [List.all_cons, List.all_nil, Bool.and_true, Bool.and_eq_true, true_and]
    constructor
    · rintro ⟨h1, h2, h3⟩; exact ⟨by omega, h2, h3⟩
    · rintro ⟨h1, h2, h3⟩; exact ⟨by omega, h2, h3⟩
  by_cases h : (c.toNat = 43 ∨ c.toNat = 45) ∧ [c, a, b, d, e] ≠ [45, 48, 48, 48, 48] ∧ isDig a = true ∧ isDig b = true ∧ isDig d = true ∧ isDig e = true
  · rw [if_pos h, if_pos (hc.2 h)]
    by_cases h2 : 60 ≤ (10 * (d.toNat - 48) + (e.toNat - 48) : Nat)
    · rw [if_pos h2, if_pos (by exact_mod_cast h2)]
    · rw [if_neg h2, if_neg (by exact_mod_cast h2)]
      by_cases h3 : c.toNat = 45
      · rw [if_pos h3, if_pos (by omega)]; congr 1; omega
      · rw [if_neg h3, if_neg (by omega)]
  · rw [if_neg h, if_neg (fun g => h (hc.1 g))]
def sgn (z : Int) : UInt8 := if z < 0 then 45 else 43
def zoneL (z : Int) : List UInt8 := sgn z :: (twoL (z.natAbs / 60) ++ twoL (z.natAbs % 60))
theorem zoneL_eq (z : Int) : zoneL z = [sgn z, dg (z.natAbs / 60 / 10 % 10), dg (z.natAbs / 60 % 10), dg (z.natAbs % 60 / 10 % 10), dg (z.natAbs % 60 % 10)] := by
  unfold zoneL; rw [twoL_eq, twoL_eq]; rfl
theorem tailL_eq (t z : Int) : tailL t z = Lib.itoa t ++ 32 :: zoneL z := rfl
theorem zone_tell (z : Int) (h0 : -5999 ≤ z) (h1 : z ≤ 5999) : zoneB (mk (zoneL z)) = (z, true) := by
  have hA : (sgn z).toNat = 43 ∨ (sgn z).toNat = 45 := by
    unfold sgn
    by_cases hz : z < 0
    · rw [if_pos hz]; exact Or.inr rfl
    · rw [if_neg hz]; exact Or.inl rfl
  have hB : [sgn z, dg (z.natAbs / 60 / 10 % 10), dg (z.natAbs / 60 % 10), dg (z.natAbs % 60 / 10 % 10), dg (z.natAbs % 60 % 10)] ≠ [45, 48, 48, 48, 48] := by
    intro e
    unfold sgn at e
    by_cases hz : z < 0
    · simp only [List.cons.injEq] at e
      obtain ⟨_, e1, e2, e3, e4, _⟩ := e
      have z0 : ∀ d, d < 10 → dg d = 48 → d = 0 := fun d hd h => by
        have := congrArg UInt8.toNat h
        rw [dg_val hd, show (48 : UInt8).toNat = 48 from rfl] at this; omega
      have f1 := z0 _ (by omega) e1
      have f2 := z0 _ (by omega) e2
      have f3 := z0 _ (by omega) e3
      have f4 := z0 _ (by omega) e4
      omega
    · rw [if_neg hz] at e
      simp at e
  rw [zoneL_eq, zone5, if_pos ⟨hA, hB, dg_isDig (by omega), dg_isDig (by omega), dg_isDig (by omega), dg_isDig (by omega)⟩]
  rw [dg_val (by omega), dg_val (by omega), dg_val (by omega), dg_val (by omega)]
  rw [if_neg (by omega)]
  by_cases hz : z < 0
  · rw [if_pos (by unfold sgn; rw [if_pos hz]; rfl)]; congr 1; omega
  · rw [if_neg (by unfold sgn; rw [if_neg hz]; decide)]; congr 1; omega
theorem named_no {s : ByteArray} (h : namedB s = true) : noA s.data.toList := by
  unfold namedB at h
  rw [Bool.and_eq_true] at h
  have ha := h.2
  rw [List.all_eq_true] at ha
  constructor
  · intro hm
    have := ha _ hm
    simp [okU] at this
  · intro hm
    have := ha _ hm
    simp [okU] at this
theorem itoa_dig (t : Int) (h : 0 ≤ t) : Lib.itoa t = Lib.decDigits t.toNat := by
  obtain ⟨n, rfl⟩ := Int.eq_ofNat_of_zero_le h
  rw [itoa_nat, Int.toNat_natCast]
theorem dec_no32 (u : Nat) : (32 : UInt8) ∉ Lib.decDigits u := by
  intro h
  have := dec_all u
  rw [List.all_eq_true] at this
  have := this _ h
  simp [isDig] at this
theorem digOk_to {l : List UInt8} (h1 : l ≠ []) (h2 : l.length ≤ 18) (h3 : 1 < l.length → l.head? ≠ some 48) (h4 : l.all isDig = true) : digOk (mk l) = true := by
  unfold digOk
  rw [Bool.and_eq_true, Bool.not_eq_true', mk_data]
  refine ⟨?_, h4⟩
  unfold offD
  rw [mk_size]
  simp only [Bool.or_eq_false_iff, decide_eq_false_iff_not, Bool.and_eq_false_imp, decide_eq_true_eq]
  cases l with
  | nil => simp at h1
  | cons c l =>
    rw [bt0]
    refine ⟨by simp, by omega, fun g e => ?_⟩
    have := h3 g
    simp only [List.head?_cons, ne_eq, Option.some.injEq] at this
    exact this (UInt8.toNat_inj.1 (by rw [show (48 : UInt8).toNat = 48 from rfl]; omega))
theorem dec_digOk (u : Nat) (h : u < 10 ^ 18) : digOk (mk (Lib.decDigits u)) = true := by
  refine digOk_to (dec_ne u) ?_ ?_ (dec_all u)
  · exact dec_len 17 u h
  · intro h1
    by_cases h2 : 10 ≤ u
    · obtain ⟨c, l, e, hc, _⟩ := dec_head u h2
      rw [e]; simpa using hc
    · rw [dec_one (by omega)] at h1; simp at h1
theorem who_parts (n m : ByteArray) (t z : Int) (hp : personB n m t z = true) : c1 (whoB n m t z) = (n.data.toList, m.data.toList ++ 62 :: 32 :: tailL t z, true) ∧ c2 (whoB n m t z) = (m.data.toList, tailL t z, true) ∧ c3 (whoB n m t z) = (Lib.decDigits t.toNat, zoneL z, true) := by
  unfold personB at hp
  simp only [Bool.and_eq_true, decide_eq_true_eq] at hp
  obtain ⟨hn, hm, h0, h1, h2, h3⟩ := hp
  have e1 : c1 (whoB n m t z) = (n.data.toList, m.data.toList ++ 62 :: 32 :: tailL t z, true) := by
    unfold c1 whoB whoL
    rw [mk_data]
    exact cut_pair 32 60 (by decide) _ _ (named_no hn).1
  have e2 : c2 (whoB n m t z) = (m.data.toList, tailL t z, true) := by
    unfold c2
    rw [e1]
    exact cut_pair' 62 32 _ _ (named_no hm).2
  refine ⟨e1, e2, ?_⟩
  unfold c3
  rw [e2, tailL_eq, itoa_dig t h0]
  exact cut_one 32 _ _ (dec_no32 _)
theorem who_back (n m : ByteArray) (t z : Int) (hp : personB n m t z = true) : parseWhoB (whoB n m t z) = (n, m, t, z, 0) := by
  obtain ⟨e1, e2, e3⟩ := who_parts n m t z hp
  have hp' := hp
  unfold personB at hp'
  simp only [Bool.and_eq_true, decide_eq_true_eq] at hp'
  obtain ⟨hn, hm, h0, h1, h2, h3⟩ := hp'
  have hz := zone_tell z (by omega) (by omega)
  unfold parseWhoB
  rw [if_pos ⟨by rw [e1], by rw [e2], by rw [e3], by rw [e3]; exact dec_digOk _ (by omega), by rw [e3, hz], by rw [e1]; exact named_no hn, by rw [e2]; exact named_no hm⟩]
  rw [e1, e2, e3, hz, mk_of, mk_of]
  have hv : valI (mk (Lib.decDigits t.toNat)) = t := by
    unfold valI; rw [mk_data, dec_val]; omega
  rw [hv]
  unfold finW
  rw [if_pos hp]
end Go.Proofs.YtbhfbbfjdklfgaaGreatDoor.Q


namespace Go.Proofs.YtbhfbbfjdklfgaaGreatDoor.Q
open Go.RowKit Go.Proofs.YtbhfbbfjdklfgaaGreatDoorW.PrintWords Go.Proofs.YtbhfbbfjdklfgaaGreatDoorW.PrintLast Go.Proofs.YtbhfbbfjdklfgaaGreatDoorW.PrintMore
attribute [local go_sem] max2_int min2_int max_two min_two max_three min_three max_four min_four   -- for this text's walks alone


end Go.Proofs.YtbhfbbfjdklfgaaGreatDoor.Q


/- Tags: what the two programs ask of a tag. -/
namespace Go.Proofs.YtbhfbbfjdklfgaaGreatDoor.Q
open Go.RowKit Go.Proofs.YtbhfbbfjdklfgaaGreatDoorW.PrintWords Go.Proofs.YtbhfbbfjdklfgaaGreatDoorW.PrintLast Go.Proofs.YtbhfbbfjdklfgaaGreatDoorW.PrintMore
theorem w_succ (n : Nat) (h : n ≤ 140737488351232) : wrap64 ((n : Int) + 1) = ((n + 1 : Nat) : Int) := by rw [wrap_id (by omega) (by omega)]; omega
def zeroB (s : ByteArray) : Bool := s.data.toList.any fun c => decide (c.toNat = 0)
theorem zero_l0 (s : ByteArray) (hs : s.size ≤ 140737488351232) : ∀ (t : List UInt8) (i : Nat), s.data.toList.drop i = t → Ev (fun k => graftageref16_zero.l0 k s i) (t.any fun c => decide (c.toNat = 0))
  | [], i, h => by
    have := sfx_end h
    exact Ev.step (f := ?_) (fun k => by rw [graftageref16_zero.l0, if_neg (by omega)]) (Ev.now _)
  | c :: t, i, h => by
    obtain ⟨hlt, hb, ht⟩ := sfx_at h
    refine Ev.step (f := ?_) (fun k => by rw [graftageref16_zero.l0, if_pos (by omega), if_pos (by omega), hb, w_succ i (by omega)]) ?_
    refine ev_ite (fun g => ev_eq (Ev.now _) ?_) (fun g => ev_eq (zero_l0 s hs t (i + 1) ht) ?_)
    · rw [List.any_cons, decide_eq_true (by omega : c.toNat = 0), Bool.true_or]
    · rw [List.any_cons, decide_eq_false (by omega : ¬ c.toNat = 0), Bool.false_or]
theorem zero_ev (s : ByteArray) (hs : s.size ≤ 140737488351232) : Ev (fun k => graftageref16_zero.f k s) (zeroB s) := zero_l0 s hs _ 0 rfl
theorem zeroB_iff (s : ByteArray) : zeroB s = true ↔ (0 : UInt8) ∈ s.data.toList := by
  unfold zeroB
  rw [List.any_eq_true]
  constructor
  · rintro ⟨c, hc, h⟩
    rw [decide_eq_true_eq] at h
    rwa [← show c = 0 from UInt8.toNat_inj.1 h]
  · intro h; exact ⟨0, h, rfl⟩
theorem contains_zero (s : ByteArray) (hs : s.size < 4294967281) : strings_Contains2.f s ⟨#[0]⟩ = some (zeroB s) := by
  unfold strings_Contains2.f
  rw [if_pos hs]
  congr 1
  have h1 := index_not 0 s.data.toList
  have hge := Lib.index_ge s.data.toList [0]
  rw [Bool.eq_iff_iff, zeroB_iff]
  unfold Lib.contains
  rw [decide_eq_true_eq]
  show 0 ≤ Lib.index s.data.toList [0] ↔ _
  constructor
  · intro h
    refine Classical.byContradiction fun h2 => ?_
    have := h1.2 h2
    omega
  · intro h
    refine Classical.byContradiction fun h2 => ?_
    exact h1.1 (by omega) h
def above (c : UInt8) : Bool := decide (32 < c.toNat)
def taggedB (s : ByteArray) : Bool := s.data.toList.all above && (decide (1 ≤ s.size) && decide (s.size ≤ 64))
def tagOk (o : ByteArray) (a : Int) (g n m : ByteArray) (t z : Int) (x : ByteArray) : Prop := idOk o = true ∧ (1 ≤ a ∧ a ≤ 4) ∧ taggedB g = true ∧ personB n m t z = true ∧ zeroB x = false
instance (o : ByteArray) (a : Int) (g n m : ByteArray) (t z : Int) (x : ByteArray) : Decidable (tagOk o a g n m t z x) := by unfold tagOk; infer_instance
end Go.Proofs.YtbhfbbfjdklfgaaGreatDoor.Q


namespace Go.Proofs.YtbhfbbfjdklfgaaGreatDoor.Q
open Go.RowKit Go.Proofs.YtbhfbbfjdklfgaaGreatDoorW.PrintWords Go.Proofs.YtbhfbbfjdklfgaaGreatDoorW.PrintLast Go.Proofs.YtbhfbbfjdklfgaaGreatDoorW.PrintMore
attribute [local go_sem] max2_int min2_int max_two min_two max_three min_three max_four min_four   -- for this text's walks alone

end Go.Proofs.YtbhfbbfjdklfgaaGreatDoor.Q


/- Lines: the program's reader and the reference's offsets read the same lines. -/
namespace Go.Proofs.YtbhfbbfjdklfgaaGreatDoor.Q
open Go.RowKit Go.Proofs.YtbhfbbfjdklfgaaGreatDoorW.PrintWords Go.Proofs.YtbhfbbfjdklfgaaGreatDoorW.PrintLast Go.Proofs.YtbhfbbfjdklfgaaGreatDoorW.PrintMore
/-- the line in front, its word cut off; what is left; whether there was one -/
def lineF (u p : List UInt8) : List UInt8 × List UInt8 × Bool := if (Lib.cut u [10]).2.2 = true ∧ (Lib.cut u [10]).1.take p.length = p then ((Lib.cut u [10]).1.drop p.length, (Lib.cut u [10]).2.1, true) else ([], u, false)
theorem lineF_len (u p : List UInt8) : (lineF u p).1.length ≤ u.length ∧ (lineF u p).2.1.length ≤ u.length := by
  have h := cut_len u [10]
  unfold lineF
  split
  · show (List.drop p.length (Lib.cut u [10]).1).length ≤ u.length ∧ (Lib.cut u [10]).2.1.length ≤ u.length
    rw [List.length_drop]; constructor <;> omega
  · simp
theorem fail_two (s : ByteArray) (e : Int) : commit_reader_fail.f s e 2 = some (s, 2) := by
  unfold commit_reader_fail.f
  by_cases h : e = 0
  · rw [if_pos h]
  · rw [if_neg h, if_pos rfl]
theorem CutPrefix_eq (s p : ByteArray) : strings_CutPrefix.f s p = some (if s.data.toList.take p.size = p.data.toList then (mk (s.data.toList.drop p.size), true) else (s, false)) := by
  have hx : (s.extract 0 p.size).toList = s.data.toList.take p.size := by rw [ByteArray.toList_eq, ext_data]; simp
  have hy : s.extract p.size s.size = mk (s.data.toList.drop p.size) := by
    rw [ext_mk, List.take_of_length_le]
    rw [List.length_drop, size_of]; omega
  unfold strings_CutPrefix.f stringslite_CutPrefix.f stringslite_HasPrefix.f
  by_cases h : (s.size : Int) ≥ (p.size : Int)
  · rw [if_pos h, if_pos (by omega), if_pos (by omega), hx, ByteArray.toList_eq p]
    simp only [Option.bind_some]
    by_cases g : s.data.toList.take p.size = p.data.toList
    · rw [if_pos g, if_pos (by rw [g]; simp), if_pos (by omega), if_pos (by omega), hy]; rfl
    · rw [if_neg g, if_neg (by simpa using g)]; rfl
  · rw [if_neg h]
    simp only [Option.bind_some]
    rw [if_neg (by decide), if_neg (fun e => ?_)]
    · rfl
    · have := congrArg List.length e
      rw [List.length_take, size_of, size_of] at this
      omega
theorem line_eq (s : ByteArray) (e : Int) (p : ByteArray) (hs : s.size < 4294967281) : commit_reader_line.f s e p = some (mk (lineF s.data.toList p.data.toList).1, mk (lineF s.data.toList p.data.toList).2.1, if (lineF s.data.toList p.data.toList).2.2 = true then e else 2) := by
  unfold commit_reader_line.f
  rw [Cut_eq s ⟨#[10]⟩ hs]
  simp only [Option.bind_some]
  rw [CutPrefix_eq, mk_data]
  simp only [Option.bind_some]
  rw [fail_two]
  simp only [Option.bind_some]
  generalize hl : lineF s.data.toList p.data.toList = L
  unfold lineF at hl
  rw [size_of] at hl
  show (if (Lib.cut s.data.toList [10]).2.2 = true then (if (if (Lib.cut s.data.toList [10]).1.take p.size = p.data.toList then (mk ((Lib.cut s.data.toList [10]).1.drop p.size), true) else (mk (Lib.cut s.data.toList [10]).1, false)).2 = true then some ((if (Lib.cut s.data.toList [10]).1.take p.size = p.data.toList then (mk ((Lib.cut s.data.toList [10]).1.drop p.size), true) else (mk (Lib.cut s.data.toList [10]).1, false)).1, mk (Lib.cut s.data.toList [10]).2.1, e) else some ((⟨#[]⟩ : ByteArray), s, 2)) else some ((⟨#[]⟩ : ByteArray), s, 2)) = _
  by_cases g1 : (Lib.cut s.data.toList [10]).2.2 = true
  · by_cases g2 : (Lib.cut s.data.toList [10]).1.take p.size = p.data.toList
    · rw [if_pos ⟨g1, g2⟩] at hl
      subst hl
      rw [if_pos g1, if_pos g2, if_pos rfl, if_pos rfl]
    · rw [if_neg (fun h => g2 h.2)] at hl
      subst hl
      rw [if_pos g1, if_neg g2, if_neg Bool.false_ne_true, if_neg Bool.false_ne_true, mk_of]; rfl
  · rw [if_neg (fun h => g1 h.1)] at hl
    subst hl
    rw [if_neg g1, if_neg Bool.false_ne_true, mk_of]; rfl
end Go.Proofs.YtbhfbbfjdklfgaaGreatDoor.Q


/- Tags: the program's reading of a tag. -/
namespace Go.Proofs.YtbhfbbfjdklfgaaGreatDoor.Q
open Go.RowKit Go.Proofs.YtbhfbbfjdklfgaaGreatDoorW.PrintWords Go.Proofs.YtbhfbbfjdklfgaaGreatDoorW.PrintLast Go.Proofs.YtbhfbbfjdklfgaaGreatDoorW.PrintMore
theorem who_code (s : ByteArray) : (parseWhoB s).2.2.2.2 = 0 ∨ (parseWhoB s).2.2.2.2 = 1 ∨ (parseWhoB s).2.2.2.2 = 2 := by
  unfold parseWhoB finW
  repeat' split
  all_goals simp
theorem id_ev (s : ByteArray) (e : Int) (p : ByteArray) (hs : s.size < 4294967281) : Ev (fun k => commit_reader_id.f k s e p) (mk (lineF s.data.toList p.data.toList).1, mk (lineF s.data.toList p.data.toList).2.1, if (lineF s.data.toList p.data.toList).2.2 = true ∧ idOk (mk (lineF s.data.toList p.data.toList).1) = true then e else 2) := by
  unfold commit_reader_id.f
  rw [line_eq s e p hs]
  simp only [Option.bind_some]
  generalize lineF s.data.toList p.data.toList = L
  refine Ev.bind (ident_Is_ev _) (ev_ite (fun g => ev_eq (Ev.now _) ?_) (fun g => ?_))
  · by_cases h : L.2.2 = true
    · rw [if_pos h, if_pos ⟨h, g⟩]
    · rw [if_neg h, if_neg (fun q => h q.1)]
  · rw [fail_two]
    simp only [Option.bind_some]
    rw [if_neg (fun q => g q.2)]
    exact Ev.now _
def errW2 (e c : Int) : Int := if c = 0 then e else if e = 0 then c else if c = 2 then 2 else e
theorem who_ev (s : ByteArray) (e : Int) (p : ByteArray) (hs : s.size ≤ 4294967000) : Ev (fun k => commit_reader_who.f k s e p)
    ((parseWhoB (mk (lineF s.data.toList p.data.toList).1)).1, (parseWhoB (mk (lineF s.data.toList p.data.toList).1)).2.1, (parseWhoB (mk (lineF s.data.toList p.data.toList).1)).2.2.1, (parseWhoB (mk (lineF s.data.toList p.data.toList).1)).2.2.2.1, mk (lineF s.data.toList p.data.toList).2.1,
      errW2 (if (lineF s.data.toList p.data.toList).2.2 = true then e else 2) (parseWhoB (mk (lineF s.data.toList p.data.toList).1)).2.2.2.2) := by
  have hl := (lineF_len s.data.toList p.data.toList).1
  rw [size_of] at hl
  unfold commit_reader_who.f
  rw [line_eq s e p (by omega)]
  simp only [Option.bind_some]
  generalize lineF s.data.toList p.data.toList = L at *
  refine Ev.bind (ParseWho_ev _ (by rw [mk_size]; omega)) ?_
  generalize parseWhoB (mk L.1) = W
  generalize (if L.2.2 = true then e else 2) = f
  refine ev_ite (fun g => ev_eq (Ev.now _) ?_) (fun g => ?_)
  · unfold errW2; rw [if_pos g]
  · unfold errW2; rw [if_neg g]
    unfold commit_reader_fail.f
    by_cases h : f = 0
    · rw [if_pos h, if_pos h]; exact Ev.now _
    · rw [if_neg h, if_neg h]
      by_cases h2 : W.2.2.2.2 = 2
      · rw [if_pos h2, if_pos h2, h2]; exact Ev.now _
      · rw [if_neg h2, if_neg h2]; exact Ev.now _
def tL1 (s : ByteArray) := lineF s.data.toList [111, 98, 106, 101, 99, 116, 32]
def tL2 (s : ByteArray) := lineF (tL1 s).2.1 [116, 121, 112, 101, 32]
def tL3 (s : ByteArray) := lineF (tL2 s).2.1 [116, 97, 103, 32]
def tL4 (s : ByteArray) := lineF (tL3 s).2.1 [116, 97, 103, 103, 101, 114, 32]
def tL5 (s : ByteArray) := lineF (tL4 s).2.1 []
def tWho (s : ByteArray) := parseWhoB (mk (tL4 s).1)
def tKind (s : ByteArray) : Int := kindF (mk (tL2 s).1) 4 0
def tGood (s : ByteArray) : Prop := (tL1 s).2.2 = true ∧ idOk (mk (tL1 s).1) = true ∧ (tL2 s).2.2 = true ∧ tKind s ≠ 0 ∧ (tL3 s).2.2 = true ∧ (tL4 s).2.2 = true ∧ (tWho s).2.2.2.2 ≠ 2 ∧ (tL5 s).2.2 = true ∧ (tL5 s).1 = []
instance (s : ByteArray) : Decidable (tGood s) := by unfold tGood; infer_instance
abbrev TagR := ByteArray × Int × ByteArray × ByteArray × ByteArray × Int × Int × ByteArray × Int
theorem who_len (s : ByteArray) : (parseWhoB s).1.size ≤ s.size ∧ (parseWhoB s).2.1.size ≤ s.size := by
  obtain ⟨l1, l2, l3⟩ := c_len s
  unfold parseWhoB finW
  repeat' split
  all_goals (try simp only [mk_size]); (try constructor) <;> (first | omega | exact Nat.zero_le _)
end Go.Proofs.YtbhfbbfjdklfgaaGreatDoor.Q


namespace Go.Proofs.YtbhfbbfjdklfgaaGreatDoor.Q
open Go.RowKit Go.Proofs.YtbhfbbfjdklfgaaGreatDoorW.PrintWords Go.Proofs.YtbhfbbfjdklfgaaGreatDoorW.PrintLast Go.Proofs.YtbhfbbfjdklfgaaGreatDoorW.PrintMore
attribute [local go_sem] max2_int min2_int max_two min_two max_three min_three max_four min_four   -- for this text's walks alone



def graftageref16_ParseTag.T6 : Bool × List (List Nat × List Nat) := (true, [([], []), ([], []), ([1], [1]), ([], []), ([], []), ([0, 2, 3, 4], [0, 2, 3, 4]), ([], []), ([6, 5, 2, 0, 1, 2, 3, 4, 5, 6], [5, 6])])
def graftageref16_ParseTag.B6 : List Nat := [0, 0, 2, 0, 0, 31, 0, 127]
theorem graftageref16_ParseTag.tab6 : rtab .any (opsOf Tryz.f24 6) = graftageref16_ParseTag.T6 := by kernel_rfl
theorem graftageref16_ParseTag.bits6 : waitsOk graftageref16_ParseTag.T6.2 graftageref16_ParseTag.B6 = true := by kernel_rfl
end Go.Proofs.YtbhfbbfjdklfgaaGreatDoor.Q


/- Tags: the reference's reading of a tag. -/
namespace Go.Proofs.YtbhfbbfjdklfgaaGreatDoor.Q
open Go.RowKit Go.Proofs.YtbhfbbfjdklfgaaGreatDoorW.PrintWords Go.Proofs.YtbhfbbfjdklfgaaGreatDoorW.PrintLast Go.Proofs.YtbhfbbfjdklfgaaGreatDoorW.PrintMore
theorem lineF_cons (r : List UInt8) : lineF (10 :: r) [] = ([], r, true) := by
  unfold lineF
  have : Lib.cut (10 :: r) [10] = ([], r, true) := cut_one 10 [] r (by simp)
  rw [this]; simp
end Go.Proofs.YtbhfbbfjdklfgaaGreatDoor.Q


namespace Go.Proofs.YtbhfbbfjdklfgaaGreatDoor.Q
open Go.RowKit Go.Proofs.YtbhfbbfjdklfgaaGreatDoorW.PrintWords Go.Proofs.YtbhfbbfjdklfgaaGreatDoorW.PrintLast Go.Proofs.YtbhfbbfjdklfgaaGreatDoorW.PrintMore
attribute [local go_sem] max2_int min2_int max_two min_two max_three min_three max_four min_four   -- for this text's walks alone

def graftageref16_TagBody.T4 : Bool × List (List Nat × List Nat) := (true, [([], []), ([0], [0]), ([1], [1]), ([2], [2]), ([], []), ([4], [4]), ([5], [5]), ([3, 6], [3, 6]), ([7], [7]), ([], []), ([9], [9]), ([8, 10], [8, 10]), ([11], [11]), ([], []), ([13], [13]), ([14, 6], [14]), ([12, 15], [12, 15]), ([16], [16]), ([], []), ([18], [18]), ([17, 19], [17, 19]), ([20, 15, 0, 1, 2, 3, 4, 5, 6, 7, 8, 9, 10, 11, 12, 13, 14, 15, 16, 17, 18, 19, 20], [20]), ([21, 0, 1, 2, 3, 4, 5, 6, 7, 8, 9, 10, 11, 12, 13, 14, 15, 16, 17, 18, 19, 20, 21], [])])
def graftageref16_TagBody.B4 : List Nat := [0, 1, 3, 7, 0, 16, 48, 127, 255, 0, 512, 2047, 4095, 0, 8192, 24688, 65535, 131071, 0, 262144, 1048575, 2097151, 4194303]
theorem graftageref16_TagBody.tab4 : rtab .any (opsOf Tryz.f26 4) = graftageref16_TagBody.T4 := by kernel_rfl
theorem graftageref16_TagBody.bits4 : waitsOk graftageref16_TagBody.T4.2 graftageref16_TagBody.B4 = true := by kernel_rfl
end Go.Proofs.YtbhfbbfjdklfgaaGreatDoor.Q


/- Tags: the text of a tag, there and back. -/
namespace Go.Proofs.YtbhfbbfjdklfgaaGreatDoor.Q
open Go.RowKit Go.Proofs.YtbhfbbfjdklfgaaGreatDoorW.PrintWords Go.Proofs.YtbhfbbfjdklfgaaGreatDoorW.PrintLast Go.Proofs.YtbhfbbfjdklfgaaGreatDoorW.PrintMore
theorem idOk_no10 {o : ByteArray} (h : idOk o = true) : (10 : UInt8) ∉ o.data.toList := by
  unfold idOk at h
  rw [Bool.and_eq_true] at h
  intro hm
  obtain ⟨j, hj, e⟩ := List.getElem_of_mem hm
  have hj' : j < o.size := by rw [← size_of]; exact hj
  have h1 := hexF_at o o.size 0 h.2 j (Nat.zero_le _) (by omega)
  rw [bt_get o j hj', e] at h1
  exact absurd h1 (by decide)
theorem named_no10 {s : ByteArray} (h : namedB s = true) : (10 : UInt8) ∉ s.data.toList := by
  unfold namedB at h
  rw [Bool.and_eq_true] at h
  intro hm
  have := List.all_eq_true.1 h.2 _ hm
  exact absurd this (by decide)
theorem dec_no10 (u : Nat) : (10 : UInt8) ∉ Lib.decDigits u := by
  intro hm
  have := List.all_eq_true.1 (dec_all u) _ hm
  exact absurd this (by decide)
theorem dg_no10 {d : Nat} (h : d < 10) : (10 : UInt8) ≠ dg d := by
  intro e
  have := congrArg UInt8.toNat e
  rw [dg_val h] at this
  have e10 : (10 : UInt8).toNat = 10 := rfl
  omega
theorem zoneL_no10 (z : Int) : (10 : UInt8) ∉ zoneL z := by
  rw [zoneL_eq]
  simp only [List.mem_cons, List.not_mem_nil, or_false, not_or]
  refine ⟨?_, dg_no10 (by omega), dg_no10 (by omega), dg_no10 (by omega), dg_no10 (by omega)⟩
  unfold sgn
  split <;> decide
theorem who_no10 {n m : ByteArray} {t z : Int} (hp : personB n m t z = true) : (10 : UInt8) ∉ whoL n.data.toList m.data.toList t z := by
  unfold personB at hp
  simp only [Bool.and_eq_true, decide_eq_true_eq] at hp
  obtain ⟨hn, hm, h0, h1, h2, h3⟩ := hp
  unfold whoL
  rw [tailL_eq, itoa_dig t h0]
  simp only [List.mem_append, List.mem_cons, not_or]
  exact ⟨named_no10 hn, by decide, by decide, named_no10 hm, by decide, by decide, dec_no10 _, by decide, zoneL_no10 z⟩
theorem lineF_of (p a r : List UInt8) (hp : (10 : UInt8) ∉ p) (ha : (10 : UInt8) ∉ a) : lineF (p ++ (a ++ 10 :: r)) p = (a, r, true) := by
  unfold lineF
  have : Lib.cut (p ++ (a ++ 10 :: r)) [10] = (p ++ a, r, true) := by
    rw [← List.append_assoc]
    exact cut_one 10 (p ++ a) r (by rw [List.mem_append]; exact fun h => h.elim hp ha)
  rw [this]
  show (if true = true ∧ (p ++ a).take p.length = p then ((p ++ a).drop p.length, r, true) else _) = _
  rw [take_pre p a p.length rfl, drop_pre p a p.length rfl, if_pos ⟨rfl, rfl⟩]
theorem lineF_text {u p : List UInt8} (h : (lineF u p).2.2 = true) : u = p ++ ((lineF u p).1 ++ 10 :: (lineF u p).2.1) := by
  unfold lineF at h ⊢
  split at h
  · rename_i g
    rw [if_pos g]
    have e := (cut_text (l := u) (s := [10]) (a := (Lib.cut u [10]).1) (b := (Lib.cut u [10]).2.1) (by decide) (by rw [← g.1])).1
    show u = p ++ ((Lib.cut u [10]).1.drop p.length ++ 10 :: (Lib.cut u [10]).2.1)
    have q := List.take_append_drop p.length (Lib.cut u [10]).1
    rw [g.2] at q
    rw [← List.append_assoc, q]
    simpa using e
  · cases h
theorem named_len {s : ByteArray} (h : namedB s = true) : s.size ≤ 64 := by
  unfold namedB edge at h
  simp only [Bool.and_eq_true, Bool.not_eq_true', Bool.or_eq_false_iff, decide_eq_false_iff_not] at h
  omega
theorem person_facts {n m : ByteArray} {t z : Int} (hp : personB n m t z = true) : n.size ≤ 64 ∧ m.size ≤ 64 ∧ 0 ≤ t ∧ t ≤ 1099511627776 ∧ -840 ≤ z ∧ z ≤ 840 := by
  unfold personB at hp
  simp only [Bool.and_eq_true, decide_eq_true_eq] at hp
  exact ⟨named_len hp.1, named_len hp.2.1, hp.2.2.1, hp.2.2.2.1, hp.2.2.2.2.1, hp.2.2.2.2.2⟩
theorem whoL_len {n m : ByteArray} {t z : Int} (hp : personB n m t z = true) : (whoL n.data.toList m.data.toList t z).length ≤ 200 := by
  obtain ⟨l1, l2, h0, h1, _, _⟩ := person_facts hp
  unfold whoL
  rw [tailL_eq]
  simp only [List.length_append, List.length_cons, size_of, zoneL_eq, List.length_nil]
  have := itoa_len t (by omega) (by omega)
  omega
theorem id_size {o : ByteArray} (h : idOk o = true) : o.size = 40 := by
  unfold idOk at h
  rw [Bool.and_eq_true, decide_eq_true_eq] at h
  exact h.1
end Go.Proofs.YtbhfbbfjdklfgaaGreatDoor.Q


/- Commits: what the two programs ask of a commit. -/
namespace Go.Proofs.YtbhfbbfjdklfgaaGreatDoor.Q
open Go.RowKit Go.Proofs.YtbhfbbfjdklfgaaGreatDoorW.PrintWords Go.Proofs.YtbhfbbfjdklfgaaGreatDoorW.PrintLast Go.Proofs.YtbhfbbfjdklfgaaGreatDoorW.PrintMore
theorem idxF_ev (l : List ByteArray) (hl : l.length ≤ 140737488351232) (g : ByteArray → Option Bool) (p : ByteArray → Bool) (hg : ∀ z, g z = some (p z)) : ∀ (d i : Nat), i + d = l.length → ∃ r : Int, Ev (fun k => slices_IndexFunc_string_string.l0 k l g (l.length : Int) i) r ∧ decide (r ≥ 0) = (l.drop i).any p
  | 0, i, h => ⟨-1, Ev.step (f := ?_) (fun k => by rw [slices_IndexFunc_string_string.l0, if_neg (by omega)]) (Ev.now _), by rw [List.drop_of_length_le (by omega)]; rfl⟩
  | d + 1, i, h => by
    have hi : i < l.length := by omega
    rw [List.drop_eq_getElem_cons hi, List.any_cons]
    cases hp : p l[i] with
    | true => exact ⟨(i : Int), Ev.step (f := ?_) (fun k => by rw [slices_IndexFunc_string_string.l0, if_pos (by omega), if_pos (by omega), if_pos (by omega), rd_ext l i hi, hg, Option.bind_some]) (ev_yes hp (Ev.now _)), by simp⟩
    | false =>
      obtain ⟨r, h1, h2⟩ := idxF_ev l hl g p hg d (i + 1) (by omega)
      exact ⟨r, Ev.step (f := ?_) (fun k => by rw [slices_IndexFunc_string_string.l0, if_pos (by omega), if_pos (by omega), if_pos (by omega), rd_ext l i hi, hg, Option.bind_some, w_succ i (by omega)]) (ev_no (show ¬ p l[i] = true by rw [hp]; decide) h1), by simpa using h2⟩
theorem containsF_ev (l : List ByteArray) (hl : l.length ≤ 140737488351232) (g : ByteArray → Option Bool) (p : ByteArray → Bool) (hg : ∀ z, g z = some (p z)) : Ev (fun k => slices_ContainsFunc_string_string.f k l g) (l.any p) := by
  obtain ⟨r, h1, h2⟩ := idxF_ev l hl g p hg l.length 0 (by omega)
  refine Ev.bind h1 (ev_eq (Ev.now _) ?_)
  rw [h2, List.drop_zero]
def dupL : List (List UInt8) → List ByteArray → Bool
  | _, [] => false
  | seen, p :: r => decide (p.data.toList ∈ seen) || dupL (seen ++ [p.data.toList]) r
theorem chk_l0 (l : List ByteArray) (hl : l.length ≤ 140737488351232) (hs : ∀ p ∈ l, p.size ≤ 140737488351232) : ∀ (u : List ByteArray) (i : Nat) (seen : List (List UInt8)) (m : MSB), l.drop i = u → i ≤ l.length → m.n ≤ i → (∀ y, m.f y = if y ∈ seen then some true else none) → Ev (fun k => commit_Check.l0 k l (l.length : Int) i m) (if dupL seen u = true then 6 else 0)
  | [], i, seen, m, h, hi, hm, hf => by
    have : l.length ≤ i := by have := congrArg List.length h; rw [List.length_drop] at this; simp at this; omega
    exact Ev.step (f := ?_) (fun k => by rw [commit_Check.l0, if_neg (by omega)]) (Ev.now _)
  | p :: r, i, seen, m, h, hi, hm, hf => by
    have hlt : i < l.length := by have := congrArg List.length h; rw [List.length_drop, List.length_cons] at this; omega
    rw [List.drop_eq_getElem_cons hlt] at h
    obtain ⟨h1, h2⟩ := List.cons.inj h
    have hsz := hs l[i] (List.getElem_mem hlt)
    refine Ev.step (f := ?_) (fun k => by rw [commit_Check.l0, if_pos (by omega), if_pos (by omega), if_pos (by omega), rd_ext l i hlt, if_pos (by omega), w_succ i (by omega)]) ?_
    rw [h1] at hsz ⊢
    have hget : MSB.get m p = decide (p.data.toList ∈ seen) := by
      unfold MSB.get
      rw [hf]
      by_cases q : p.data.toList ∈ seen
      · rw [if_pos q, decide_eq_true q]; rfl
      · rw [if_neg q, decide_eq_false q]; rfl
    rw [dupL]
    refine ev_ite (fun g => ?_) (fun g => ?_)
    · rw [hget] at g
      rw [g, Bool.true_or, if_pos rfl]; exact Ev.now _
    · rw [hget, Bool.not_eq_true] at g
      rw [g, Bool.false_or]
      refine ev_yes (by omega) (chk_l0 l hl hs r (i + 1) (seen ++ [p.data.toList]) (MSB.put m p true) h2 (by omega) (show m.n + 1 ≤ i + 1 by omega) (fun y => ?_))
      show (if y = p.data.toList then some true else m.f y) = _
      rw [hf]
      by_cases q : y = p.data.toList
      · rw [if_pos q, if_pos (by rw [List.mem_append]; exact Or.inr (by simp [q]))]
      · rw [if_neg q]
        by_cases q2 : y ∈ seen
        · rw [if_pos q2, if_pos (by rw [List.mem_append]; exact Or.inl q2)]
        · rw [if_neg q2, if_neg (by rw [List.mem_append]; simp [q, q2])]
section
variable (t : ByteArray) (l : List ByteArray) (an am : ByteArray) (aq az : Int) (cn cm : ByteArray) (cq cz : Int) (x : ByteArray)
theorem dup_l2 (hl : l.length ≤ 140737488351232) (i : Nat) (hi : i < l.length) (R : Int) (hR : Ev (fun k => graftageref16_Check.l1 k ((i + 1 : Nat) : Int) t l an am aq az cn cm cq cz x) R) : ∀ (e j : Nat), j + e = i →
    Ev (fun k => graftageref16_Check.l2 k i j t l an am aq az cn cm cq cz x) (if l[i].data.toList ∈ ((l.take i).drop j).map (fun p => p.data.toList) then 6 else R)
  | 0, j, h => by
    have : (l.take i).drop j = [] := List.drop_of_length_le (by rw [List.length_take]; omega)
    rw [this, if_neg (by simp)]
    exact Ev.step (f := ?_) (fun k => by rw [graftageref16_Check.l2, if_neg (by omega), w_succ i (by omega)]) hR
  | e + 1, j, h => by
    have hj : j < l.length := by omega
    have hd : (l.take i).drop j = l[j] :: (l.take i).drop (j + 1) := by
      rw [List.drop_eq_getElem_cons (by rw [List.length_take]; omega), List.getElem_take]
    rw [hd, List.map_cons]
    refine Ev.step (f := ?_) (fun k => by rw [graftageref16_Check.l2, if_pos (by omega), if_pos (by omega), if_pos (by omega), if_pos (by omega), if_pos (by omega), rd_ext l i hi, rd_ext l j hj, w_succ j (by omega)]) ?_
    refine ev_ite (fun g => ?_) (fun g => ?_)
    · rw [ByteArray.toList_eq, ByteArray.toList_eq] at g
      rw [if_pos (List.mem_cons.2 (Or.inl g))]; exact Ev.now _
    · rw [ByteArray.toList_eq, ByteArray.toList_eq] at g
      refine ev_eq (dup_l2 hl i hi R hR e (j + 1) (by omega)) ?_
      by_cases q : l[i].data.toList ∈ ((l.take i).drop (j + 1)).map (fun p => p.data.toList)
      · rw [if_pos q, if_pos (List.mem_cons.2 (Or.inr q))]
      · rw [if_neg q, if_neg (fun z => (List.mem_cons.1 z).elim g q)]
theorem dup_l1 (hl : l.length ≤ 140737488351232) : ∀ (d i : Nat), i + d = l.length → Ev (fun k => graftageref16_Check.l1 k i t l an am aq az cn cm cq cz x) (if dupL ((l.take i).map (fun p => p.data.toList)) (l.drop i) = true then 6 else 0)
  | 0, i, h => by
    rw [List.drop_of_length_le (by omega)]
    exact Ev.step (f := ?_) (fun k => by rw [graftageref16_Check.l1, if_neg (by omega)]) (Ev.now _)
  | d + 1, i, h => by
    have hi : i < l.length := by omega
    have ih := dup_l1 hl d (i + 1) (by omega)
    refine Ev.step (f := ?_) (fun k => by rw [graftageref16_Check.l1, if_pos (by omega)]) (ev_eq (dup_l2 t l an am aq az cn cm cq cz x hl i hi _ ih i 0 (by omega)) ?_)
    rw [List.drop_zero, List.drop_eq_getElem_cons hi, dupL, List.take_succ_eq_append_getElem hi, List.map_append]
    by_cases q : l[i].data.toList ∈ (l.take i).map (fun p => p.data.toList)
    · rw [if_pos q, decide_eq_true q, Bool.true_or, if_pos rfl]
    · rw [if_neg q, decide_eq_false q, Bool.false_or]; rfl
def comOk : Prop := idOk t = true ∧ (∀ p ∈ l, idOk p = true) ∧ personB an am aq az = true ∧ personB cn cm cq cz = true ∧ zeroB x = false
instance : Decidable (comOk t l an am aq az cn cm cq cz x) := by unfold comOk; infer_instance
def checkB : Int := if comOk t l an am aq az cn cm cq cz x then (if x.size > 4096 ∨ l.length > 8 then 4 else if dupL [] l = true then 6 else 0) else 1
theorem any_not_id : l.any (fun p => !idOk p) = true ↔ ¬ ∀ p ∈ l, idOk p = true := by
  rw [List.any_eq_true]
  constructor
  · rintro ⟨p, hp, h⟩ q
    rw [q p hp] at h; cases h
  · intro h
    refine Classical.byContradiction fun g => h (fun p hp => ?_)
    cases e : idOk p with
    | true => rfl
    | false => exact absurd ⟨p, hp, by rw [e]; rfl⟩ g
theorem Check_ev (hl : l.length ≤ 140737488351232) (hn : an.size ≤ 140737488351232) (hm : am.size ≤ 140737488351232) (hcn : cn.size ≤ 140737488351232) (hcm : cm.size ≤ 140737488351232) (hx : x.size < 4294967281) : Ev (fun k => commit_Check.f k t l an am aq az cn cm cq cz x) (checkB t l an am aq az cn cm cq cz x) := by
  have bad : ¬ comOk t l an am aq az cn cm cq cz x → Ev (fun k => commit_Check.j0 k true t l an am aq az cn cm cq cz x) (checkB t l an am aq az cn cm cq cz x) := fun h => by
    unfold checkB; rw [if_neg h]
    exact Ev.step (f := ?_) (fun k => by rw [commit_Check.j0, if_pos rfl]) (Ev.now _)
  refine Ev.bind (Ev.now (!idOk t)) (ev_ite (fun g1 => bad (fun e => by rw [e.1] at g1; cases g1)) (fun g1 => ?_))
  refine Ev.bind (containsF_ev l hl _ (fun p => !idOk p) (fun z => rfl)) (ev_ite (fun g2 => bad (fun e => (any_not_id l).1 g2 e.2.1)) (fun g2 => ?_))
  refine Ev.bind (somebody_ev an am aq az hn hm) (ev_ite (fun g3 => ?_) (fun g3 => bad (fun e => g3 e.2.2.1)))
  refine Ev.bind (somebody_ev cn cm cq cz hcn hcm) (ev_ite (fun g4 => ?_) (fun g4 => bad (fun e => g4 e.2.2.2.1)))
  rw [contains_zero x hx]
  simp only [Option.bind_some]
  cases g5 : zeroB x with
  | true => exact bad (fun e => by have := e.2.2.2.2; rw [g5] at this; cases this)
  | false =>
    have hid : ∀ p ∈ l, idOk p = true := Classical.byContradiction fun h => g2 ((any_not_id l).2 h)
    have ok : comOk t l an am aq az cn cm cq cz x := ⟨by simpa using g1, hid, g3, g4, g5⟩
    unfold checkB
    rw [if_pos ok]
    refine Ev.step (f := ?_) (fun k => by rw [commit_Check.j0, if_neg (by decide)]) (ev_ite (fun h => ?_) (fun h => ?_))
    · rw [if_pos (Or.inl (by omega))]
      exact Ev.step (f := ?_) (fun k => by rw [commit_Check.j1, if_pos rfl]) (Ev.now _)
    · by_cases h2 : (l.length : Int) > 8
      · rw [if_pos (Or.inr (by omega)), decide_eq_true h2]
        exact Ev.step (f := ?_) (fun k => by rw [commit_Check.j1, if_pos rfl]) (Ev.now _)
      · rw [if_neg (fun z => z.elim (fun q => h (by omega)) (fun q => h2 (by omega))), decide_eq_false h2]
        refine Ev.step (f := ?_) (fun k => by rw [commit_Check.j1, if_neg (by decide)]) ?_
        exact chk_l0 l hl (fun p hp => by have := id_size (hid p hp); omega) l 0 [] MSB.nil (List.drop_zero) (Nat.zero_le _) (Nat.zero_le _) (fun y => by simp [MSB.nil])
theorem refCheck_bad (hl : l.length ≤ 140737488351232) : ∀ (d i : Nat), i + d = l.length → Ev (fun k => graftageref16_Check.l0 k true i t l an am aq az cn cm cq cz x) 1
  | 0, i, h => Ev.step (f := ?_) (fun k => by rw [graftageref16_Check.l0, if_neg (by omega), if_pos rfl]) (Ev.now _)
  | d + 1, i, h => Ev.step (f := ?_) (fun k => by rw [graftageref16_Check.l0, if_pos (by omega), if_pos rfl, w_succ i (by omega)]) (refCheck_bad hl d (i + 1) (by omega))
theorem refCheck_good (hl : l.length ≤ 140737488351232) (R : Int) (hR : Ev (fun k => if (x.size : Int) > 4096 then graftageref16_Check.j2 k true t l an am aq az cn cm cq cz x else graftageref16_Check.j2 k (decide ((l.length : Int) > 8)) t l an am aq az cn cm cq cz x) R) : ∀ (d i : Nat), i + d = l.length →
    Ev (fun k => graftageref16_Check.l0 k false i t l an am aq az cn cm cq cz x) (if (l.drop i).any (fun p => !idOk p) = true then 1 else R)
  | 0, i, h => by
    rw [List.drop_of_length_le (by omega)]
    exact Ev.step (f := ?_) (fun k => by rw [graftageref16_Check.l0, if_neg (by omega), if_neg (by decide)]) hR
  | d + 1, i, h => by
    have hi : i < l.length := by omega
    rw [List.drop_eq_getElem_cons hi, List.any_cons]
    refine Ev.step (f := ?_) (fun k => by rw [graftageref16_Check.l0, if_pos (by omega), if_neg (by decide), if_pos (by omega), rd_ext l i hi, w_succ i (by omega)]) ?_
    refine Ev.bind (ref_idIs_ev l[i]) ?_
    cases e : idOk l[i] with
    | true => exact refCheck_good hl R hR d (i + 1) (by omega)
    | false => exact refCheck_bad t l an am aq az cn cm cq cz x hl d (i + 1) (by omega)
theorem refCheck_ev (hl : l.length ≤ 140737488351232) (hn : an.size ≤ 140737488351232) (hm : am.size ≤ 140737488351232) (hcn : cn.size ≤ 140737488351232) (hcm : cm.size ≤ 140737488351232) (hx : x.size < 4294967281) : Ev (fun k => graftageref16_Check.f k t l an am aq az cn cm cq cz x) (checkB t l an am aq az cn cm cq cz x) := by
  have bad : ¬ comOk t l an am aq az cn cm cq cz x → Ev (fun k => graftageref16_Check.j0 k true t l an am aq az cn cm cq cz x) (checkB t l an am aq az cn cm cq cz x) := fun h => by
    unfold checkB; rw [if_neg h]
    exact Ev.step (f := ?_) (fun k => by rw [graftageref16_Check.j0]) (refCheck_bad t l an am aq az cn cm cq cz x hl l.length 0 (by omega))
  refine Ev.bind (ref_idIs_ev t) (ev_ite (fun g1 => ?_) (fun g1 => bad (fun e => g1 e.1)))
  refine Ev.bind (Person_ev an am aq az hn hm) (ev_ite (fun g3 => ?_) (fun g3 => bad (fun e => g3 e.2.2.1)))
  refine Ev.bind (Person_ev cn cm cq cz hcn hcm) (ev_ite (fun g4 => ?_) (fun g4 => bad (fun e => g4 e.2.2.2.1)))
  refine Ev.bind (zero_ev x (by omega)) ?_
  cases g5 : zeroB x with
  | true => exact bad (fun e => by have := e.2.2.2.2; rw [g5] at this; cases this)
  | false =>
    have tail : Ev (fun k => if (x.size : Int) > 4096 then graftageref16_Check.j2 k true t l an am aq az cn cm cq cz x else graftageref16_Check.j2 k (decide ((l.length : Int) > 8)) t l an am aq az cn cm cq cz x) (if x.size > 4096 ∨ l.length > 8 then 4 else if dupL [] l = true then 6 else 0) := by
      refine ev_ite (fun h => ?_) (fun h => ?_)
      · rw [if_pos (Or.inl (by omega))]
        exact Ev.step (f := ?_) (fun k => by rw [graftageref16_Check.j2, if_pos rfl]) (Ev.now _)
      · by_cases h2 : (l.length : Int) > 8
        · rw [if_pos (Or.inr (by omega)), decide_eq_true h2]
          exact Ev.step (f := ?_) (fun k => by rw [graftageref16_Check.j2, if_pos rfl]) (Ev.now _)
        · rw [if_neg (fun z => z.elim (fun q => h (by omega)) (fun q => h2 (by omega))), decide_eq_false h2]
          exact Ev.step (f := ?_) (fun k => by rw [graftageref16_Check.j2, if_neg (by decide)]) (dup_l1 t l an am aq az cn cm cq cz x hl l.length 0 (by omega))
    refine Ev.step (f := ?_) (fun k => by rw [graftageref16_Check.j0]) (ev_eq (refCheck_good t l an am aq az cn cm cq cz x hl _ tail l.length 0 (by omega)) ?_)
    rw [List.drop_zero]
    unfold checkB
    by_cases h : l.any (fun p => !idOk p) = true
    · rw [if_pos h, if_neg (fun e : comOk t l an am aq az cn cm cq cz x => (any_not_id l).1 h e.2.1)]
    · rw [if_neg h, if_pos (show comOk t l an am aq az cn cm cq cz x from ⟨g1, Classical.byContradiction fun q => h ((any_not_id l).2 q), g3, g4, g5⟩)]
end
end Go.Proofs.YtbhfbbfjdklfgaaGreatDoor.Q


/- Commits: the text of a commit. -/
namespace Go.Proofs.YtbhfbbfjdklfgaaGreatDoor.Q
open Go.RowKit Go.Proofs.YtbhfbbfjdklfgaaGreatDoorW.PrintWords Go.Proofs.YtbhfbbfjdklfgaaGreatDoorW.PrintLast Go.Proofs.YtbhfbbfjdklfgaaGreatDoorW.PrintMore
def PAR : List UInt8 := [112, 97, 114, 101, 110, 116, 32]
def parsL : List ByteArray → List UInt8
  | [] => []
  | p :: r => PAR ++ (p.data.toList ++ 10 :: parsL r)
def endL (wa wc x : List UInt8) : List UInt8 := [97, 117, 116, 104, 111, 114, 32] ++ (wa ++ 10 :: ([99, 111, 109, 109, 105, 116, 116, 101, 114, 32] ++ (wc ++ 10 :: (10 :: x))))
def comL (t : List UInt8) (l : List ByteArray) (wa wc x : List UInt8) : List UInt8 := [116, 114, 101, 101, 32] ++ (t ++ 10 :: (parsL l ++ endL wa wc x))
theorem end_text (b h v x : ByteArray) : ((((b ++ (⟨#[97, 117, 116, 104, 111, 114, 32]⟩ : ByteArray)) ++ h) ++ (⟨#[10, 99, 111, 109, 109, 105, 116, 116, 101, 114, 32]⟩ : ByteArray)) ++ v) ++ (⟨#[10, 10]⟩ : ByteArray) ++ x = mk (b.data.toList ++ endL h.data.toList v.data.toList x.data.toList) := by
  refine ba_ext ?_
  unfold endL
  simp only [append_data, mk_data, List.append_assoc, List.cons_append, List.nil_append]
theorem par_text (b p : ByteArray) : b ++ (((⟨#[112, 97, 114, 101, 110, 116, 32]⟩ : ByteArray) ++ p) ++ (⟨#[10]⟩ : ByteArray)) = mk (b.data.toList ++ (PAR ++ (p.data.toList ++ [10]))) := by
  refine ba_ext ?_
  unfold PAR
  simp only [append_data, mk_data, List.append_assoc, List.cons_append, List.nil_append]
theorem par_text' (b p : ByteArray) : ((b ++ (⟨#[112, 97, 114, 101, 110, 116, 32]⟩ : ByteArray)) ++ p) ++ (⟨#[10]⟩ : ByteArray) = mk (b.data.toList ++ (PAR ++ (p.data.toList ++ [10]))) := by
  refine ba_ext ?_
  unfold PAR
  simp only [append_data, mk_data, List.append_assoc, List.cons_append, List.nil_append]
theorem head_text (t : ByteArray) : ((⟨#[116, 114, 101, 101, 32]⟩ : ByteArray) ++ t) ++ (⟨#[10]⟩ : ByteArray) = mk ([116, 114, 101, 101, 32] ++ (t.data.toList ++ [10])) := by
  refine ba_ext ?_
  simp only [append_data, mk_data, List.append_assoc, List.cons_append, List.nil_append]
theorem par_step (b p : ByteArray) (r : List ByteArray) (e : List UInt8) : (mk (b.data.toList ++ (PAR ++ (p.data.toList ++ [10])))).data.toList ++ (parsL r ++ e) = b.data.toList ++ (parsL (p :: r) ++ e) := by
  rw [mk_data, parsL]
  simp only [List.append_assoc, List.cons_append, List.nil_append]
theorem par_size (b p : ByteArray) : (mk (b.data.toList ++ (PAR ++ (p.data.toList ++ [10])))).size = b.size + p.size + 8 := by
  rw [mk_size]
  simp only [List.length_append, List.length_cons, List.length_nil, size_of, PAR]
  omega
section
variable (t : ByteArray) (l : List ByteArray) (an am : ByteArray) (aq az : Int) (cn cm : ByteArray) (cq cz : Int) (x : ByteArray)
def comB : ByteArray := mk (comL t.data.toList l (whoL an.data.toList am.data.toList aq az) (whoL cn.data.toList cm.data.toList cq cz) x.data.toList)
def bodyB : ByteArray × Int := if checkB t l an am aq az cn cm cq cz x = 0 then (comB t l an am aq az cn cm cq cz x, 0) else (⟨#[]⟩, checkB t l an am aq az cn cm cq cz x)
theorem com_zero (h : checkB t l an am aq az cn cm cq cz x = 0) : comOk t l an am aq az cn cm cq cz x ∧ x.size ≤ 4096 ∧ l.length ≤ 8 := by
  unfold checkB at h
  split at h
  · rename_i k
    refine ⟨k, ?_⟩
    split at h
    · cases h
    · rename_i q
      constructor
      · exact Nat.le_of_not_lt (fun z => q (Or.inl z))
      · exact Nat.le_of_not_lt (fun z => q (Or.inr z))
  · cases h
theorem whoB_size {n m : ByteArray} {t z : Int} (hp : personB n m t z = true) : (whoB n m t z).size ≤ 200 := by
  unfold whoB; rw [mk_size]; exact whoL_len hp
theorem author_size : (⟨#[97, 117, 116, 104, 111, 114, 32]⟩ : ByteArray).size = 7 := rfl
theorem committer_size : (⟨#[10, 99, 111, 109, 109, 105, 116, 116, 101, 114, 32]⟩ : ByteArray).size = 11 := rfl
theorem parent_size : (⟨#[112, 97, 114, 101, 110, 116, 32]⟩ : ByteArray).size = 7 := rfl
theorem tree_size : (⟨#[116, 114, 101, 101, 32]⟩ : ByteArray).size = 5 := rfl
theorem nl_size : (⟨#[10]⟩ : ByteArray).size = 1 := rfl
theorem nl2_size : (⟨#[10, 10]⟩ : ByteArray).size = 2 := rfl
theorem whoB_data (n m : ByteArray) (t z : Int) : (whoB n m t z).data.toList = whoL n.data.toList m.data.toList t z := by unfold whoB; exact mk_data _
theorem Body_l0 (h : checkB t l an am aq az cn cm cq cz x = 0) : ∀ (u : List ByteArray) (i : Nat) (b : ByteArray), l.drop i = u → b.size + 48 * u.length ≤ 1000 →
    Ev (fun k => commit_Body.l0 k b l (l.length : Int) i t l an am aq az cn cm cq cz x) (mk (b.data.toList ++ (parsL u ++ endL (whoL an.data.toList am.data.toList aq az) (whoL cn.data.toList cm.data.toList cq cz) x.data.toList)), 0)
  | [], i, b, hu, hb => by
    obtain ⟨⟨h1, h2, h3, h4, h5⟩, h6, h7⟩ := com_zero t l an am aq az cn cm cq cz x h
    obtain ⟨l1, l2, p0, p1, p2, p3⟩ := person_facts h3
    obtain ⟨m1, m2, q0, q1, q2, q3⟩ := person_facts h4
    have s1 := whoB_size h3
    have s2 := whoB_size h4
    have hi : l.length ≤ i := by have := congrArg List.length hu; rw [List.length_drop] at this; simp at this; omega
    rw [List.length_nil] at hb
    refine Ev.step (f := ?_) (fun k => by rw [commit_Body.l0, if_neg (by omega), if_pos (by omega), Who_eq an am aq az (by omega) (by omega) (by omega) (by omega) (by omega) (by omega), Who_eq cn cm cq cz (by omega) (by omega) (by omega) (by omega) (by omega) (by omega), Option.bind_some, Option.bind_some]) ?_
    simp only [ByteArray.size_append, author_size, committer_size, nl2_size]
    rw [← whoB_data an am aq az, ← whoB_data cn cm cq cz]
    generalize whoB an am aq az = wa at *
    generalize whoB cn cm cq cz = wc at *
    refine ev_yes (by omega) (ev_yes (by omega) (ev_yes (by omega) (ev_yes (by omega) (ev_yes (by omega) ?_))))
    refine ev_eq (Ev.now _) ?_
    rw [end_text]; rfl
  | p :: r, i, b, hu, hb => by
    obtain ⟨⟨h1, h2, h3, h4, h5⟩, h6, h7⟩ := com_zero t l an am aq az cn cm cq cz x h
    have hlt : i < l.length := by have := congrArg List.length hu; rw [List.length_drop, List.length_cons] at this; omega
    rw [List.drop_eq_getElem_cons hlt] at hu
    obtain ⟨e1, e2⟩ := List.cons.inj hu
    have hsz := id_size (h2 l[i] (List.getElem_mem hlt))
    rw [List.length_cons] at hb
    refine Ev.step (f := ?_) (fun k => by rw [commit_Body.l0, if_pos (by omega), if_pos (by omega), if_pos (by omega), rd_ext l i hlt, w_succ i (by omega)]) ?_
    rw [e1] at hsz ⊢
    simp only [ByteArray.size_append, parent_size, nl_size]
    refine ev_yes (by omega) (ev_yes (by omega) (ev_yes (by omega) ?_))
    rw [par_text]
    refine ev_eq (Body_l0 h r (i + 1) _ e2 (by rw [par_size]; omega)) ?_
    rw [par_step]
theorem refBody_l0 (h : checkB t l an am aq az cn cm cq cz x = 0) : ∀ (u : List ByteArray) (i : Nat) (b : ByteArray), l.drop i = u → b.size + 48 * u.length ≤ 1000 →
    Ev (fun k => graftageref16_Body.l0 k b i t l an am aq az cn cm cq cz x) (mk (b.data.toList ++ (parsL u ++ endL (whoL an.data.toList am.data.toList aq az) (whoL cn.data.toList cm.data.toList cq cz) x.data.toList)), 0)
  | [], i, b, hu, hb => by
    obtain ⟨⟨h1, h2, h3, h4, h5⟩, h6, h7⟩ := com_zero t l an am aq az cn cm cq cz x h
    obtain ⟨l1, l2, p0, p1, p2, p3⟩ := person_facts h3
    obtain ⟨m1, m2, q0, q1, q2, q3⟩ := person_facts h4
    have s1 := whoB_size h3
    have s2 := whoB_size h4
    have hi : l.length ≤ i := by have := congrArg List.length hu; rw [List.length_drop] at this; simp at this; omega
    rw [List.length_nil] at hb
    refine Ev.step (f := ?_) (fun k => by rw [graftageref16_Body.l0, if_neg (by omega), if_pos (by omega)]) ?_
    refine Ev.bind (refWho_ev an am aq az (by omega) (by omega) p0 (by omega) p2 p3) ?_
    simp only [ByteArray.size_append, author_size, committer_size, nl2_size]
    rw [← whoB_data an am aq az, ← whoB_data cn cm cq cz]
    refine ev_yes (by omega) (ev_yes (by omega) ?_)
    refine Ev.bind (refWho_ev cn cm cq cz (by omega) (by omega) q0 (by omega) q2 q3) ?_
    generalize whoB an am aq az = wa at *
    generalize whoB cn cm cq cz = wc at *
    refine ev_yes (by omega) (ev_yes (by omega) (ev_yes (by omega) ?_))
    refine ev_eq (Ev.now _) ?_
    rw [end_text]; rfl
  | p :: r, i, b, hu, hb => by
    obtain ⟨⟨h1, h2, h3, h4, h5⟩, h6, h7⟩ := com_zero t l an am aq az cn cm cq cz x h
    have hlt : i < l.length := by have := congrArg List.length hu; rw [List.length_drop, List.length_cons] at this; omega
    rw [List.drop_eq_getElem_cons hlt] at hu
    obtain ⟨e1, e2⟩ := List.cons.inj hu
    have hsz := id_size (h2 l[i] (List.getElem_mem hlt))
    rw [List.length_cons] at hb
    refine Ev.step (f := ?_) (fun k => by rw [graftageref16_Body.l0, if_pos (by omega), if_pos (by omega), if_pos (by omega), rd_ext l i hlt, w_succ i (by omega)]) ?_
    rw [e1] at hsz ⊢
    simp only [ByteArray.size_append, parent_size, nl_size]
    refine ev_yes (by omega) (ev_yes (by omega) ?_)
    rw [par_text']
    refine ev_eq (refBody_l0 h r (i + 1) _ e2 (by rw [par_size]; omega)) ?_
    rw [par_step]
theorem head_eq (t : ByteArray) (e : List UInt8) : (mk ([116, 114, 101, 101, 32] ++ (t.data.toList ++ [10]))).data.toList ++ e = [116, 114, 101, 101, 32] ++ (t.data.toList ++ 10 :: e) := by
  rw [mk_data]
  simp only [List.append_assoc, List.cons_append, List.nil_append]
theorem head_size (t : ByteArray) : (mk ([116, 114, 101, 101, 32] ++ (t.data.toList ++ [10]))).size = t.size + 6 := by
  rw [mk_size]
  simp only [List.length_append, List.length_cons, List.length_nil, size_of]
  omega
theorem Body_ev (hl : l.length ≤ 140737488351232) (hn : an.size ≤ 140737488351232) (hm : am.size ≤ 140737488351232) (hcn : cn.size ≤ 140737488351232) (hcm : cm.size ≤ 140737488351232) (hx : x.size < 4294967281) : Ev (fun k => commit_Body.f k t l an am aq az cn cm cq cz x) (bodyB t l an am aq az cn cm cq cz x) := by
  refine Ev.bind (Check_ev t l an am aq az cn cm cq cz x hl hn hm hcn hcm hx) ?_
  unfold bodyB
  refine ev_ite (fun h => ?_) (fun h => ?_)
  · obtain ⟨⟨h1, h2, h3, h4, h5⟩, h6, h7⟩ := com_zero t l an am aq az cn cm cq cz x h
    have ht := id_size h1
    rw [if_pos h]
    refine ev_yes (by omega) (ev_yes (by rw [ByteArray.size_append, tree_size]; omega) ?_)
    rw [head_text]
    refine ev_eq (Body_l0 t l an am aq az cn cm cq cz x h l 0 _ List.drop_zero (by rw [head_size]; omega)) ?_
    rw [head_eq]; rfl
  · rw [if_neg h]; exact Ev.now _
theorem refBody_ev (hl : l.length ≤ 140737488351232) (hn : an.size ≤ 140737488351232) (hm : am.size ≤ 140737488351232) (hcn : cn.size ≤ 140737488351232) (hcm : cm.size ≤ 140737488351232) (hx : x.size < 4294967281) : Ev (fun k => graftageref16_Body.f k t l an am aq az cn cm cq cz x) (bodyB t l an am aq az cn cm cq cz x) := by
  refine Ev.bind (refCheck_ev t l an am aq az cn cm cq cz x hl hn hm hcn hcm hx) ?_
  unfold bodyB
  refine ev_ite (fun h => ?_) (fun h => ?_)
  · obtain ⟨⟨h1, h2, h3, h4, h5⟩, h6, h7⟩ := com_zero t l an am aq az cn cm cq cz x h
    have ht := id_size h1
    rw [if_pos h]
    refine ev_yes (by omega) (ev_yes (by rw [ByteArray.size_append, tree_size]; omega) ?_)
    rw [head_text]
    refine ev_eq (refBody_l0 t l an am aq az cn cm cq cz x h l 0 _ List.drop_zero (by rw [head_size]; omega)) ?_
    rw [head_eq]; rfl
  · rw [if_neg h]; exact Ev.now _
end
end Go.Proofs.YtbhfbbfjdklfgaaGreatDoor.Q


namespace Go.Proofs.YtbhfbbfjdklfgaaGreatDoor.Q
open Go.RowKit Go.Proofs.YtbhfbbfjdklfgaaGreatDoorW.PrintWords Go.Proofs.YtbhfbbfjdklfgaaGreatDoorW.PrintLast Go.Proofs.YtbhfbbfjdklfgaaGreatDoorW.PrintMore
attribute [local go_sem] max2_int min2_int max_two min_two max_three min_three max_four min_four   -- for this text's walks alone

end Go.Proofs.YtbhfbbfjdklfgaaGreatDoor.Q


/- Commits: both programs' reading of a commit. -/
namespace Go.Proofs.YtbhfbbfjdklfgaaGreatDoor.Q
open Go.RowKit Go.Proofs.YtbhfbbfjdklfgaaGreatDoorW.PrintWords Go.Proofs.YtbhfbbfjdklfgaaGreatDoorW.PrintLast Go.Proofs.YtbhfbbfjdklfgaaGreatDoorW.PrintMore
def TRE : List UInt8 := [116, 114, 101, 101, 32]
def AUT : List UInt8 := [97, 117, 116, 104, 111, 114, 32]
def COM : List UInt8 := [99, 111, 109, 109, 105, 116, 116, 101, 114, 32]
theorem HasPrefix_eq (s p : ByteArray) : strings_HasPrefix.f s p = some (decide (s.data.toList.take p.size = p.data.toList)) := by
  have hx : (s.extract 0 p.size).toList = s.data.toList.take p.size := by rw [ByteArray.toList_eq, ext_data]; simp
  unfold strings_HasPrefix.f stringslite_HasPrefix.f
  by_cases h : (s.size : Int) ≥ (p.size : Int)
  · rw [if_pos h, if_pos (by omega), if_pos (by omega), hx, ByteArray.toList_eq p]
    simp only [Option.bind_some]
    by_cases g : s.data.toList.take p.size = p.data.toList
    · rw [decide_eq_true g, g]; simp
    · rw [decide_eq_false g]; simp [g]
  · rw [if_neg h]
    simp only [Option.bind_some]
    rw [decide_eq_false (fun e => ?_)]
    have := congrArg List.length e
    rw [List.length_take, size_of, size_of] at this
    omega
def parF : Nat → List UInt8 → List ByteArray × List UInt8 × Bool
  | 0, u => ([], u, true)
  | n + 1, u => if (lineF u PAR).2.2 = true then (if idOk (mk (lineF u PAR).1) = true then (mk (lineF u PAR).1 :: (parF n (lineF u PAR).2.1).1, (parF n (lineF u PAR).2.1).2) else ([], u, false)) else ([], u, true)
theorem lineF_less {u p : List UInt8} (h : (lineF u p).2.2 = true) : (lineF u p).2.1.length < u.length := by
  have := congrArg List.length (lineF_text h)
  simp only [List.length_append, List.length_cons] at this
  omega
theorem parF_len : ∀ (n : Nat) (u : List UInt8), (parF n u).2.1.length ≤ u.length
  | 0, u => Nat.le_refl _
  | n + 1, u => by
    rw [parF]
    split
    · rename_i h
      split
      · exact Nat.le_trans (parF_len n _) (Nat.le_of_lt (lineF_less h))
      · exact Nat.le_refl _
    · exact Nat.le_refl _
/-- a parent's word in front, but no line: no line at all -/
theorem no_line {u : List UInt8} (h : u.take PAR.length = PAR) (hl : (lineF u PAR).2.2 = false) (p : List UInt8) : (lineF u p).2.2 = false := by
  have hc : (Lib.cut u [10]).2.2 = false := by
    cases e : (Lib.cut u [10]).2.2 with
    | false => rfl
    | true =>
      exfalso
      have t := (cut_text (l := u) (s := [10]) (a := (Lib.cut u [10]).1) (b := (Lib.cut u [10]).2.1) (by decide) (by rw [← e])).1
      generalize hA : (Lib.cut u [10]).1 = A at *
      generalize hB : (Lib.cut u [10]).2.1 = B at *
      have hA7 : A.take PAR.length = PAR := by
        by_cases q : PAR.length ≤ A.length
        · rw [t, List.append_assoc, List.take_append_of_le_length q] at h; exact h
        · exfalso
          have hlt : A.length < PAR.length := Nat.lt_of_not_le q
          have h10 : (u.take PAR.length)[A.length]? = some 10 := by
            rw [List.getElem?_take_of_lt hlt, t, List.append_assoc, List.getElem?_append_right (Nat.le_refl _), Nat.sub_self]; rfl
          rw [h] at h10
          have : ∀ i : Fin 7, PAR[i.val]? ≠ some 10 := by decide
          exact this ⟨A.length, hlt⟩ h10
      unfold lineF at hl
      rw [hA, if_pos ⟨e, hA7⟩] at hl
      cases hl
  unfold lineF
  rw [if_neg]
  rintro ⟨g, -⟩
  rw [hc] at g; cases g
def k1 (s : ByteArray) := lineF s.data.toList TRE
def kp (s : ByteArray) := parF s.size (k1 s).2.1
def kA (s : ByteArray) := lineF (kp s).2.1 AUT
def kC (s : ByteArray) := lineF (kA s).2.1 COM
def kE (s : ByteArray) := lineF (kC s).2.1 []
def kWA (s : ByteArray) := parseWhoB (mk (kA s).1)
def kWC (s : ByteArray) := parseWhoB (mk (kC s).1)
def kGood (s : ByteArray) : Prop := (k1 s).2.2 = true ∧ idOk (mk (k1 s).1) = true ∧ (kp s).2.2 = true ∧ (kA s).2.2 = true ∧ (kWA s).2.2.2.2 ≠ 2 ∧ (kC s).2.2 = true ∧ (kWC s).2.2.2.2 ≠ 2 ∧ (kE s).2.2 = true ∧ (kE s).1 = []
instance (s : ByteArray) : Decidable (kGood s) := by unfold kGood; infer_instance
abbrev ComR := ByteArray × List ByteArray × ByteArray × ByteArray × Int × Int × ByteArray × ByteArray × Int × Int × ByteArray × Int
def noCom (c : Int) : ComR := (⟨#[]⟩, [], ⟨#[]⟩, ⟨#[]⟩, 0, 0, ⟨#[]⟩, ⟨#[]⟩, 0, 0, ⟨#[]⟩, c)
def kCheck (s : ByteArray) : Int := checkB (mk (k1 s).1) (kp s).1 (kWA s).1 (kWA s).2.1 (kWA s).2.2.1 (kWA s).2.2.2.1 (kWC s).1 (kWC s).2.1 (kWC s).2.2.1 (kWC s).2.2.2.1 (mk (kE s).2.1)
def parseB (s : ByteArray) : ComR :=
  if kGood s then (if (kWA s).2.2.2.2 = 1 ∨ (kWC s).2.2.2.2 = 1 then noCom 1 else if kCheck s = 0 then (mk (k1 s).1, (kp s).1, (kWA s).1, (kWA s).2.1, (kWA s).2.2.1, (kWA s).2.2.2.1, (kWC s).1, (kWC s).2.1, (kWC s).2.2.1, (kWC s).2.2.2.1, mk (kE s).2.1, 0) else noCom (kCheck s)) else noCom 2
theorem parF_num : ∀ (n : Nat) (u : List UInt8), (parF n u).1.length ≤ n
  | 0, u => Nat.le_refl _
  | n + 1, u => by
    rw [parF]
    split
    · split
      · exact Nat.succ_le_succ (parF_num n _)
      · exact Nat.zero_le _
    · exact Nat.zero_le _
theorem k_len (s : ByteArray) : (k1 s).1.length ≤ s.size ∧ (k1 s).2.1.length ≤ s.size ∧ (kp s).2.1.length ≤ s.size ∧ (kA s).1.length ≤ s.size ∧ (kA s).2.1.length ≤ s.size ∧ (kC s).1.length ≤ s.size ∧ (kC s).2.1.length ≤ s.size ∧ (kE s).1.length ≤ s.size ∧ (kE s).2.1.length ≤ s.size := by
  have h1 := lineF_len s.data.toList TRE
  have h2 := parF_len s.size (k1 s).2.1
  have h3 := lineF_len (kp s).2.1 AUT
  have h4 := lineF_len (kA s).2.1 COM
  have h5 := lineF_len (kC s).2.1 []
  rw [size_of] at h1
  change (k1 s).1.length ≤ _ ∧ (k1 s).2.1.length ≤ _ at h1
  change (kp s).2.1.length ≤ _ at h2
  change (kA s).1.length ≤ _ ∧ (kA s).2.1.length ≤ _ at h3
  change (kC s).1.length ≤ _ ∧ (kC s).2.1.length ≤ _ at h4
  change (kE s).1.length ≤ _ ∧ (kE s).2.1.length ≤ _ at h5
  omega
theorem k_who_len (s : ByteArray) : (kWA s).1.size ≤ s.size ∧ (kWA s).2.1.size ≤ s.size ∧ (kWC s).1.size ≤ s.size ∧ (kWC s).2.1.size ≤ s.size := by
  obtain ⟨l1, l2, l3, l4, l5, l6, l7, l8, l9⟩ := k_len s
  have ha := who_len (mk (kA s).1)
  have hc := who_len (mk (kC s).1)
  rw [mk_size] at ha hc
  change (kWA s).1.size ≤ _ ∧ (kWA s).2.1.size ≤ _ at ha
  change (kWC s).1.size ≤ _ ∧ (kWC s).2.1.size ≤ _ at hc
  omega
end Go.Proofs.YtbhfbbfjdklfgaaGreatDoor.Q


/- Commits: the program's reading of a commit. -/
namespace Go.Proofs.YtbhfbbfjdklfgaaGreatDoor.Q
open Go.RowKit Go.Proofs.YtbhfbbfjdklfgaaGreatDoorW.PrintWords Go.Proofs.YtbhfbbfjdklfgaaGreatDoorW.PrintLast Go.Proofs.YtbhfbbfjdklfgaaGreatDoorW.PrintMore
theorem errW2_two (c : Int) : errW2 2 c = 2 := by
  unfold errW2
  by_cases h : c = 0
  · rw [if_pos h]
  · rw [if_neg h, if_neg (by decide)]
    by_cases g : c = 2
    · rw [if_pos g]
    · rw [if_neg g]
section
variable (t : ByteArray) (l : List ByteArray) (an am : ByteArray) (aq az : Int) (cn cm : ByteArray) (cq cz : Int) (x : ByteArray)
theorem com_j2_two (a : ByteArray) : Ev (fun k => commit_Parse.j2 k a 2 t l an am aq az cn cm cq cz x) (noCom 2) :=
  Ev.step (f := ?_) (fun k => by rw [commit_Parse.j2, if_neg (by decide)]) (Ev.now _)
theorem com_j1_two (a : ByteArray) (ha : a.size ≤ 4294967000) : Ev (fun k => commit_Parse.j1 k a 2 t l an am aq az cn cm cq cz x) (noCom 2) := by
  refine Ev.step (f := ?_) (fun k => by rw [commit_Parse.j1]) ?_
  have h1 := lineF_len a.data.toList AUT
  rw [size_of] at h1
  refine Ev.bind (who_ev a 2 ⟨#[97, 117, 116, 104, 111, 114, 32]⟩ ha) ?_
  change Ev (fun k => (commit_reader_who.f k (mk (lineF a.data.toList AUT).2.1) (errW2 (if (lineF a.data.toList AUT).2.2 = true then 2 else 2) (parseWhoB (mk (lineF a.data.toList AUT).1)).2.2.2.2) ⟨#[99, 111, 109, 109, 105, 116, 116, 101, 114, 32]⟩).bind _) _
  rw [ite_self, errW2_two]
  generalize (lineF a.data.toList AUT).2.1 = u at *
  have h2 := lineF_len u COM
  refine Ev.bind (who_ev (mk u) 2 ⟨#[99, 111, 109, 109, 105, 116, 116, 101, 114, 32]⟩ (by rw [mk_size]; omega)) ?_
  rw [mk_data]
  change Ev (fun k => (commit_reader_line.f (mk (lineF u COM).2.1) (errW2 (if (lineF u COM).2.2 = true then 2 else 2) (parseWhoB (mk (lineF u COM).1)).2.2.2.2) ⟨#[]⟩).bind _) _
  rw [ite_self, errW2_two]
  generalize (lineF u COM).2.1 = v at *
  rw [line_eq _ _ _ (by rw [mk_size]; omega)]
  simp only [Option.bind_some]
  rw [mk_data]
  refine ev_ite (fun g => ?_) (fun g => ?_)
  · rw [ite_self]; exact com_j2_two ..
  · rw [fail_two]
    simp only [Option.bind_some]
    exact com_j2_two ..
end
theorem com_j2 (s : ByteArray) (hs : s.size ≤ 4294967000) (e : Int) (x : ByteArray) (he : e = if kGood s then (if (kWA s).2.2.2.2 = 1 ∨ (kWC s).2.2.2.2 = 1 then 1 else 0) else 2) (hp : (kp s).1.length ≤ 140737488351232) :
    Ev (fun k => commit_Parse.j2 k (mk (kE s).2.1) e (mk (k1 s).1) (kp s).1 (kWA s).1 (kWA s).2.1 (kWA s).2.2.1 (kWA s).2.2.2.1 (kWC s).1 (kWC s).2.1 (kWC s).2.2.1 (kWC s).2.2.2.1 x) (parseB s) := by
  obtain ⟨l1, l2, l3, l4, l5, l6, l7, l8, l9⟩ := k_len s
  obtain ⟨w1, w2, w3, w4⟩ := k_who_len s
  unfold parseB
  by_cases hg : kGood s
  · rw [if_pos hg] at he ⊢
    by_cases h1 : (kWA s).2.2.2.2 = 1 ∨ (kWC s).2.2.2.2 = 1
    · rw [if_pos h1] at he ⊢
      subst he
      exact Ev.step (f := ?_) (fun k => by rw [commit_Parse.j2, if_neg (by decide)]) (Ev.now _)
    · rw [if_neg h1] at he ⊢
      subst he
      refine Ev.step (f := ?_) (fun k => by rw [commit_Parse.j2, if_pos rfl]) ?_
      refine Ev.bind (Check_ev _ _ _ _ _ _ _ _ _ _ _ hp (by omega) (by omega) (by omega) (by omega) (by rw [mk_size]; omega)) ?_
      refine ev_ite (fun g => ?_) (fun g => ?_)
      · rw [if_pos (show kCheck s = 0 from g)]; exact Ev.now _
      · rw [if_neg (show ¬ kCheck s = 0 from g)]; exact Ev.now _
  · rw [if_neg hg] at he ⊢
    subst he
    exact com_j2_two ..
theorem com_err (a b c : Prop) [Decidable a] [Decidable b] [Decidable c] (x y : Int) (hx : x = 0 ∨ x = 1 ∨ x = 2) (hy : y = 0 ∨ y = 1 ∨ y = 2) :
    (if c then errW2 (if b then errW2 (if a then (0 : Int) else 2) x else 2) y else 2) = if a ∧ x ≠ 2 ∧ b ∧ y ≠ 2 ∧ c then (if x = 1 ∨ y = 1 then 1 else 0) else 2 := by
  by_cases ha : a <;> by_cases hb : b <;> by_cases hc : c <;> simp only [ha, hb, hc, if_true, if_false, true_and, false_and, and_true, and_false, errW2_two]
  all_goals (rcases hx with rfl | rfl | rfl <;> rcases hy with rfl | rfl | rfl <;> decide)
theorem com_j1 (s : ByteArray) (hs : s.size ≤ 4294967000) (g1 : (k1 s).2.2 = true) (g2 : idOk (mk (k1 s).1) = true) (g3 : (kp s).2.2 = true) (hp : (kp s).1.length ≤ 140737488351232) (an am : ByteArray) (aq az : Int) (cn cm : ByteArray) (cq cz : Int) (x : ByteArray) :
    Ev (fun k => commit_Parse.j1 k (mk (kp s).2.1) 0 (mk (k1 s).1) (kp s).1 an am aq az cn cm cq cz x) (parseB s) := by
  obtain ⟨l1, l2, l3, l4, l5, l6, l7, l8, l9⟩ := k_len s
  refine Ev.step (f := ?_) (fun k => by rw [commit_Parse.j1]) ?_
  refine Ev.bind (who_ev (mk (kp s).2.1) 0 ⟨#[97, 117, 116, 104, 111, 114, 32]⟩ (by rw [mk_size]; omega)) ?_
  rw [mk_data]
  change Ev (fun k => (commit_reader_who.f k (mk (kA s).2.1) (errW2 (if (kA s).2.2 = true then 0 else 2) (kWA s).2.2.2.2) ⟨#[99, 111, 109, 109, 105, 116, 116, 101, 114, 32]⟩).bind _) _
  refine Ev.bind (who_ev (mk (kA s).2.1) _ ⟨#[99, 111, 109, 109, 105, 116, 116, 101, 114, 32]⟩ (by rw [mk_size]; omega)) ?_
  rw [mk_data]
  change Ev (fun k => (commit_reader_line.f (mk (kC s).2.1) (errW2 (if (kC s).2.2 = true then (errW2 (if (kA s).2.2 = true then 0 else 2) (kWA s).2.2.2.2) else 2) (kWC s).2.2.2.2) ⟨#[]⟩).bind _) _
  rw [line_eq _ _ _ (by rw [mk_size]; omega)]
  simp only [Option.bind_some]
  rw [mk_data]
  change Ev (fun k => if (mk (kE s).1).toList = ([] : List UInt8) then commit_Parse.j2 k (mk (kE s).2.1) (if (kE s).2.2 = true then errW2 (if (kC s).2.2 = true then (errW2 (if (kA s).2.2 = true then 0 else 2) (kWA s).2.2.2.2) else 2) (kWC s).2.2.2.2 else 2) (mk (k1 s).1) (kp s).1 (kWA s).1 (kWA s).2.1 (kWA s).2.2.1 (kWA s).2.2.2.1 (kWC s).1 (kWC s).2.1 (kWC s).2.2.1 (kWC s).2.2.2.1 x else _) _
  rw [com_err ((kA s).2.2 = true) ((kC s).2.2 = true) ((kE s).2.2 = true) (kWA s).2.2.2.2 (kWC s).2.2.2.2 (who_code (mk (kA s).1)) (who_code (mk (kC s).1))]
  refine ev_ite (fun g => ?_) (fun g => ?_)
  · rw [mk_toList] at g
    refine com_j2 s hs _ x ?_ hp
    by_cases h : (kA s).2.2 = true ∧ (kWA s).2.2.2.2 ≠ 2 ∧ (kC s).2.2 = true ∧ (kWC s).2.2.2.2 ≠ 2 ∧ (kE s).2.2 = true
    · rw [if_pos h, if_pos (show kGood s from ⟨g1, g2, g3, h.1, h.2.1, h.2.2.1, h.2.2.2.1, h.2.2.2.2, g⟩)]
    · rw [if_neg h, if_neg (fun q : kGood s => h ⟨q.2.2.2.1, q.2.2.2.2.1, q.2.2.2.2.2.1, q.2.2.2.2.2.2.1, q.2.2.2.2.2.2.2.1⟩)]
  · rw [fail_two]
    simp only [Option.bind_some]
    refine com_j2 s hs _ x ?_ hp
    rw [if_neg (fun q : kGood s => g (by rw [mk_toList]; exact q.2.2.2.2.2.2.2.2))]
theorem lineF_take {u p : List UInt8} (h : (lineF u p).2.2 = true) : u.take p.length = p := by
  rw [lineF_text h]
  exact take_pre _ _ _ rfl
theorem com_l0 (s : ByteArray) (hs : s.size ≤ 4294967000) (g1 : (k1 s).2.2 = true) (g2 : idOk (mk (k1 s).1) = true) (an am : ByteArray) (aq az : Int) (cn cm : ByteArray) (cq cz : Int) (x : ByteArray) : ∀ (n : Nat) (u : List UInt8) (acc : List ByteArray), u.length ≤ n → acc.length + n ≤ 4294967000 →
    (parF n u).2.2 = (kp s).2.2 → ((parF n u).2.2 = true → (parF n u).2.1 = (kp s).2.1 ∧ acc ++ (parF n u).1 = (kp s).1) → Ev (fun k => commit_Parse.l0 k (mk u) 0 (mk (k1 s).1) acc an am aq az cn cm cq cz x) (parseB s)
  | n, u, acc, hu, ha, q1, q2 => by
    have hp : (kp s).1.length ≤ 140737488351232 := by
      have := parF_num s.size (k1 s).2.1
      change (kp s).1.length ≤ _ at this
      omega
    have two : ¬ kGood s → parseB s = noCom 2 := fun h => by unfold parseB; rw [if_neg h]
    refine Ev.step (f := ?_) (fun k => by rw [commit_Parse.l0, if_pos rfl, HasPrefix_eq, Option.bind_some, mk_data]) ?_
    change Ev (fun k => if decide (u.take PAR.length = PAR) = true then (commit_reader_id.f k (mk u) 0 ⟨#[112, 97, 114, 101, 110, 116, 32]⟩).bind _ else _) _
    by_cases hpre : u.take PAR.length = PAR
    · rw [decide_eq_true hpre]
      refine ev_yes rfl ?_
      refine Ev.bind (id_ev (mk u) 0 ⟨#[112, 97, 114, 101, 110, 116, 32]⟩ (by rw [mk_size]; omega)) ?_
      rw [mk_data]
      change Ev (fun k => if acc.length < 8796093022208 then commit_Parse.l0 k (mk (lineF u PAR).2.1) (if (lineF u PAR).2.2 = true ∧ idOk (mk (lineF u PAR).1) = true then 0 else 2) (mk (k1 s).1) (acc ++ [mk (lineF u PAR).1]) an am aq az cn cm cq cz x else _) _
      refine ev_yes (by omega) ?_
      have hlen := lineF_len u PAR
      have bad : ∀ (l : List ByteArray), Ev (fun k => commit_Parse.l0 k (mk (lineF u PAR).2.1) 2 (mk (k1 s).1) l an am aq az cn cm cq cz x) (noCom 2) := fun l =>
        Ev.step (f := ?_) (fun k => by rw [commit_Parse.l0, if_neg (by decide)]) (com_j1_two _ _ _ _ _ _ _ _ _ _ _ (mk (lineF u PAR).2.1) (by rw [mk_size]; omega))
      cases n with
      | zero =>
        exfalso
        have : u = [] := List.length_eq_zero_iff.1 (by omega)
        rw [this] at hpre
        exact absurd hpre (by decide)
      | succ n =>
        rw [parF] at q1 q2
        cases ok : (lineF u PAR).2.2 with
        | false =>
          rw [if_neg (fun h : false = true ∧ _ => by cases h.1)]
          rw [ok, if_neg (by decide)] at q1 q2
          refine ev_eq (bad _) (two (fun hg => ?_)).symm
          have := (q2 rfl).1
          have h4 := hg.2.2.2.1
          unfold kA at h4
          rw [← this] at h4
          change (lineF u AUT).2.2 = true at h4
          rw [no_line hpre ok AUT] at h4
          cases h4
        | true =>
          rw [ok, if_pos rfl] at q1 q2
          by_cases hid : idOk (mk (lineF u PAR).1) = true
          · rw [if_pos ⟨rfl, hid⟩]
            rw [if_pos hid] at q1 q2
            have := lineF_less ok
            refine com_l0 s hs g1 g2 an am aq az cn cm cq cz x n _ _ (by omega) (by rw [List.length_append]; simp only [List.length_cons, List.length_nil]; omega) q1 (fun z => ?_)
            obtain ⟨y1, y2⟩ := q2 z
            refine ⟨y1, ?_⟩
            rw [← y2, List.append_assoc]; rfl
          · rw [if_neg (fun h => hid h.2)]
            rw [if_neg hid] at q1
            refine ev_eq (bad _) (two (fun hg => ?_)).symm
            have h3 := hg.2.2.1
            rw [← q1] at h3
            cases h3
    · rw [decide_eq_false hpre]
      refine ev_no (by decide) ?_
      have no : (lineF u PAR).2.2 = false := by
        cases ok : (lineF u PAR).2.2 with
        | false => rfl
        | true => exact absurd (lineF_take ok) hpre
      have e : parF n u = ([], u, true) := by
        cases n with
        | zero => rfl
        | succ n => rw [parF, no, if_neg (by decide)]
      rw [e] at q1 q2
      obtain ⟨y1, y2⟩ := q2 rfl
      change u = _ at y1
      rw [List.append_nil] at y2
      rw [y1, y2]
      exact com_j1 s hs g1 g2 q1.symm hp an am aq az cn cm cq cz x
theorem Parse_ev (s : ByteArray) (hs : s.size ≤ 4294967000) : Ev (fun k => commit_Parse.f k s) (parseB s) := by
  obtain ⟨l1, l2, l3, l4, l5, l6, l7, l8, l9⟩ := k_len s
  refine Ev.bind (id_ev s 0 ⟨#[116, 114, 101, 101, 32]⟩ (by omega)) ?_
  change Ev (fun k => commit_Parse.l0 k (mk (k1 s).2.1) (if (k1 s).2.2 = true ∧ idOk (mk (k1 s).1) = true then 0 else 2) (mk (k1 s).1) [] ⟨#[]⟩ ⟨#[]⟩ 0 0 ⟨#[]⟩ ⟨#[]⟩ 0 0 ⟨#[]⟩) _
  by_cases h : (k1 s).2.2 = true ∧ idOk (mk (k1 s).1) = true
  · rw [if_pos h]
    exact com_l0 s hs h.1 h.2 _ _ _ _ _ _ _ _ _ s.size (k1 s).2.1 [] l2 (by simpa using hs) rfl (fun _ => ⟨rfl, rfl⟩)
  · rw [if_neg h]
    have : parseB s = noCom 2 := by unfold parseB; rw [if_neg (fun g : kGood s => h ⟨g.1, g.2.1⟩)]
    rw [this]
    exact Ev.step (f := ?_) (fun k => by rw [commit_Parse.l0, if_neg (by decide)]) (com_j1_two _ _ _ _ _ _ _ _ _ _ _ (mk (k1 s).2.1) (by rw [mk_size]; omega))
end Go.Proofs.YtbhfbbfjdklfgaaGreatDoor.Q


/- Commits: the reference's reading of a commit. -/
namespace Go.Proofs.YtbhfbbfjdklfgaaGreatDoor.Q
open Go.RowKit Go.Proofs.YtbhfbbfjdklfgaaGreatDoorW.PrintWords Go.Proofs.YtbhfbbfjdklfgaaGreatDoorW.PrintLast Go.Proofs.YtbhfbbfjdklfgaaGreatDoorW.PrintMore
section
variable (s : ByteArray) (hs : s.size ≤ 4294967000) (an am : ByteArray) (aq az : Int) (cn cm : ByteArray) (cq cz : Int) (x : ByteArray)
include hs
end
end Go.Proofs.YtbhfbbfjdklfgaaGreatDoor.Q


/- Commits: a commit's text, there and back; the reference's equality. -/
namespace Go.Proofs.YtbhfbbfjdklfgaaGreatDoor.Q
open Go.RowKit Go.Proofs.YtbhfbbfjdklfgaaGreatDoorW.PrintWords Go.Proofs.YtbhfbbfjdklfgaaGreatDoorW.PrintLast Go.Proofs.YtbhfbbfjdklfgaaGreatDoorW.PrintMore
theorem parsL_app (p : ByteArray) (r : List ByteArray) (e : List UInt8) : parsL (p :: r) ++ e = PAR ++ (p.data.toList ++ 10 :: (parsL r ++ e)) := by
  rw [parsL]; simp only [List.append_assoc, List.cons_append]
theorem endL_no (wa wc x : List UInt8) : (lineF (endL wa wc x) PAR).2.2 = false := by
  cases ok : (lineF (endL wa wc x) PAR).2.2 with
  | false => rfl
  | true =>
    have h := lineF_take ok
    have h2 : (endL wa wc x).take PAR.length = AUT := take_pre AUT _ 7 rfl
    rw [h2] at h
    exact absurd h (by decide)
theorem parF_back : ∀ (n : Nat) (l : List ByteArray) (e : List UInt8), l.length ≤ n → (∀ p ∈ l, idOk p = true) → (lineF e PAR).2.2 = false → parF n (parsL l ++ e) = (l, e, true)
  | 0, [], e, hl, hi, he => rfl
  | 0, p :: r, e, hl, hi, he => absurd hl (by simp)
  | n + 1, [], e, hl, hi, he => by
    show parF (n + 1) e = _
    rw [parF, he, if_neg (by decide)]
  | n + 1, p :: r, e, hl, hi, he => by
    have hp := hi p (List.mem_cons_self ..)
    rw [parsL_app, parF, lineF_of PAR p.data.toList _ (by decide) (idOk_no10 hp)]
    show (if true = true then (if idOk (mk p.data.toList) = true then (mk p.data.toList :: (parF n (parsL r ++ e)).1, (parF n (parsL r ++ e)).2) else _) else _) = _
    rw [if_pos rfl, mk_of, if_pos hp, parF_back n r e (by simpa using hl) (fun q hq => hi q (List.mem_cons_of_mem _ hq)) he]
section
variable (t : ByteArray) (l : List ByteArray) (an am : ByteArray) (aq az : Int) (cn cm : ByteArray) (cq cz : Int) (x : ByteArray)
theorem comB_size (h : checkB t l an am aq az cn cm cq cz x = 0) : (comB t l an am aq az cn cm cq cz x).size ≤ 6000 ∧ l.length ≤ (comB t l an am aq az cn cm cq cz x).size := by
  obtain ⟨⟨h1, h2, h3, h4, h5⟩, h6, h7⟩ := com_zero t l an am aq az cn cm cq cz x h
  have z1 := id_size h1
  have z3 := whoL_len h3
  have z4 := whoL_len h4
  have pl : ∀ r : List ByteArray, (∀ p ∈ r, idOk p = true) → (parsL r).length = 48 * r.length := by
    intro r
    induction r with
    | nil => intro _; rfl
    | cons p r ih =>
      intro hr
      have hp := id_size (hr p (List.mem_cons_self ..))
      rw [parsL]
      simp only [List.length_append, List.length_cons, size_of, PAR, List.length_nil]
      rw [ih (fun q hq => hr q (List.mem_cons_of_mem _ hq))]
      omega
  have z2 := pl l h2
  unfold comB comL endL
  rw [mk_size]
  simp only [List.length_append, List.length_cons, size_of, List.length_nil]
  omega
theorem com_back (h : checkB t l an am aq az cn cm cq cz x = 0) : parseB (comB t l an am aq az cn cm cq cz x) = (t, l, an, am, aq, az, cn, cm, cq, cz, x, 0) := by
  obtain ⟨⟨h1, h2, h3, h4, h5⟩, h6, h7⟩ := com_zero t l an am aq az cn cm cq cz x h
  have hsz := (comB_size t l an am aq az cn cm cq cz x h).2
  have e0 : (comB t l an am aq az cn cm cq cz x).data.toList = TRE ++ (t.data.toList ++ 10 :: (parsL l ++ endL (whoL an.data.toList am.data.toList aq az) (whoL cn.data.toList cm.data.toList cq cz) x.data.toList)) := mk_data _
  generalize comB t l an am aq az cn cm cq cz x = s at *
  have e1 : k1 s = (t.data.toList, parsL l ++ endL (whoL an.data.toList am.data.toList aq az) (whoL cn.data.toList cm.data.toList cq cz) x.data.toList, true) := by
    unfold k1
    rw [e0]
    exact lineF_of TRE _ _ (by decide) (idOk_no10 h1)
  have e2 : kp s = (l, endL (whoL an.data.toList am.data.toList aq az) (whoL cn.data.toList cm.data.toList cq cz) x.data.toList, true) := by
    unfold kp
    rw [e1]
    exact parF_back _ _ _ hsz h2 (endL_no _ _ _)
  have e3 : kA s = (whoL an.data.toList am.data.toList aq az, COM ++ (whoL cn.data.toList cm.data.toList cq cz ++ 10 :: (10 :: x.data.toList)), true) := by
    unfold kA
    rw [e2]
    exact lineF_of AUT _ _ (by decide) (who_no10 h3)
  have e4 : kC s = (whoL cn.data.toList cm.data.toList cq cz, 10 :: x.data.toList, true) := by
    unfold kC
    rw [e3]
    exact lineF_of COM _ _ (by decide) (who_no10 h4)
  have e5 : kE s = ([], x.data.toList, true) := by unfold kE; rw [e4]; exact lineF_cons _
  have eA : kWA s = (an, am, aq, az, 0) := by unfold kWA; rw [e3]; exact who_back an am aq az h3
  have eC : kWC s = (cn, cm, cq, cz, 0) := by unfold kWC; rw [e4]; exact who_back cn cm cq cz h4
  have eK : kCheck s = 0 := by
    unfold kCheck
    rw [e1, e2, e5, eA, eC]
    show checkB (mk t.data.toList) l an am aq az cn cm cq cz (mk x.data.toList) = 0
    rw [mk_of, mk_of]; exact h
  have hg : kGood s := by
    unfold kGood
    rw [e1, e2, e3, e4, e5, eA, eC]
    refine ⟨rfl, ?_, rfl, rfl, show (0 : Int) ≠ 2 by decide, rfl, show (0 : Int) ≠ 2 by decide, rfl, rfl⟩
    show idOk (mk t.data.toList) = true
    rw [mk_of]; exact h1
  unfold parseB
  rw [if_pos hg, eA, eC]
  show (if (0 : Int) = 1 ∨ (0 : Int) = 1 then _ else if kCheck s = 0 then _ else _) = _
  rw [if_neg (by decide), if_pos eK, e1, e2, e5]
  show (mk t.data.toList, l, an, am, aq, az, cn, cm, cq, cz, mk x.data.toList, (0 : Int)) = _
  rw [mk_of, mk_of]
end
theorem same_l0 (a b : List ByteArray) (hl : a.length = b.length) (hb : a.length ≤ 140737488351232) : ∀ (d i : Nat), i + d = a.length → Ev (fun k => graftageref06_Same.l0 k a b i) (decide (a.drop i = b.drop i))
  | 0, i, h => by
    rw [List.drop_of_length_le (by omega), List.drop_of_length_le (by omega)]
    exact Ev.step (f := ?_) (fun k => by rw [graftageref06_Same.l0, if_neg (by omega)]) (Ev.now _)
  | d + 1, i, h => by
    have hi : i < a.length := by omega
    have hj : i < b.length := by omega
    refine Ev.step (f := ?_) (fun k => by rw [graftageref06_Same.l0, if_pos (by omega), if_pos (by omega), if_pos (by omega), rd_ext a i hi, rd_ext b i hj, w_succ i (by omega)]) ?_
    rw [List.drop_eq_getElem_cons hi, List.drop_eq_getElem_cons hj]
    refine ev_ite (fun g => ev_eq (same_l0 a b hl hb d (i + 1) (by omega)) ?_) (fun g => ev_eq (Ev.now _) ?_)
    · have e : a[i] = b[i] := ba_ext (by rw [← ByteArray.toList_eq, ← ByteArray.toList_eq]; exact g)
      rw [e]
      exact decide_eq_decide.2 ⟨fun z => by rw [z], fun z => (List.cons.inj z).2⟩
    · exact (decide_eq_false (fun z => g (by rw [(List.cons.inj z).1]))).symm
theorem same_ev (a b : List ByteArray) (hb : a.length ≤ 140737488351232) : Ev (fun k => graftageref06_Same.f k a b) (decide (a = b)) := by
  refine ev_ite (fun g => ?_) (fun g => ev_eq (Ev.now _) ?_)
  · exact same_l0 a b (by omega) hb a.length 0 (by omega)
  · exact (decide_eq_false (fun z => g (by rw [z]))).symm
theorem Same_ev (c d : ByteArray × List ByteArray × ByteArray × ByteArray × Int × Int × ByteArray × ByteArray × Int × Int × ByteArray) (hc : c.2.1.length ≤ 140737488351232) (r : Bool) (hr : r = true ↔ c = d) :
    Ev (fun k => graftageref16_Same.f k c.1 c.2.1 c.2.2.1 c.2.2.2.1 c.2.2.2.2.1 c.2.2.2.2.2.1 c.2.2.2.2.2.2.1 c.2.2.2.2.2.2.2.1 c.2.2.2.2.2.2.2.2.1 c.2.2.2.2.2.2.2.2.2.1 c.2.2.2.2.2.2.2.2.2.2 d.1 d.2.1 d.2.2.1 d.2.2.2.1 d.2.2.2.2.1 d.2.2.2.2.2.1 d.2.2.2.2.2.2.1 d.2.2.2.2.2.2.2.1 d.2.2.2.2.2.2.2.2.1 d.2.2.2.2.2.2.2.2.2.1 d.2.2.2.2.2.2.2.2.2.2) r := by
  obtain ⟨t, l, an, am, aq, az, cn, cm, cq, cz, x⟩ := c
  obtain ⟨t', l', an', am', aq', az', cn', cm', cq', cz', x'⟩ := d
  simp only [Prod.mk.injEq] at hr
  dsimp only
  have tl : ∀ a b : ByteArray, a.toList = b.toList ↔ a = b := fun a b => ⟨fun e => ba_ext (by rw [← ByteArray.toList_eq, ← ByteArray.toList_eq]; exact e), fun e => by rw [e]⟩
  have no : ∀ {P : Prop}, ¬ P → (r = true → P) → Ev (fun _ => some false) r := fun h1 h2 => ev_eq (Ev.now _) (Bool.eq_false_iff.2 (fun e => h1 (h2 e))).symm
  refine ev_ite (fun g1 => ?_) (fun g1 => no g1 (fun e => by rw [(hr.1 e).1]))
  refine ev_ite (fun g2 => ?_) (fun g2 => no g2 (fun e => by obtain ⟨-, -, e5, e6, e7, e8, -⟩ := hr.1 e; rw [e5, e6, e7, e8]; simp))
  refine ev_ite (fun g3 => ?_) (fun g3 => no g3 (fun e => by obtain ⟨-, -, -, -, -, -, e5, e6, e7, e8, -⟩ := hr.1 e; rw [e5, e6, e7, e8]; simp))
  refine ev_ite (fun g4 => ?_) (fun g4 => no g4 (fun e => by rw [(hr.1 e).2.2.2.2.2.2.2.2.2.2]))
  refine Ev.bind (same_ev l l' hc) (ev_eq (Ev.now _) ?_)
  simp only [Bool.and_eq_true, beq_iff_eq] at g2 g3
  rw [Bool.eq_iff_iff, decide_eq_true_eq, hr]
  exact ⟨fun e => ⟨(tl _ _).1 g1, e, (tl _ _).1 g2.1, (tl _ _).1 g2.2.1, g2.2.2.1, g2.2.2.2, (tl _ _).1 g3.1, (tl _ _).1 g3.2.1, g3.2.2.1, g3.2.2.2, (tl _ _).1 g4⟩, fun e => e.2.1⟩
end Go.Proofs.YtbhfbbfjdklfgaaGreatDoor.Q


/- Commits: Check, Body and Parse, the plain law. -/
namespace Go.Proofs.YtbhfbbfjdklfgaaGreatDoor.Pure
open Go.RowKit Go.Proofs.YtbhfbbfjdklfgaaGreatDoor.Q Go.Proofs.YtbhfbbfjdklfgaaGreatDoorW.PrintWords Go.Proofs.YtbhfbbfjdklfgaaGreatDoorW.PrintLast Go.Proofs.YtbhfbbfjdklfgaaGreatDoorW.PrintMore
theorem bodies_ev (t : ByteArray) (l : List ByteArray) (an am : ByteArray) (aq az : Int) (cn cm : ByteArray) (cq cz : Int) (x : ByteArray) (hl : l.length ≤ 140737488351232) (hn : an.size ≤ 140737488351232) (hm : am.size ≤ 140737488351232) (hcn : cn.size ≤ 140737488351232) (hcm : cm.size ≤ 140737488351232) :
    Ev (fun k => graftagelaw16_CommitBodies.f k t l an am aq az cn cm cq cz x) true := by
  have big : Ev (fun k => graftagelaw16_CommitBodies.j0 k true t l an am aq az cn cm cq cz x) true :=
    Ev.step (f := ?_) (fun k => by rw [graftagelaw16_CommitBodies.j0, if_pos rfl]) liveOr16
  refine ev_ite (fun _ => big) (fun g1 => ?_)
  by_cases g2 : (x.size : Int) > 5000
  · rw [decide_eq_true g2]; exact big
  rw [decide_eq_false g2]
  have hx : x.size < 4294967281 := by omega
  refine Ev.step (f := ?_) (fun k => by rw [graftagelaw16_CommitBodies.j0, if_neg (by decide)]) ?_
  refine Ev.bind (Body_ev t l an am aq az cn cm cq cz x hl hn hm hcn hcm hx) (Ev.bind (refBody_ev t l an am aq az cn cm cq cz x hl hn hm hcn hcm hx) (Ev.bind (Check_ev t l an am aq az cn cm cq cz x hl hn hm hcn hcm hx) (Ev.bind (refCheck_ev t l an am aq az cn cm cq cz x hl hn hm hcn hcm hx) ?_)))
  refine ev_yes rfl (ev_yes rfl ?_)
  rw [show ((bodyB t l an am aq az cn cm cq cz x).2 != (bodyB t l an am aq az cn cm cq cz x).2) = false by simp]
  refine Ev.step (f := ?_) (fun k => by rw [graftagelaw16_CommitBodies.j1, if_neg (by decide)]) ?_
  by_cases h : checkB t l an am aq az cn cm cq cz x = 0
  · have e : bodyB t l an am aq az cn cm cq cz x = (comB t l an am aq az cn cm cq cz x, 0) := by unfold bodyB; rw [if_pos h]
    rw [e]
    refine ev_yes rfl ?_
    have hsz := (comB_size t l an am aq az cn cm cq cz x h).1
    refine Ev.bind (Parse_ev _ (Nat.le_trans hsz (by decide))) (Ev.bind lives16 (ev_yes rfl ?_))
    rw [com_back t l an am aq az cn cm cq cz x h]
    refine ev_yes rfl ?_
    exact Ev.bind (Same_ev (t, l, an, am, aq, az, cn, cm, cq, cz, x) (t, l, an, am, aq, az, cn, cm, cq, cz, x) hl true (by simp)) (Ev.now _)
  · have e : (bodyB t l an am aq az cn cm cq cz x).2 = checkB t l an am aq az cn cm cq cz x := by unfold bodyB; rw [if_neg h]
    rw [e]
    exact ev_no h liveOr16
theorem CommitBodies : ∀ (y0 : S26), (y0.f0.size ≤ 140737488351232 ∧ (y0.f1.length * 16 ≤ 140737488351232 ∧ ∀ y_y0f1 ∈ y0.f1, y_y0f1.size ≤ 140737488351232) ∧ (y0.f2.f0.size ≤ 140737488351232 ∧ y0.f2.f1.size ≤ 140737488351232 ∧ (Lit.int .i64 y0.f2.f2).wf = true ∧ (Lit.int .i64 y0.f2.f3).wf = true) ∧ (y0.f3.f0.size ≤ 140737488351232 ∧ y0.f3.f1.size ≤ 140737488351232 ∧ (Lit.int .i64 y0.f3.f2).wf = true ∧ (Lit.int .i64 y0.f3.f3).wf = true) ∧ y0.f4.size ≤ 140737488351232) → ∃ k, graftagelaw16_CommitBodies.f k y0.f0 y0.f1 y0.f2.f0 y0.f2.f1 y0.f2.f2 y0.f2.f3 y0.f3.f0 y0.f3.f1 y0.f3.f2 y0.f3.f3 y0.f4 = some true := by
  intro y0 h
  obtain ⟨_, ⟨h1, _⟩, ⟨h2, h3, _, _⟩, ⟨h4, h5, _, _⟩, _⟩ := h
  obtain ⟨k, hk⟩ := bodies_ev y0.f0 y0.f1 y0.f2.f0 y0.f2.f1 y0.f2.f2 y0.f2.f3 y0.f3.f0 y0.f3.f1 y0.f3.f2 y0.f3.f3 y0.f4 (by omega) h2 h3 h4 h5
  exact ⟨k, hk k (Nat.le_refl _)⟩
end Go.Proofs.YtbhfbbfjdklfgaaGreatDoor.Pure


/- What a law's argument reads as (numbers, bools, strings, structs, slices, nested) opens into the printed kinds, with the reach's bounds; for the rows of this seat. -/
namespace Go.Proofs.YtbhfbbfjdklfgaaGreatDoor.Ro
open Go.RowKit Go.Deep Go.Proofs.YtbhfbbfjdklfgaaGreatDoorW.PrintWords

/-- What a reading of type t by the form tells in the words of kind d; S: the bounds. -/
def Opens (P : Program) (t : TypeId) {α : Type} (d : Kd α) (S : α → Prop) : Prop :=
  ∀ {H : Type} (enc : TypeId × Value → H) (w : World) (fuel : Nat) (cs : List Value) (x : DataW H × List MemPlace),
    DataW.trod enc P w 0 (fun _ => true) true fuel t cs = some x → (∀ n ∈ DataW.weights P t x.1, n ≤ reachBytes) → ∃ y : α, d.K w y cs ∧ S y

section
variable {P : Program} {t e : TypeId}

theorem Opens.int {k : IntKind} (ht : P.underlying t = some (.int k)) : Opens P t (Kd.int k) (fun y => (Lit.int k y).wf = true) := by
  intro H enc w fuel cs x h _
  obtain ⟨n, rfl, rfl, hw⟩ := DataW.trod_int ht h
  exact ⟨n, rfl, hw⟩

theorem Opens.bool (ht : P.underlying t = some .bool) : Opens P t Kd.bool (fun _ => True) := by
  intro H enc w fuel cs x h _
  obtain ⟨b, rfl, rfl⟩ := DataW.trod_bool ht h
  exact ⟨b, rfl, trivial⟩

theorem Opens.string (ht : P.underlying t = some .string) : Opens P t Kd.string (fun y => y.size ≤ 140737488351232) := by
  intro H enc w fuel cs x h hn
  obtain ⟨s, rfl, rfl, _⟩ := DataW.trod_string ht h
  refine ⟨s, rfl, ?_⟩
  have := hn s.data.toList.length (by simp [DataW.weights])
  simpa [reachBytes] using this

theorem choose_list {α : Type} {n : Nat} {p : Nat → α → Prop} (h : ∀ i, i < n → ∃ y, p i y) : ∃ l : List α, l.length = n ∧ ∀ i y, l[i]? = some y → p i y := by
  induction n with
  | zero => exact ⟨[], rfl, fun i y hy => by simp at hy⟩
  | succ n ih =>
    obtain ⟨l, hl, hp⟩ := ih (fun i hi => h i (by omega))
    obtain ⟨y, hy⟩ := h n (by omega)
    refine ⟨l ++ [y], by simp [hl], fun i z hz => ?_⟩
    rcases Nat.lt_or_ge i l.length with hi | hi
    · rw [List.getElem?_append_left hi] at hz
      exact hp i z hz
    · rw [List.getElem?_append_right hi] at hz
      have : i - l.length = 0 := by
        have := (List.getElem?_eq_some_iff.1 hz).1
        simpa using this
      rw [this] at hz
      have h1 : i = n := by omega
      subst h1
      have : y = z := by simpa using hz
      subst this
      exact hy

theorem weightsAll_mem {H : Type} {e : TypeId} : ∀ {l : List (DataW H)} {d : DataW H}, d ∈ l → ∀ n ∈ d.weights P e, n ∈ DataW.weightsAll P e l
  | a :: l, d, hd, n, hn => by
    simp only [DataW.weightsAll, List.mem_append]
    rcases List.mem_cons.1 hd with rfl | hd
    · exact .inl hn
    · exact .inr (weightsAll_mem hd n hn)

theorem Opens.slice {α : Type} {d : Kd α} {S : α → Prop} {b : Nat} (ht : P.underlying t = some (.slice e)) (hc : P.cellsOf e = d.sz) (hb : P.bytesOf e = b) (h : Opens P e d S) :
    Opens P t (Kd.slice e d) (fun l => l.length * b ≤ 140737488351232 ∧ ∀ y ∈ l, S y) := by
  intro H enc w fuel cs x hx hn
  rcases open_slice ht hx with ⟨rfl, rfl⟩ | ⟨a, len, cap, m, n, D, Pl, rfl, _, hl, hm, hmm, rfl, hall⟩
  · exact ⟨[], ⟨none, 0, rfl, Nat.le_refl _, rfl, by simp, fun h => absurd h (by simp)⟩, by simp, by simp⟩
  · simp only [if_true] at hmm
    obtain rfl : m = cap := hmm
    have hel : ∀ i, i < len → ∃ y : α, (∃ cs', w.cells? 0 (a.add (i * P.cellsOf e)) (P.cellsOf e) = some cs' ∧ d.K w y cs') ∧ S y := by
      intro i hi
      obtain ⟨cs', h1, h2⟩ := hall i (by omega)
      obtain ⟨y, hy, hs⟩ := h enc w n cs' _ h2 (fun k hk => hn k (by
        simp only [DataW.weights, ht, List.mem_cons, List.mem_append]
        exact .inr (.inl (weightsAll_mem (List.mem_map.2 ⟨i, List.mem_range.2 hi, rfl⟩) k hk))))
      exact ⟨y, ⟨cs', h1, hy⟩, hs⟩
    obtain ⟨l, hll, hp⟩ := choose_list hel
    subst hll
    have hw : (l.length + (m - l.length)) * b ≤ reachBytes := by
      have := hn _ (by simp only [DataW.weights, ht, List.mem_cons]; exact .inl rfl)
      simpa [hb] using this
    refine ⟨l, ⟨some a, m, rfl, hl, rfl, by unfold maxLen at hm; omega, fun _ => ⟨a, rfl, fun j p hj => ?_⟩⟩, ?_, fun y hy => ?_⟩
    · obtain ⟨⟨cs', h1, hk⟩, _⟩ := hp j p hj
      obtain ⟨_, hlen, hcell⟩ := World.cells?_some h1
      refine ⟨cs', by rw [hlen, hc], hk, fun i u hu => ?_⟩
      have hi : i < P.cellsOf e := by
        have := (List.getElem?_eq_some_iff.1 hu).1
        omega
      have := hcell i hi
      rw [Go.Deep.add_add, hu, hc] at this
      exact this
    · have : l.length * b ≤ (l.length + (m - l.length)) * b := Nat.mul_le_mul_right _ (by omega)
      simp only [reachBytes] at hw
      omega
    · obtain ⟨j, hj⟩ := List.mem_iff_getElem?.1 hy
      exact (hp j y hj).2

/-- The fields from one on, in line. -/
def OpensF (P : Program) (fs : List Field) (o : Nat) {α : Type} (d : Kd α) (S : α → Prop) : Prop :=
  ∀ {H : Type} (enc : TypeId × Value → H) (w : World) (n : Nat) (cs : List Value) (ys : List (DataW H × List MemPlace)),
    (∀ (i : Nat) (f : Field), fs[i]? = some f → DataW.trod enc P w 0 (fun _ => true) true n f.type ((cs.drop f.offset).take (P.cellsOf f.type)) = ys[i]?) → ys.length = fs.length →
    (∀ k ∈ DataW.weightsEach P (fs.map (·.type)) (ys.map (·.1)), k ≤ reachBytes) → cs.length = o + d.sz → ∃ y : α, d.K w y (cs.drop o) ∧ S y

theorem OpensF.one {α : Type} {f : Field} {o : Nat} {d : Kd α} {S : α → Prop} (ho : f.offset = o) (hc : P.cellsOf f.type = d.sz) (h : Opens P f.type d S) : OpensF P [f] o d S := by
  intro H enc w n cs ys hf hl hw hlen
  match ys, hl with
  | [y], _ =>
    have h1 := hf 0 f rfl
    rw [ho, hc, List.take_of_length_le (by rw [List.length_drop]; omega)] at h1
    exact h enc w n _ y h1 (fun k hk => hw k (by simp [DataW.weightsEach, hk]))

theorem OpensF.cons {α β : Type} {f : Field} {fs : List Field} {o o' : Nat} {d : Kd α} {d' : Kd β} {S : α → Prop} {S' : β → Prop} (ho : f.offset = o) (hc : P.cellsOf f.type = d.sz) (ho' : o + d.sz = o')
    (h : Opens P f.type d S) (h' : OpensF P fs o' d' S') : OpensF P (f :: fs) o (Kd.pair d d') (fun z => S z.1 ∧ S' z.2) := by
  intro H enc w n cs ys hf hl hw hlen
  match ys, hl with
  | y :: ys, hl =>
    have h1 := hf 0 f rfl
    rw [ho, hc] at h1
    have hlen' : cs.length = o + (d.sz + d'.sz) := hlen
    obtain ⟨a, ha, hs⟩ := h enc w n _ y h1 (fun k hk => hw k (by simp only [List.map_cons, DataW.weightsEach, List.mem_append]; exact .inl hk))
    obtain ⟨b, hb, hs'⟩ := h' enc w n cs ys (fun i g hg => hf (i + 1) g (by simpa using hg)) (by simpa using hl) (fun k hk => hw k (by simp only [List.map_cons, DataW.weightsEach, List.mem_append]; exact .inr hk)) (by omega)
    refine ⟨(a, b), ⟨_, _, ?_, ha, hb⟩, hs, hs'⟩
    rw [← ho', ← List.drop_drop, List.take_append_drop]

theorem Opens.struct {α β : Type} {fs : Array Field} {d : Kd α} {S : α → Prop} {f : β → α} {g : α → β} (ht : P.underlying t = some (.struct fs)) (hc : P.cellsOf t = d.sz) (hfg : ∀ a, f (g a) = a) (h : OpensF P fs.toList 0 d S) :
    Opens P t (Kd.iso d f) (fun y => S (f y)) := by
  intro H enc w fuel cs x hx hn
  obtain ⟨xs, n, _, rfl, hl, hlen, hf⟩ := DataW.trod_struct ht hx
  obtain ⟨a, ha, hs⟩ := h enc w n cs xs (fun i q hq => hf i q (by simpa using hq)) (by simpa using hlen) (fun k hk => hn k (by simpa [DataW.weights, ht] using hk)) (by rw [hl, hc]; omega)
  refine ⟨g a, ?_, by show S (f (g a)); rw [hfg]; exact hs⟩
  show d.K w (f (g a)) cs
  rw [hfg]
  simpa using ha

theorem Opens.imp {α : Type} {d : Kd α} {S S' : α → Prop} (h : Opens P t d S) (hS : ∀ y, S y → S' y) : Opens P t d S' := by
  intro H enc w fuel cs x hx hn
  obtain ⟨y, hy, hs⟩ := h enc w fuel cs x hx hn
  exact ⟨y, hy, hS y hs⟩

/-- An argument: its cells, told. -/
theorem Opens.arg {H : Type} {enc : TypeId × Value → H} {α : Type} {d : Kd α} {S : α → Prop} {w : World} {ts : List TypeId} {ds : List (DataW H)} {j : Nat} {v : Value} {dd : DataW H} {ps : List MemPlace} (h : Opens P t d S)
    (hz : (DataW.weightsEach P ts ds).all (· ≤ reachBytes) = true) (ht : ts[j]? = some t) (hd : ds[j]? = some dd) (hv : DataW.Trod enc P w 0 (fun _ => true) true t v dd ps) : ∃ y : α, d.K w y v.cells.toList ∧ S y := by
  obtain ⟨fuel, hf⟩ := hv
  exact h enc w fuel _ (dd, ps) hf (fun n hn => by simpa using List.all_eq_true.1 hz n (DataW.weights_mem_each ht hd n hn))

theorem arg_lt {H : Type} {enc : TypeId × Value → H} {w : World} {v : Value} {dd : DataW H} {ps : List MemPlace} (hv : DataW.Trod enc P w 0 (fun _ => true) true t v dd ps) : ∀ x ∈ ps, x.block < w.heap.size := by
  obtain ⟨m, hm⟩ := hv
  exact DataW.trod_lt m _ _ _ hm
end
end Go.Proofs.YtbhfbbfjdklfgaaGreatDoor.Ro


/- The law CommitBodies holds: for every input it returns true, and each argument reads afterwards as it read before. -/
namespace Go.Proofs.YtbhfbbfjdklfgaaGreatDoor.commitBodies
open Go.ChangeShapes Go.WideShapes Go.ChangeAt Go.RowKit Go.Proofs.YtbhfbbfjdklfgaaGreatDoor.Ro Go.Proofs.YtbhfbbfjdklfgaaGreatDoor.Q Go.Proofs.YtbhfbbfjdklfgaaGreatDoorW.PrintWords
open Go.ChangeMaps (open_string shut_string)
theorem own : ownKnob Tryz.prog.godebug = none := by kernel_rfl
theorem laidOut : laidOutB Tryz.prog = true := by kernel_rfl
theorem opens26 : Opens Tryz.prog 26 k26 (fun y => (y.f0.size ≤ 140737488351232 ∧ (y.f1.length * 16 ≤ 140737488351232 ∧ ∀ y_yf1 ∈ y.f1, y_yf1.size ≤ 140737488351232) ∧ (y.f2.f0.size ≤ 140737488351232 ∧ y.f2.f1.size ≤ 140737488351232 ∧ (Lit.int .i64 y.f2.f2).wf = true ∧ (Lit.int .i64 y.f2.f3).wf = true) ∧ (y.f3.f0.size ≤ 140737488351232 ∧ y.f3.f1.size ≤ 140737488351232 ∧ (Lit.int .i64 y.f3.f2).wf = true ∧ (Lit.int .i64 y.f3.f3).wf = true) ∧ y.f4.size ≤ 140737488351232)) := (Opens.struct (f := (fun x : S26 => (x.f0, x.f1, x.f2, x.f3, x.f4))) (g := (fun a => (⟨a.1, a.2.1, a.2.2.1, a.2.2.2.1, a.2.2.2.2⟩ : S26))) Tryz.underlying26 (by kernel_rfl) (fun _ => rfl) (OpensF.cons rfl (by kernel_rfl) rfl (Opens.string Tryz.underlying9) (OpensF.cons rfl (by kernel_rfl) rfl (Opens.slice Tryz.underlying22 (by kernel_rfl) (by kernel_rfl) (Opens.string Tryz.underlying9)) (OpensF.cons rfl (by kernel_rfl) rfl (Opens.struct (f := (fun x : S24 => (x.f0, x.f1, x.f2, x.f3))) (g := (fun a => (⟨a.1, a.2.1, a.2.2.1, a.2.2.2⟩ : S24))) Tryz.underlying24 (by kernel_rfl) (fun _ => rfl) (OpensF.cons rfl (by kernel_rfl) rfl (Opens.string Tryz.underlying9) (OpensF.cons rfl (by kernel_rfl) rfl (Opens.string Tryz.underlying9) (OpensF.cons rfl (by kernel_rfl) rfl (Opens.int Tryz.underlying3) (OpensF.one rfl (by kernel_rfl) (Opens.int Tryz.underlying3)))))) (OpensF.cons rfl (by kernel_rfl) rfl (Opens.struct (f := (fun x : S24 => (x.f0, x.f1, x.f2, x.f3))) (g := (fun a => (⟨a.1, a.2.1, a.2.2.1, a.2.2.2⟩ : S24))) Tryz.underlying24 (by kernel_rfl) (fun _ => rfl) (OpensF.cons rfl (by kernel_rfl) rfl (Opens.string Tryz.underlying9) (OpensF.cons rfl (by kernel_rfl) rfl (Opens.string Tryz.underlying9) (OpensF.cons rfl (by kernel_rfl) rfl (Opens.int Tryz.underlying3) (OpensF.one rfl (by kernel_rfl) (Opens.int Tryz.underlying3)))))) (OpensF.one rfl (by kernel_rfl) (Opens.string Tryz.underlying9)))))))
set_option maxRecDepth 100000 in
theorem lifted (os : Os) (started : os.Started) (H : Type) (enc : TypeId × Value → H) :
    ReturnsInHanded {} Tryz.checked os 3 .any (fun w args => (Rows.commitBodiesSpec.pre enc Tryz.prog Tryz.f3 [] false w args ∧ laidMetH Tryz.prog Rows.commitBodiesRow.laid w) ∧ sizedMet enc Tryz.prog Tryz.f3 (OpenSpec.ofChange Rows.commitBodiesSpec) false w args) (Rows.commitBodiesSpec.post enc Tryz.prog Tryz.f3 false true false false) := by
  refine returnsInHanded_and_shaped (C := Tryz.checked) (X := fun w _ => laidMetH Tryz.prog Rows.commitBodiesRow.laid w) (fun _ _ _ hh h => h.of_heap hh) own started (by kernel_rfl) Tryz.func3
    (ChangeSpec.witness_shaped (enc := enc) (C := Tryz.checked) (os := os) (X := fun w _ => laidMetH Tryz.prog Rows.commitBodiesRow.laid w) false (World.laidAll Tryz.prog os Rows.commitBodiesRow.laid) #[.agg #[.string ByteArray.empty, .slice none 0 0, .string ByteArray.empty, .string ByteArray.empty, .int .i64 0, .int .i64 0, .string ByteArray.empty, .string ByteArray.empty, .int .i64 0, .int .i64 0, .string ByteArray.empty]] 8 (World.laidAll_os _ _ _)
      (World.shaped_of_ZipB (by kernel_rfl) (by kernel_rfl)) (by kernel_rfl) (by kernel_rfl) (by kernel_rfl)
      (by rw [MakeChecks.laidMetH_plain _ _ _ (by kernel_rfl)]; exact laidMet_laidAll _ (by kernel_rfl) (by kernel_rfl))) ?_
  intro W base args ds gs before hval0 hW hcnd hsz0 hlm0 hsh0
  have hsz : (DataW.weightsEach Tryz.prog (Tryz.f3.params.toList ++ Rows.commitBodiesSpec.plain.varTypes Tryz.prog) (ds ++ gs)).all (· ≤ reachBytes) = true := hsz0
  have hval : ∀ (j : Nat) t v, Tryz.f3.params[j]? = some t → args[j]? = some v → Value.okWide Tryz.prog W .any base t v := hval0
  have hW' := hW
  obtain ⟨p, q, hA0, hV, rfl, hfz, hnd⟩ := hW
  have hA : DataW.TrodAll enc Tryz.prog W 0 (fun _ => true) true Tryz.f3.params.toList args.toList ds p := hA0
  rw [Tryz.params3] at hA hval hsz
  obtain ⟨v0, vs0, d0, ds0, p0, q0, hargs, rfl, rfl, h0, r0⟩ := trodAll_cons hA
  obtain ⟨rfl, rfl, rfl⟩ := trodAll_nil r0
  obtain rfl : args = #[v0] := by cases args; simp_all
  obtain ⟨rfl, rfl⟩ := trodVars_none hV
  have lt0 := arg_lt h0
  obtain ⟨y0, hk0, w0⟩ := opens26.arg hsz (j := 0) rfl rfl h0
  obtain ⟨cs0, rfl, _⟩ := okWide_struct Tryz.underlying26 (hval 0 26 v0 rfl rfl)
  have hk0' := k26_open hk0
  obtain ⟨A0_1, c0_1, e0, hl0_1, hr0_1⟩ := hk0'
  obtain rfl : cs0 = #[.string y0.f0, .slice A0_1 y0.f1.length c0_1, .string y0.f2.f0, .string y0.f2.f1, .int .i64 y0.f2.f2, .int .i64 y0.f2.f3, .string y0.f3.f0, .string y0.f3.f1, .int .i64 y0.f3.f2, .int .i64 y0.f3.f3, .string y0.f4] := by cases cs0; simpa [Value.cells] using e0
  obtain ⟨k, hp⟩ := Pure.CommitBodies _ w0
  clear hA0 hval0 hsz0 hsz
  refine (Q.graftagelaw16_CommitBodies.calls k y0.f0 _ _ y0.f1 y0.f2.f0 y0.f2.f1 y0.f2.f2 y0.f2.f3 y0.f3.f0 y0.f3.f1 y0.f3.f2 y0.f3.f3 y0.f4 true W hr0_1 hl0_1 (GV.shaped hsh0 (l := Rows.commitBodiesRow.laid) (by have h_ := hlm0; rw [MakeChecks.laidMetH_plain _ _ _ (by kernel_rfl)] at h_; exact h_) (.tail _ (.tail _ (.head _)))) hp).mono ?_
  rintro e W' ⟨rfl, bel0⟩
  have bel : Below W.heap.size W W' := bel0
  exact ⟨_, rfl, _, _, _, [], _, [], hW', trodAll_mk1 (shut_bool Tryz.underlying4 _), (trodAll_cons_mk (Below.trod laidOut (by kernel_rfl) (of_decide_eq_true (by kernel_rfl)) h0 bel lt0) trodAll_mk0), rfl, bel.frame _, fun h => by cases h⟩
theorem over : Rows.commitBodiesRow.holds Tryz.pinned (OpenSpec.ofChange Rows.commitBodiesSpec) :=
  OpenClaim.holds_of_wide 3 Tryz.f3 rfl rfl rfl rfl rfl rfl rfl ⟨rfl, rfl, rfl, rfl, rfl⟩ rfl rfl rfl rfl rfl (by kernel_rfl) Tryz.func3 joined
    (of_decide_eq_true (by kernel_rfl)) (by unfold Func.isWrapper; first | (rw [if_pos (by decide +kernel)]; kernel_rfl) | (rw [if_neg (by decide +kernel)]; exact ⟨rfl, rfl⟩))
    (fun os started H enc _ => lifted os started H enc)
theorem proved : Rows.CommitBodiesSaid := over
theorem card_holds : Rows.CommitBodiesCardSaid :=
  Claim7.holds_tied_plain_at .later [] [.data, .data, .data, .data, .sentinel, .sentinel, .pinned] true (true, "122aec7e533ec1bbbaac3b90e11b4338a89c93a5f0ce7185d6d93993e47251e7") true over (fun _ h => by cases h) jw (fun _ h => by cases h) commitBodies_row_tie rfl ⟨rfl, rfl⟩ jm rfl
    (fun f fn hf hfn => by
      obtain rfl : f = 3 := Option.some.inj ((show Tryz.prog.funcNamed "graftage/graftagelaw16.CommitBodies" = some 3 by kernel_rfl).symm.trans hf) |>.symm
      obtain rfl : fn = Tryz.f3 := (Option.some.inj (Tryz.func3.symm.trans hfn)).symm
      exact ⟨jl, fun j t ht => by
        rw [Tryz.params3] at ht
        have hm : t ∈ [26] := by simpa using Array.mem_of_getElem? ht
        have hall : ([26].all fun u => !Tryz.prog.wantsStandIn u) = true := by kernel_rfl
        exact (show Tryz.prog.wantsStandIn t = false by simpa using List.all_eq_true.1 hall t hm)⟩)
    jg
#print axioms card_holds
end Go.Proofs.YtbhfbbfjdklfgaaGreatDoor.commitBodies
namespace Go.Proofs.YtbhfbbfjdklfgaaGreatDoor
/-- The statement, under a short name, for the claim. -/
theorem commitBodies_holds : Rows.CommitBodiesCardSaid := commitBodies.card_holds
end Go.Proofs.YtbhfbbfjdklfgaaGreatDoor


