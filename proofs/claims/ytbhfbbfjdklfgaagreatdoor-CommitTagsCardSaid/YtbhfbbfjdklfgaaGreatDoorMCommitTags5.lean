/- The law CommitTags holds: for every input it returns true, and each argument reads afterwards as it read before. -/
import Derived.Test.YtbhfbbfjdklfgaaGreatDoorMYCommitTags1
import Derived.Test.YtbhfbbfjdklfgaaGreatDoorMCommitTags1
import Derived.Test.YtbhfbbfjdklfgaaGreatDoorMCommitTags2
import Derived.Test.YtbhfbbfjdklfgaaGreatDoorMCommitTags3
import Derived.Test.YtbhfbbfjdklfgaaGreatDoorMCommitTags4
import Derived.Laws.Cover1
import Derived.Lib.IndexMore
import Derived.Lib.IndexLaws
import Derived.Lib.Atoi
import Derived.Lib.ItoaNum
import Derived.Lib.IndexAny
import Derived.Lib.LazyBuf
import Derived.Deep.Slices
import Derived.Lib.SmallJoins
import Derived.ChangeArms
import Derived.SizedLaws
import Derived.WalkKit
import Derived.ProofKit
import Derived.Test.YtbhfbbfjdklfgaaGreatDoorRows
import Derived.Test.YtbhfbbfjdklfgaaGreatDoorTie
import Derived.Test.YtbhfbbfjdklfgaaGreatDoorCards
import Derived.OpenShut
import Derived.ShutString
import Derived.ChangeOld
import Derived.Below
import Derived.Lay
import Derived.LaidOnce
import Derived.SevenTiedAt
import Derived.LaidLaws
import Derived.Handed
import Derived.ChangeVars
import Derived.JoinedOf
set_option linter.unusedVariables false
set_option linter.unusedSimpArgs false
namespace Go.Proofs.YtbhfbbfjdklfgaaGreatDoor.Q
open Go.RowKit Go.Proofs.YtbhfbbfjdklfgaaGreatDoorW.PrintWords Go.Proofs.YtbhfbbfjdklfgaaGreatDoorW.PrintLast Go.Proofs.YtbhfbbfjdklfgaaGreatDoorW.PrintMore
attribute [local go_sem] max2_int min2_int max_two min_two max_three min_three max_four min_four   -- for this text's walks alone

def slices_Contains_string_string.f (k : Nat) (l0 : List ByteArray) (a1 : ByteArray) : Option (Bool) := (slices_Index_string_string.f k l0 a1).bind fun t191 => (some (decide (t191 ≥ 0)))
theorem slices_Contains_string_string.mono : ∀ a0 a1 k, LeO (slices_Contains_string_string.f k a0 a1) (slices_Contains_string_string.f (k + 1) a0 a1) := by
 intro a0 a1 k
 unfold slices_Contains_string_string.f
 have m0_ := @slices_Index_string_string.mono
 exact mz_
set_option maxHeartbeats 8000000 in
set_option maxRecDepth 100000 in
theorem slices_Contains_string_string.calls (k : Nat) (A0 : Option Addr) (c0 : Nat) (l0 : List ByteArray) (a1 : ByteArray) (r : Bool) (w : World) (hr0 : Kd.C Kd.string w A0 l0.length l0) (hc0 : l0.length ≤ c0) (h : slices_Contains_string_string.f k l0 a1 = some r) :
  Calls Tryz.prog 95 #[.slice A0 l0.length c0, .string a1] w fun e w' => e = .returned (.bool r) ∧ Drawn0 w w' := by
 have HR0 := Aside0.mk hr0
 have HC0 := Aside0.mk hc0
 clear hr0 hc0
 have H : ((slices_Index_string_string.f k l0 a1).bind fun t191 => (some (decide (t191 ≥ 0)))) = some r := h
 clear h
 replace H := Option.bind_eq_some_iff.mp H
 obtain ⟨t191, A30, H⟩ := H
 have A3 := Aside0.mk A30
 clear A30
 obtain rfl := Option.some.inj H
 go_enter Tryz.func95, Tryz.ntmps95
 go_wp2_with (first | ((with_reducible refine gate_callee (f := 151) rfl ?_); refine goesL_ (some 7) rfl rfl Tryz.func151 (by kernel_rfl) rfl #[.slice A0 l0.length c0, .string a1] rfl z2_ ?_; (with_reducible refine (slices_Index_string_string.calls k _ _ l0 a1 t191 _ ?side1 ?side2 A3.out).mono ?_); (case side1 => repeat (first | exact HR0.out | (with_reducible refine Kd.C_alloc ?_ _) | (with_reducible refine Kd.C_drewN ?_ _) | (with_reducible refine Kd.C_drew ?_))); (case side2 => exact HC0.out); rintro e w' ⟨rfl, ⟨nd, rfl⟩⟩; refine ⟨_, rfl, ?_⟩))
 go_ret
 exact ⟨z1_, z3_⟩


mutual
def commit_Links.j1 : Nat → List ByteArray → Option (List ByteArray × Int)
 | 0, _ => none
 | k + 1, x5 => commit_Links.l1 k ([] : List ByteArray) x5 (x5.length : Int) 0
def commit_Links.l1 : Nat → List ByteArray → List ByteArray → Int → Int → Option (List ByteArray × Int)
 | 0, _, _, _, _ => none
 | k + 1, x14, x69, x70, x71 => if x71 < x70 then (if 0 ≤ x71 then (if x71 < (x69.length : Int) then ((slices_Contains_string_string.f k x14 (rdOf ByteArray.empty x69 x71)).bind fun t147 => (if t147 = true then (commit_Links.l1 k x14 x69 x70 (wrap64 (x71 + 1))) else (if x14.length < 8796093022208 then (commit_Links.l1 k (x14 ++ [rdOf ByteArray.empty x69 x71]) x69 x70 (wrap64 (x71 + 1))) else (none)))) else (none)) else (none)) else (some (x14, 0))
def commit_Links.l0 : Nat → List ByteArray → List (S108) → Int → Int → Option (List ByteArray × Int)
 | 0, _, _, _, _ => none
 | k + 1, x5, x32, x33, x34 => if x34 < x33 then (if 0 ≤ x34 then (if x34 < (x32.length : Int) then (if x5.length < 8796093022208 then (commit_Links.l0 k (x5 ++ [(rd_T108 x32 x34).f2]) x32 x33 (wrap64 (x34 + 1))) else (none)) else (none)) else (none)) else (commit_Links.j1 k x5)
end
def commit_Links.f (k : Nat) (a0_0 : Int) (a0_1 : ByteArray) : Option (List ByteArray × Int) := (commit_Whole.f k a0_0 a0_1).bind fun t102 => (if t102 = 0 then (if a0_0 = 2 then ((tree_Parse.f k a0_1).bind fun bt103 => (commit_Links.l0 k ([] : List ByteArray) bt103.1 (bt103.1.length : Int) 0)) else (if a0_0 = 3 then ((commit_Parse.f k a0_1).bind fun bt112 => ((some (([bt112.1] : List ByteArray) : List ByteArray)).bind fun y127 => (if y127.length + bt112.2.1.length < 8796093022208 then (commit_Links.j1 k (y127 ++ bt112.2.1)) else (none)))) else (if a0_0 = 4 then ((commit_ParseTag.f k a0_1).bind fun bt133 => (commit_Links.j1 k (([bt133.1] : List ByteArray)))) else (commit_Links.j1 k ([] : List ByteArray))))) else (some (([] : List ByteArray), t102)))
theorem commit_Links.mono_l : ∀ k, (∀ y0, LeO (commit_Links.j1 k y0) (commit_Links.j1 (k + 1) y0)) ∧ (∀ y0 y1 y2 y3, LeO (commit_Links.l1 k y0 y1 y2 y3) (commit_Links.l1 (k + 1) y0 y1 y2 y3)) ∧ (∀ y0 y1 y2 y3, LeO (commit_Links.l0 k y0 y1 y2 y3) (commit_Links.l0 (k + 1) y0 y1 y2 y3))
 | 0 => ⟨fun _ r h => by simp [commit_Links.j1] at h, fun _ _ _ _ r h => by simp [commit_Links.l1] at h, fun _ _ _ _ r h => by simp [commit_Links.l0] at h⟩
 | k + 1 => by
  obtain ⟨ih0, ih1, ih2⟩ := commit_Links.mono_l k
  refine ⟨?_, ?_, ?_⟩
  ·intro y0
   unfold commit_Links.j1
   have m0_ := @ih0
   have m1_ := @ih1
   have m2_ := @ih2
   have m3_ := @commit_Parse.mono
   have m4_ := @commit_ParseTag.mono
   have m5_ := @commit_Whole.mono
   have m6_ := @slices_Contains_string_string.mono
   have m7_ := @tree_Parse.mono
   exact mz_
  ·intro y0 y1 y2 y3
   unfold commit_Links.l1
   have m0_ := @ih0
   have m1_ := @ih1
   have m2_ := @ih2
   have m3_ := @commit_Parse.mono
   have m4_ := @commit_ParseTag.mono
   have m5_ := @commit_Whole.mono
   have m6_ := @slices_Contains_string_string.mono
   have m7_ := @tree_Parse.mono
   exact mz_
  ·intro y0 y1 y2 y3
   unfold commit_Links.l0
   have m0_ := @ih0
   have m1_ := @ih1
   have m2_ := @ih2
   have m3_ := @commit_Parse.mono
   have m4_ := @commit_ParseTag.mono
   have m5_ := @commit_Whole.mono
   have m6_ := @slices_Contains_string_string.mono
   have m7_ := @tree_Parse.mono
   exact mz_
theorem commit_Links.mono : ∀ a0 a1 k, LeO (commit_Links.f k a0 a1) (commit_Links.f (k + 1) a0 a1) := by
 intro a0 a1 k
 obtain ⟨ih0, ih1, ih2⟩ := commit_Links.mono_l k
 unfold commit_Links.f
 have m0_ := @ih0
 have m1_ := @ih1
 have m2_ := @ih2
 have m3_ := @commit_Parse.mono
 have m4_ := @commit_ParseTag.mono
 have m5_ := @commit_Whole.mono
 have m6_ := @slices_Contains_string_string.mono
 have m7_ := @tree_Parse.mono
 exact mz_
set_option maxHeartbeats 8000000 in
set_option maxRecDepth 100000 in
theorem commit_Links.calls (k : Nat) (a0_0 : Int) (a0_1 : ByteArray) (r1 : List ByteArray) (r2 : Int) (w : World) (hgv : GV w) (h : commit_Links.f k a0_0 a0_1 = some (r1, r2)) :
  Calls Tryz.prog 34 #[.agg #[.int .i64 a0_0, .string a0_1]] w fun e w' => ∃ v0_ : Value, e = .returned (.tuple #[v0_, .int .i64 r2]) ∧ Kd.R Kd.string 9 w' w.heap.size (fun _ => True) v0_ r1 ∧ Below w.heap.size w w' := by
 have hu50 := Tryz.underlying50
 have hu108 := Tryz.underlying108
 have hu26 := Tryz.underlying26
 have hu37 := Tryz.underlying37
 have HB := Aside0.mk (Below.refl w.heap.size w)
 have H : ((commit_Whole.f k a0_0 a0_1).bind fun t102 => (if t102 = 0 then (if a0_0 = 2 then ((tree_Parse.f k a0_1).bind fun bt103 => (commit_Links.l0 k ([] : List ByteArray) bt103.1 (bt103.1.length : Int) 0)) else (if a0_0 = 3 then ((commit_Parse.f k a0_1).bind fun bt112 => ((some (([bt112.1] : List ByteArray) : List ByteArray)).bind fun y127 => (if y127.length + bt112.2.1.length < 8796093022208 then (commit_Links.j1 k (y127 ++ bt112.2.1)) else (none)))) else (if a0_0 = 4 then ((commit_ParseTag.f k a0_1).bind fun bt133 => (commit_Links.j1 k (([bt133.1] : List ByteArray)))) else (commit_Links.j1 k ([] : List ByteArray))))) else (some (([] : List ByteArray), t102)))) = some (r1, r2) := h
 clear h
 replace H := Option.bind_eq_some_iff.mp H
 obtain ⟨t102, A20, H⟩ := H
 have A2 := Aside0.mk A20
 clear A20
 by_cases c3 : t102 = 0
 ·rw [if_pos c3] at H
  have c3b0 := beq_iff_eq.mpr c3
  have c3b1 := bne_eq_false_iff_eq.mpr c3
  clear c3
  have HC4 := Aside0.mk H
  clear H
  go_enter Tryz.func34, Tryz.ntmps34
  go_upto_block 0 with (first | ((with_reducible refine gate_dst (N := 1) rfl ?_); refine be_ (cs := #[.int .i64 a0_0, .string a0_1]) (t := 50) ?_; intro gb101 hg w5 hbox hb; have BK101 := Aside0.mk (hbox); have GW101 := Aside0.mk (gw_ hg HB.out); have GE101 := Aside0.mk (gw_ hg HB.out); replace HB := Aside0.mk (below_step (hb_ HB.out) hb); clear hb hbox hg; obtain ⟨hcz6_0, hcz6_1, hfz6_0, hfz6_1⟩ := bc2 BK101.out) | ((with_reducible refine gate_callee (f := 36) rfl ?_); refine goesL_ (some 18) rfl rfl Tryz.func36 (by kernel_rfl) rfl #[.agg #[.int .i64 a0_0, .string a0_1]] rfl z2_ ?_; (with_reducible refine (commit_Whole.calls k a0_0 a0_1 t102 _ ?side1 A2.out).mono ?_); (case side1 => exact GV.below hgv (hs_)); rintro e w7 ⟨rfl, hb⟩; refine ⟨_, rfl, ?_⟩; replace BK101 := Aside0.mk (bb_ BK101.out hb); replace HB := Aside0.mk (below_step (hs_) hb); (try clear hb); (try clear hb2); (try clear hk); (try clear hi); obtain ⟨hcz8_0, hcz8_1, hfz8_0, hfz8_1⟩ := bc2 BK101.out))
  (try simp only [Act.put, List.setIfInBounds_toArray, List.set_cons_zero, List.set_cons_succ])
  go_cut [5] (fun v5 wc => ∃ (kq : Nat) (x5_3 : List ByteArray), Aside0 (commit_Links.j1 kq x5_3 = some (r1, r2)) ∧ Aside0 (kq ≤ k) ∧ Aside0 (Kd.R Kd.string 9 wc w.heap.size (fun _ => True) v5 x5_3) ∧ Aside0 (wc.heap[gb101]? = some (.cells #[.int .i64 a0_0, .string a0_1] 50 (0, 0))) ∧ Aside0 (Below w.heap.size w wc))
  case first =>
   have H := HC4.out
   clear HC4
   by_cases c9 : a0_0 = 2
   ·rw [if_pos c9] at H
    have c9b0 := beq_iff_eq.mpr c9
    have c9b1 := bne_eq_false_iff_eq.mpr c9
    clear c9
    (first | rw [c9b0] | (simp only [i64_w, i32_w]; rw [c9b0]) | skip)
    (try rw [c9b8])
    replace H := Option.bind_eq_some_iff.mp H
    obtain ⟨⟨t103, t104⟩, A100, H⟩ := H
    replace H : (commit_Links.l0 k ([] : List ByteArray) t103 (t103.length : Int) 0) = some (r1, r2) := H
    have A10 := Aside0.mk A100
    clear A100
    have H' := Aside0.mk H
    clear H
    obtain ⟨hcz11_0, hcz11_1, hfz11_0, hfz11_1⟩ := bc2 BK101.out
    go_wp2_with (first | ((with_reducible refine gate_callee (f := 94) rfl ?_); refine goesL_ (some 29) rfl rfl Tryz.func94 (by kernel_rfl) rfl #[.string a0_1] rfl z2_ ?_; (with_reducible refine (tree_Parse.calls k a0_1 t103 t104 _ ?side1 A10.out).mono ?_); (case side1 => exact GV.below hgv (hs_)); rintro e w12 ⟨v105, rfl, ho0, hb⟩; refine ⟨_, rfl, ?_⟩; have HO106 := Aside0.mk (Kd.R_lower ho0 (below_size (hs_))); replace BK101 := Aside0.mk (bb_ BK101.out hb); replace HB := Aside0.mk (below_step (hs_) hb); (try clear hb); (try clear hb2); (try clear hk); (try clear hi); (try clear ho0); obtain ⟨Ao13, co13, eo13⟩ := Kd.R_slice HO106.out; subst eo13))
    go_loopg [5, 34] k (fun kq v5 v34 w' => ∃ (x5_1 : List ByteArray) (x34_1 : Int), v34 = .int .i64 x34_1 ∧ Aside0 (commit_Links.l0 kq x5_1 t103 (t103.length : Int) x34_1 = some (r1, r2)) ∧ Aside0 (kq ≤ k) ∧ Aside0 (Kd.R Kd.string 9 w' w.heap.size (fun _ => True) v5 x5_1) ∧ Aside0 (Kd.R k108 108 w' w.heap.size (fun _ => True) (.slice Ao13 t103.length co13) t103) ∧ Aside0 (w'.heap[gb101]? = some (.cells #[.int .i64 a0_0, .string a0_1] 50 (0, 0))) ∧ Aside0 (Below w.heap.size w w'))
    case atStart => exact ⟨(([] : List ByteArray)), (0), z1_, H', ⟨Nat.le_refl _⟩, ⟨z6_⟩, ⟨by (with_reducible repeat (first | apply Kd.R_alloc | apply Kd.R_drewN | apply Kd.R_drew)); exact HO106.out⟩, ⟨bk_ BK101.out⟩, ⟨hs_⟩⟩
    case round =>
     clear H'
     try clear p2
     try clear c3
     try clear c3b0
     try clear c3b1
     try clear c9
     try clear c9b0
     try clear c9b1
     try clear hcz11_0 hcz11_1
     try clear hcz6_0 hcz6_1
     try clear hcz8_0 hcz8_1
     try clear hfz11_0 hfz11_1
     try clear hfz6_0 hfz6_1
     try clear hfz8_0 hfz8_1
     obtain ⟨x5_1, x34_1, rfl, HA, HK1, HO_5, HO_32, BK101, HB⟩ := hrel
     cases gk with
     | zero => exact absurd HA.out (by simp [commit_Links.l0])
     | succ k1 =>
      have H := HA.out
      clear HA
      simp only [commit_Links.l0] at H
      by_cases c14 : x34_1 < (t103.length : Int)
      ·rw [if_pos c14] at H
       have c14b0 := decide_eq_true c14
       clear c14
       by_cases c15 : 0 ≤ x34_1
       ·rw [if_pos c15] at H
        have c15b0 := decide_eq_true c15
        clear c15
        by_cases c16 : x34_1 < (t103.length : Int)
        ·rw [if_pos c16] at H
         have c16b0 := decide_eq_true c16
         clear c16
         by_cases c17 : x5_1.length < 8796093022208
         ·rw [if_pos c17] at H
          have LMc17 := Aside0.mk c17
          clear c17
          obtain ⟨y109, hy109⟩ : ∃ y_ : List ByteArray, y_ = (x5_1 ++ [(rd_T108 t103 x34_1).f2]) := ⟨_, rfl⟩
          replace H : (commit_Links.l0 k1 y109 t103 (t103.length : Int) (wrap64 (x34_1 + 1))) = some (r1, r2) := by first | (rw [hy109]; with_reducible exact H) | (have H2_ := (Option.bind_some _ _).symm.trans H; rw [hy109]; with_reducible exact H2_) | (have H2_ := (Option.bind_some _ _).symm.trans H; with_reducible exact H2_) | with_reducible exact H | (rw [hy109]; exact H) | exact H
          have Ny109 := Aside0.mk hy109
          clear hy109
          have H' := Aside0.mk H
          clear H
          have p107 : 0 ≤ (x34_1 : Int) := of_decide_eq_true z0_
          have q107 : x34_1 < (t103.length : Int) := of_decide_eq_true z0_
          obtain ⟨ad107, e107, hx107_0, hx107_1, hx107_2⟩ := at_T108 (Kd.R_reads' HO_32.out).2.2 x34_1 p107 q107
          cases e107
          replace p107 := eq_true p107
          replace q107 := eq_true q107
          go_wp2_with (first | ((with_reducible refine gate_dst (N := 9) rfl ?_); refine be_ (cs := #[.int .i64 0, .string (⟨#[]⟩ : ByteArray), .string (⟨#[]⟩ : ByteArray)]) (t := 108) ?_; intro gb108 hg w18 hbox hb; replace HO_5 := Aside0.mk (Kd.R_below (rk_ HO_5.out) hb); replace HO_32 := Aside0.mk (Kd.R_below (Kd.R_elderB (rk_ HO_32.out) gb108 (Nat.le_of_eq hg.symm)) hb); have BK108 := Aside0.mk (hbox); have GW108 := Aside0.mk ((by rw [hg]; exact (below_size (hs_)) : w.heap.size ≤ gb108)); have GE108 := Aside0.mk ((by rw [hg]; exact (below_size (hs_)) : w.heap.size ≤ gb108)); replace HB := Aside0.mk (below_step (hs_) hb); have NB101_108 := Aside0.mk (nl2_ hg BK101.out); have NB108_101 := Aside0.mk (ng2_ hg BK101.out); replace BK101 := Aside0.mk (bb_ BK101.out hb); clear hb hbox hg; have hnb19 := NB108_101.out; have hnc19 := NB101_108.out; obtain ⟨hcz20_0, hcz20_1, hcz20_2, hfz20_0, hfz20_1, hfz20_2⟩ := bc3 BK108.out) | ((with_reducible refine gate_builtin (b := .append) (xs := #[.tmp 38, .tmp 41]) rfl ?_); at_builtin; refine Kd.R_append Kd.string (w0 := w) w.heap.size rfl (.tmp 38) (.tmp 41) 22 9 (.string ⟨#[]⟩) 16 rfl Tryz.underlying22 info9 rfl (by decide) (by omega) u5 x5_1 ((rd_T108 t103 x34_1).f2) [.string ((rd_T108 t103 x34_1).f2)] (fun _ => True) (fun _ => False) rfl z31_ ?aP (fun _ hk => hk.elim) ?aF ?aO ?aB ?aS ?aL ?_; (case aP => exact rfl); (case aB => exact (hs_)); (case aF => exact (fun _ _ => trivial)); (case aO => exact (by (with_reducible repeat (first | apply Kd.R_alloc | apply Kd.R_drewN | apply Kd.R_drew)); exact Kd.R_mono (Kd.R_far (p := ⟨gb108, 2, none⟩) (Kd.R_far (p := ⟨gb108, 1, none⟩) (Kd.R_far (p := ⟨gb108, 0, none⟩) (Kd.R_types HO_5.out BK108.out (by decide)) (fun _ hk => hk.2) (.int .i64 ((rd_T108 t103 x34_1).f0))) (fun _ hk => hk.2) (.string ((rd_T108 t103 x34_1).f1))) (fun _ hk => hk.2) (.string ((rd_T108 t103 x34_1).f2))) (fun _ hk => trivial))); (case aS => exact (below_size (hs_))); (case aL => have := LMc17.out; omega); intro v110 w21 ho hb hg hat; rw [← Ny109.out] at ho; have n0_ := Aside0.mk (Kd.R_over' (by (with_reducible repeat (first | apply Kd.R_alloc | apply Kd.R_drewN | apply Kd.R_drew)); exact (Kd.R_mono (Kd.R_far (p := ⟨gb108, 2, none⟩) (Kd.R_far (p := ⟨gb108, 1, none⟩) (Kd.R_far (p := ⟨gb108, 0, none⟩) (Kd.R_mono HO_32.out (fun k_ hk => (⟨hk, hk.2⟩ : _ ∧ k_ ≠ gb108))) (fun _ hk => hk.2) (.int .i64 ((rd_T108 t103 x34_1).f0))) (fun _ hk => hk.2) (.string ((rd_T108 t103 x34_1).f1))) (fun _ hk => hk.2) (.string ((rd_T108 t103 x34_1).f2))) (fun _ h_ => h_.1))) (Kd.R_typed (by (with_reducible repeat (first | apply Kd.R_alloc | apply Kd.R_drewN | apply Kd.R_drew)); exact (Kd.R_mono (Kd.R_far (p := ⟨gb108, 2, none⟩) (Kd.R_far (p := ⟨gb108, 1, none⟩) (Kd.R_far (p := ⟨gb108, 0, none⟩) (Kd.R_types HO_5.out BK108.out (by decide)) (fun _ hk => hk.2) (.int .i64 ((rd_T108 t103 x34_1).f0))) (fun _ hk => hk.2) (.string ((rd_T108 t103 x34_1).f1))) (fun _ hk => hk.2) (.string ((rd_T108 t103 x34_1).f2))) (fun _ h_ => h_.1)))) (by decide) hg); have n1_ := Aside0.mk (blk_grown (g := gb101) (o := .cells #[.int .i64 a0_0, .string a0_1] 50 (0, 0)) (by have b_ := BK101; have f_ := NB101_108; exact zb_) hg (Kd.R_ne HO_5.out BK101.out (by decide))); have n2_ := Aside0.mk (blk_grown (g := gb108) (o := .cells #[.int .i64 ((rd_T108 t103 x34_1).f0), .string ((rd_T108 t103 x34_1).f1), .string ((rd_T108 t103 x34_1).f2)] 108 (0, 0)) (by have b_ := BK108; exact zb_) hg (Kd.R_ne HO_5.out BK108.out (by decide))); have n3_ := Aside0.mk (hb); have n4_ := Aside0.mk (ho); clear HO_32; clear BK101; clear BK108; clear HB; clear HO_5; have HO_32 := n0_; have BK101 := n1_; have BK108 := n2_; have HB := n3_; have HO111 := n4_; clear n0_ n1_ n2_ n3_ n4_; clear ho hb hg hat))
          go_roundg k1
          case measure => have := HK1.out; omega
          case rel => exact ⟨(y109), (wrap64 (x34_1 + 1)), z1_, H', ⟨by have := HK1.out; omega⟩, ⟨by (with_reducible repeat (first | apply Kd.R_alloc | apply Kd.R_drewN | apply Kd.R_drew)); exact HO111.out⟩, ⟨by (with_reducible repeat (first | apply Kd.R_alloc | apply Kd.R_drewN | apply Kd.R_drew)); exact Kd.R_mono HO_32.out (fun _ hk => trivial)⟩, ⟨bk_ BK101.out⟩, ⟨hs_⟩⟩
         ·rw [if_neg c17] at H
          exact absurd H (by simp)
        ·rw [if_neg c16] at H
         exact absurd H (by simp)
       ·rw [if_neg c15] at H
        exact absurd H (by simp)
      ·rw [if_neg c14] at H
       have c14b0 := decide_eq_false c14
       clear c14
       have H' := Aside0.mk H
       clear H
       go_wp2
       go_meet
       case rel => exact ⟨_, (x5_1), H', ⟨by have := HK1.out; first | omega | exact Nat.le_refl _⟩, ⟨z24_⟩, ⟨bk_ BK101.out⟩, ⟨hs_⟩⟩
   ·rw [if_neg c9] at H
    have c9b0 := beq_eq_false_iff_ne.mpr c9
    have c9b1 := bne_iff_ne.mpr c9
    (first | rw [c9b0] | (simp only [i64_w, i32_w]; rw [c9b0]) | skip)
    (try rw [c9b8])
    by_cases c22 : a0_0 = 3
    ·rw [if_pos c22] at H
     have c22b0 := beq_iff_eq.mpr c22
     have c22b1 := bne_eq_false_iff_eq.mpr c22
     clear c22
     replace H := Option.bind_eq_some_iff.mp H
     obtain ⟨⟨t112, t113, t116, t117, t118, t119, t120, t121, t122, t123, t124, t125⟩, A230, H⟩ := H
     replace H : ((some (([t112] : List ByteArray) : List ByteArray)).bind fun y127 => (if y127.length + t113.length < 8796093022208 then (commit_Links.j1 k (y127 ++ t113)) else (none))) = some (r1, r2) := H
     have A23 := Aside0.mk A230
     clear A230
     obtain ⟨y127, hy127⟩ : ∃ y_ : List ByteArray, y_ = (([t112] : List ByteArray)) := ⟨_, rfl⟩
     replace H : (if y127.length + t113.length < 8796093022208 then (commit_Links.j1 k (y127 ++ t113)) else (none)) = some (r1, r2) := by first | (rw [hy127]; with_reducible exact H) | (have H2_ := (Option.bind_some _ _).symm.trans H; rw [hy127]; with_reducible exact H2_) | (have H2_ := (Option.bind_some _ _).symm.trans H; with_reducible exact H2_) | with_reducible exact H | (rw [hy127]; exact H) | exact H
     have Ny127 := Aside0.mk hy127
     clear hy127
     by_cases c24 : y127.length + t113.length < 8796093022208
     ·rw [if_pos c24] at H
      have LMc24 := Aside0.mk c24
      clear c24
      obtain ⟨y130, hy130⟩ : ∃ y_ : List ByteArray, y_ = (y127 ++ t113) := ⟨_, rfl⟩
      replace H : (commit_Links.j1 k y130) = some (r1, r2) := by first | (rw [hy130]; with_reducible exact H) | (have H2_ := (Option.bind_some _ _).symm.trans H; rw [hy130]; with_reducible exact H2_) | (have H2_ := (Option.bind_some _ _).symm.trans H; with_reducible exact H2_) | with_reducible exact H | (rw [hy130]; exact H) | exact H
      have Ny130 := Aside0.mk hy130
      clear hy130
      have H' := Aside0.mk H
      clear H
      obtain ⟨hcz25_0, hcz25_1, hfz25_0, hfz25_1⟩ := bc2 BK101.out
      go_wp2_with (first | ((with_reducible refine gate_callee (f := 20) rfl ?_); refine goesL_ (some 49) rfl rfl Tryz.func20 (by kernel_rfl) rfl #[.string a0_1] rfl z2_ ?_; (with_reducible refine (commit_Parse.calls k a0_1 t112 t113 t116 t117 t118 t119 t120 t121 t122 t123 t124 t125 _ ?side1 A23.out).mono ?_); (case side1 => exact GV.below hgv (hs_)); rintro e w26 ⟨v114, rfl, ho0, hb⟩; refine ⟨_, rfl, ?_⟩; have HO115 := Aside0.mk (Kd.R_lower ho0 (below_size (hs_))); replace BK101 := Aside0.mk (bb_ BK101.out hb); replace HB := Aside0.mk (below_step (hs_) hb); (try clear hb); (try clear hb2); (try clear hk); (try clear hi); (try clear ho0)) | ((with_reducible refine gate_dst (N := 10) rfl ?_); refine be_ (cs := #[.string (⟨#[]⟩ : ByteArray), .slice none 0 0, .string (⟨#[]⟩ : ByteArray), .string (⟨#[]⟩ : ByteArray), .int .i64 0, .int .i64 0, .string (⟨#[]⟩ : ByteArray), .string (⟨#[]⟩ : ByteArray), .int .i64 0, .int .i64 0, .string (⟨#[]⟩ : ByteArray)]) (t := 26) ?_; intro gb126 hg w27 hbox hb; replace HO115 := Aside0.mk (Kd.R_below (rk_ HO115.out) hb); have BK126 := Aside0.mk (hbox); have GW126 := Aside0.mk ((by rw [hg]; exact (below_size (hs_)) : w.heap.size ≤ gb126)); have GE126 := Aside0.mk ((by rw [hg]; exact (below_size (hs_)) : w.heap.size ≤ gb126)); replace HB := Aside0.mk (below_step (hs_) hb); have NB101_126 := Aside0.mk (nl2_ hg BK101.out); have NB126_101 := Aside0.mk (ng2_ hg BK101.out); replace BK101 := Aside0.mk (bb_ BK101.out hb); clear hb hbox hg; have hnb28 := NB126_101.out; have hnc28 := NB101_126.out; obtain ⟨hcz29_0, hcz29_1, hcz29_2, hcz29_3, hcz29_4, hcz29_5, hcz29_6, hcz29_7, hcz29_8, hcz29_9, hcz29_10, hfz29_0, hfz29_1, hfz29_2, hfz29_3, hfz29_4, hfz29_5, hfz29_6, hfz29_7, hfz29_8, hfz29_9, hfz29_10⟩ := bc11 BK126.out; obtain ⟨Ao30, co30, eo30⟩ := Kd.R_slice HO115.out; subst eo30) | ((with_reducible refine gate_dst (N := 54) rfl ?_); refine Kd.R_lit Kd.string _ 9 ?hg (N := 54) ?hd (xs := ([t112] : List ByteArray)) (inner := [.string t112]) (ok := fun _ => True) (okp := fun _ => True) ?hr ?hp (fun _ hk => hk) trivial (Below.refl _ _) (Nat.le_refl _) (by simp) ?_; (case hd => rfl); (case hg => rfl); (case hr => first | (go_simp; done) | (go_simp; rfl)); (case hp => exact (Reps.one (show Kd.M Kd.string _ _ _ t112 [.string t112] from rfl) (Reps.none _ _))); intro v128 w31 ho32 hb hg_ hnew_; clear hg_ hnew_; (first | rw [← Ny127.out] at ho32 | (simp only [Int.reduceToNat] at ho32; rw [← Ny127.out] at ho32)); have HO129 := Aside0.mk (Kd.R_lower (Kd.R_new' ho32 (Kd.R_lt (by (with_reducible repeat (first | apply Kd.R_alloc | apply Kd.R_drewN | apply Kd.R_drew)); exact (Kd.R_mono (Kd.R_far (p := ⟨gb126, 10, none⟩) (Kd.R_far (p := ⟨gb126, 9, none⟩) (Kd.R_far (p := ⟨gb126, 8, none⟩) (Kd.R_far (p := ⟨gb126, 7, none⟩) (Kd.R_far (p := ⟨gb126, 6, none⟩) (Kd.R_far (p := ⟨gb126, 5, none⟩) (Kd.R_far (p := ⟨gb126, 4, none⟩) (Kd.R_far (p := ⟨gb126, 3, none⟩) (Kd.R_far (p := ⟨gb126, 2, none⟩) (Kd.R_far (p := ⟨gb126, 1, none⟩) (Kd.R_far (p := ⟨gb126, 0, none⟩) (Kd.R_types HO115.out BK126.out (by decide)) (fun _ hk => hk.2) (.string t112)) (fun _ hk => hk.2) (.slice Ao30 t113.length co30)) (fun _ hk => hk.2) (.string t116)) (fun _ hk => hk.2) (.string t117)) (fun _ hk => hk.2) (.int .i64 t118)) (fun _ hk => hk.2) (.int .i64 t119)) (fun _ hk => hk.2) (.string t120)) (fun _ hk => hk.2) (.string t121)) (fun _ hk => hk.2) (.int .i64 t122)) (fun _ hk => hk.2) (.int .i64 t123)) (fun _ hk => hk.2) (.string t124)) (fun _ h_ => h_.1))))) (below_size (hs_))); replace HO115 := Aside0.mk (Kd.R_elder' (by (with_reducible repeat (first | apply Kd.R_alloc | apply Kd.R_drewN | apply Kd.R_drew)); exact (Kd.R_mono (Kd.R_far (p := ⟨gb126, 10, none⟩) (Kd.R_far (p := ⟨gb126, 9, none⟩) (Kd.R_far (p := ⟨gb126, 8, none⟩) (Kd.R_far (p := ⟨gb126, 7, none⟩) (Kd.R_far (p := ⟨gb126, 6, none⟩) (Kd.R_far (p := ⟨gb126, 5, none⟩) (Kd.R_far (p := ⟨gb126, 4, none⟩) (Kd.R_far (p := ⟨gb126, 3, none⟩) (Kd.R_far (p := ⟨gb126, 2, none⟩) (Kd.R_far (p := ⟨gb126, 1, none⟩) (Kd.R_far (p := ⟨gb126, 0, none⟩) (Kd.R_types HO115.out BK126.out (by decide)) (fun _ hk => hk.2) (.string t112)) (fun _ hk => hk.2) (.slice Ao30 t113.length co30)) (fun _ hk => hk.2) (.string t116)) (fun _ hk => hk.2) (.string t117)) (fun _ hk => hk.2) (.int .i64 t118)) (fun _ hk => hk.2) (.int .i64 t119)) (fun _ hk => hk.2) (.string t120)) (fun _ hk => hk.2) (.string t121)) (fun _ hk => hk.2) (.int .i64 t122)) (fun _ hk => hk.2) (.int .i64 t123)) (fun _ hk => hk.2) (.string t124)) (fun _ h_ => h_.1))) (Kd.R_base ho32) hb); replace BK101 := Aside0.mk (blk_below (g := gb101) (o := .cells #[.int .i64 a0_0, .string a0_1] 50 (0, 0)) (by have b_ := BK101; have f_ := NB101_126; exact zb_) hb); replace BK126 := Aside0.mk (blk_below (g := gb126) (o := .cells #[.string t112, .slice Ao30 t113.length co30, .string t116, .string t117, .int .i64 t118, .int .i64 t119, .string t120, .string t121, .int .i64 t122, .int .i64 t123, .string t124] 26 (0, 0)) (by have b_ := BK126; exact zb_) hb); replace HB := Aside0.mk (below_step (hs_) hb); clear hb ho32; obtain ⟨hcz33_0, hcz33_1, hcz33_2, hcz33_3, hcz33_4, hcz33_5, hcz33_6, hcz33_7, hcz33_8, hcz33_9, hcz33_10, hfz33_0, hfz33_1, hfz33_2, hfz33_3, hfz33_4, hfz33_5, hfz33_6, hfz33_7, hfz33_8, hfz33_9, hfz33_10⟩ := bc11 BK126.out) | ((with_reducible refine gate_builtin (b := .append) (xs := #[.tmp 54, .tmp 56]) rfl ?_); at_builtin; refine Kd.R_append_rows Kd.string (w0 := w) w.heap.size rfl (.tmp 54) (.tmp 56) 22 9 (.string ⟨#[]⟩) 16 rfl Tryz.underlying22 info9 rfl (by decide) (by omega) v128 y127 t113 _ _ _ (fun k_ => some k_ ≠ (.slice Ao30 t113.length co30 : Value).ownBlock) (fun _ => False) rfl rfl ?aO ?aR (fun _ _ h => h) (fun _ h => h.elim) ?aF ?aB ?aS ?aL ?_; (case aR => repeat (first | exact (Kd.R_reads' HO115.out).2.2 | (with_reducible refine Kd.C_alloc ?_ _) | (with_reducible refine Kd.C_drewN ?_ _) | (with_reducible refine Kd.C_drew ?_))); (case aB => exact (hs_)); (case aF => exact (fun k_ hk => Kd.fresh' (Kd.R_lt (rk_ HO115.out)) k_ hk)); (case aO => exact (by (with_reducible repeat (first | apply Kd.R_alloc | apply Kd.R_drewN | apply Kd.R_drew)); exact Kd.R_mono HO129.out (fun _ hk => hk.2))); (case aS => exact (below_size (hs_))); (case aL => have := LMc24.out; omega); intro v131 w34 ho hb hg hat; rw [← Ny130.out] at ho; have n0_ := Aside0.mk (blk_grown (g := gb101) (o := .cells #[.int .i64 a0_0, .string a0_1] 50 (0, 0)) (bk_ BK101.out) hg (Kd.R_ne HO129.out BK101.out (by decide))); have n1_ := Aside0.mk (Kd.R_after (ok := (fun _ => True)) (rk_ HO115.out) hg hat); have n2_ := Aside0.mk (blk_grown (g := gb126) (o := .cells #[.string t112, .slice Ao30 t113.length co30, .string t116, .string t117, .int .i64 t118, .int .i64 t119, .string t120, .string t121, .int .i64 t122, .int .i64 t123, .string t124] 26 (0, 0)) (bk_ BK126.out) hg (Kd.R_ne HO129.out BK126.out (by decide))); have n3_ := Aside0.mk (hb); have n4_ := Aside0.mk (ho); clear BK101; clear HO115; clear BK126; clear HB; clear HO129; have BK101 := n0_; have HO115 := n1_; have BK126 := n2_; have HB := n3_; have HO132 := n4_; clear n0_ n1_ n2_ n3_ n4_; clear ho hb hg hat))
      go_meet
      case rel => exact ⟨_, (y130), H', ⟨z5_⟩, ⟨by (with_reducible repeat (first | apply Kd.R_alloc | apply Kd.R_drewN | apply Kd.R_drew)); exact Kd.R_mono HO132.out (fun _ hk => trivial)⟩, ⟨bk_ BK101.out⟩, ⟨hs_⟩⟩
     ·rw [if_neg c24] at H
      exact absurd H (by simp)
    ·rw [if_neg c22] at H
     have c22b0 := beq_eq_false_iff_ne.mpr c22
     have c22b1 := bne_iff_ne.mpr c22
     by_cases c35 : a0_0 = 4
     ·rw [if_pos c35] at H
      have c35b0 := beq_iff_eq.mpr c35
      have c35b1 := bne_eq_false_iff_eq.mpr c35
      clear c35
      replace H := Option.bind_eq_some_iff.mp H
      obtain ⟨⟨t133, t134, t135, t136, t137, t138, t139, t140, t141⟩, A360, H⟩ := H
      replace H : (commit_Links.j1 k (([t133] : List ByteArray))) = some (r1, r2) := H
      have A36 := Aside0.mk A360
      clear A360
      obtain ⟨y143, hy143⟩ : ∃ y_ : List ByteArray, y_ = (([t133] : List ByteArray)) := ⟨_, rfl⟩
      replace H : (commit_Links.j1 k y143) = some (r1, r2) := by first | (rw [hy143]; with_reducible exact H) | (have H2_ := (Option.bind_some _ _).symm.trans H; rw [hy143]; with_reducible exact H2_) | (have H2_ := (Option.bind_some _ _).symm.trans H; with_reducible exact H2_) | with_reducible exact H | (rw [hy143]; exact H) | exact H
      have Ny143 := Aside0.mk hy143
      clear hy143
      have H' := Aside0.mk H
      clear H
      obtain ⟨hcz37_0, hcz37_1, hfz37_0, hfz37_1⟩ := bc2 BK101.out
      go_wp2_with (first | ((with_reducible refine gate_callee (f := 23) rfl ?_); refine goesL_ (some 63) rfl rfl Tryz.func23 (by kernel_rfl) rfl #[.string a0_1] rfl z2_ ?_; (with_reducible refine (commit_ParseTag.calls k a0_1 t133 t134 t135 t136 t137 t138 t139 t140 t141 _ ?side1 A36.out).mono ?_); (case side1 => exact GV.below hgv (hs_)); rintro e w38 ⟨rfl, hb⟩; refine ⟨_, rfl, ?_⟩; replace BK101 := Aside0.mk (bb_ BK101.out hb); replace HB := Aside0.mk (below_step (hs_) hb); (try clear hb); (try clear hb2); (try clear hk); (try clear hi)) | ((with_reducible refine gate_dst (N := 12) rfl ?_); refine be_ (cs := #[.string (⟨#[]⟩ : ByteArray), .int .i64 0, .string (⟨#[]⟩ : ByteArray), .string (⟨#[]⟩ : ByteArray), .string (⟨#[]⟩ : ByteArray), .int .i64 0, .int .i64 0, .string (⟨#[]⟩ : ByteArray)]) (t := 37) ?_; intro gb142 hg w39 hbox hb; have BK142 := Aside0.mk (hbox); have GW142 := Aside0.mk ((by rw [hg]; exact (below_size (hs_)) : w.heap.size ≤ gb142)); have GE142 := Aside0.mk ((by rw [hg]; exact (below_size (hs_)) : w.heap.size ≤ gb142)); replace HB := Aside0.mk (below_step (hs_) hb); have NB101_142 := Aside0.mk (nl2_ hg BK101.out); have NB142_101 := Aside0.mk (ng2_ hg BK101.out); replace BK101 := Aside0.mk (bb_ BK101.out hb); clear hb hbox hg; have hnb40 := NB142_101.out; have hnc40 := NB101_142.out; obtain ⟨hcz41_0, hcz41_1, hcz41_2, hcz41_3, hcz41_4, hcz41_5, hcz41_6, hcz41_7, hfz41_0, hfz41_1, hfz41_2, hfz41_3, hfz41_4, hfz41_5, hfz41_6, hfz41_7⟩ := bc8 BK142.out) | ((with_reducible refine gate_dst (N := 68) rfl ?_); refine Kd.R_lit Kd.string _ 9 ?hg (N := 68) ?hd (xs := ([t133] : List ByteArray)) (inner := [.string t133]) (ok := fun _ => True) (okp := fun _ => True) ?hr ?hp (fun _ hk => hk) trivial (Below.refl _ _) (Nat.le_refl _) (by simp) ?_; (case hd => rfl); (case hg => rfl); (case hr => first | (go_simp; done) | (go_simp; rfl)); (case hp => exact (Reps.one (show Kd.M Kd.string _ _ _ t133 [.string t133] from rfl) (Reps.none _ _))); intro v144 w42 ho43 hb hg_ hnew_; clear hg_ hnew_; (first | rw [← Ny143.out] at ho43 | (simp only [Int.reduceToNat] at ho43; rw [← Ny143.out] at ho43)); have HO145 := Aside0.mk (Kd.R_lower ho43 (below_size (hs_))); replace BK101 := Aside0.mk (blk_below (g := gb101) (o := .cells #[.int .i64 a0_0, .string a0_1] 50 (0, 0)) (by have b_ := BK101; have f_ := NB101_142; exact zb_) hb); replace BK142 := Aside0.mk (blk_below (g := gb142) (o := .cells #[.string t133, .int .i64 t134, .string t135, .string t136, .string t137, .int .i64 t138, .int .i64 t139, .string t140] 37 (0, 0)) (by have b_ := BK142; exact zb_) hb); replace HB := Aside0.mk (below_step (hs_) hb); clear hb ho43))
      go_meet
      case rel => exact ⟨_, (y143), H', ⟨z5_⟩, ⟨by (with_reducible repeat (first | apply Kd.R_alloc | apply Kd.R_drewN | apply Kd.R_drew)); exact HO145.out⟩, ⟨bk_ BK101.out⟩, ⟨hs_⟩⟩
     ·rw [if_neg c35] at H
      have c35b0 := beq_eq_false_iff_ne.mpr c35
      have c35b1 := bne_iff_ne.mpr c35
      have H' := Aside0.mk H
      clear H
      go_wp2
      go_meet
      case rel => exact ⟨_, (([] : List ByteArray)), H', ⟨z5_⟩, ⟨z6_⟩, ⟨bk_ BK101.out⟩, ⟨hs_⟩⟩
  case rest =>
   clear HC4
   try clear c1
   try clear p1
   try clear q1
   try clear hx1
   try clear c2
   try clear p2
   try clear c3
   try clear c3b0
   try clear c3b1
   try clear c4
   try clear p6
   try clear c9
   try clear c9b0
   try clear c9b1
   try clear p10
   try clear q10
   try clear hx10
   try clear c14
   try clear c14b0
   try clear c15
   try clear c15b0
   try clear c16
   try clear c16b0
   try clear c17
   try clear c19
   try clear c20
   try clear c22
   try clear c22b0
   try clear c22b1
   try clear c23
   try clear c24
   try clear c28
   try clear c34
   try clear c35
   try clear c35b0
   try clear c35b1
   try clear c36
   try clear c40
   try clear hcz11_0 hcz11_1
   try clear hcz20_0 hcz20_1 hcz20_2
   try clear hcz25_0 hcz25_1
   try clear hcz29_0 hcz29_1 hcz29_10 hcz29_2 hcz29_3 hcz29_4 hcz29_5 hcz29_6 hcz29_7 hcz29_8 hcz29_9
   try clear hcz33_0 hcz33_1 hcz33_10 hcz33_2 hcz33_3 hcz33_4 hcz33_5 hcz33_6 hcz33_7 hcz33_8 hcz33_9
   try clear hcz37_0 hcz37_1
   try clear hcz41_0 hcz41_1 hcz41_2 hcz41_3 hcz41_4 hcz41_5 hcz41_6 hcz41_7
   try clear hcz6_0 hcz6_1
   try clear hcz8_0 hcz8_1
   try clear hfz11_0 hfz11_1
   try clear hfz20_0 hfz20_1 hfz20_2
   try clear hfz25_0 hfz25_1
   try clear hfz29_0 hfz29_1 hfz29_10 hfz29_2 hfz29_3 hfz29_4 hfz29_5 hfz29_6 hfz29_7 hfz29_8 hfz29_9
   try clear hfz33_0 hfz33_1 hfz33_10 hfz33_2 hfz33_3 hfz33_4 hfz33_5 hfz33_6 hfz33_7 hfz33_8 hfz33_9
   try clear hfz37_0 hfz37_1
   try clear hfz41_0 hfz41_1 hfz41_2 hfz41_3 hfz41_4 hfz41_5 hfz41_6 hfz41_7
   try clear hfz6_0 hfz6_1
   try clear hfz8_0 hfz8_1
   try clear hx107_0
   try clear hx107_1
   try clear hx107_2
   try clear p107
   try clear p2
   try clear q107
   obtain ⟨kq, x5_3, HA, HJ3, HO_5, BK101, HB⟩ := hcut
   cases kq with
   | zero => exact absurd HA.out (by simp [commit_Links.j1])
   | succ kj3 =>
    have H := HA.out
    clear HA
    simp only [commit_Links.j1] at H
    have H' := Aside0.mk H
    clear H
    obtain ⟨Ao44, co44, eo44⟩ := Kd.R_slice HO_5.out
    subst eo44
    go_wp2
    go_loopg [14, 71] kj3 (fun kq v14 v71 w' => ∃ (x14_2 : List ByteArray) (x71_2 : Int), v71 = .int .i64 x71_2 ∧ Aside0 (commit_Links.l1 kq x14_2 x5_3 (x5_3.length : Int) x71_2 = some (r1, r2)) ∧ Aside0 (kq ≤ kj3) ∧ Aside0 (Kd.R Kd.string 9 w' w.heap.size (fun k_ => some k_ ≠ ((.slice Ao44 x5_3.length co44) : Value).ownBlock) v14 x14_2) ∧ Aside0 (Kd.R Kd.string 9 w' w.heap.size (fun k_ => some k_ ≠ (v14 : Value).ownBlock) (.slice Ao44 x5_3.length co44) x5_3) ∧ Aside0 (w'.heap[gb101]? = some (.cells #[.int .i64 a0_0, .string a0_1] 50 (0, 0))) ∧ Aside0 (Below w.heap.size w w'))
    case atStart => exact ⟨(([] : List ByteArray)), (0), z1_, H', ⟨Nat.le_refl _⟩, ⟨z6_⟩, ⟨by (with_reducible repeat (first | apply Kd.R_alloc | apply Kd.R_drewN | apply Kd.R_drew)); exact Kd.R_mono HO_5.out (fun _ hk => (by simp [Value.ownBlock]))⟩, ⟨bk_ BK101.out⟩, ⟨hs_⟩⟩
    case round =>
     clear H'
     try clear c1
     try clear p1
     try clear q1
     try clear hx1
     try clear c2
     try clear p2
     try clear c3
     try clear c3b0
     try clear c3b1
     try clear c4
     try clear p6
     try clear c9
     try clear c9b0
     try clear c9b1
     try clear p10
     try clear q10
     try clear hx10
     try clear c14
     try clear c14b0
     try clear c15
     try clear c15b0
     try clear c16
     try clear c16b0
     try clear c17
     try clear c19
     try clear c20
     try clear c22
     try clear c22b0
     try clear c22b1
     try clear c23
     try clear c24
     try clear c28
     try clear c34
     try clear c35
     try clear c35b0
     try clear c35b1
     try clear c36
     try clear c40
     try clear hcz11_0 hcz11_1
     try clear hcz20_0 hcz20_1 hcz20_2
     try clear hcz25_0 hcz25_1
     try clear hcz29_0 hcz29_1 hcz29_10 hcz29_2 hcz29_3 hcz29_4 hcz29_5 hcz29_6 hcz29_7 hcz29_8 hcz29_9
     try clear hcz33_0 hcz33_1 hcz33_10 hcz33_2 hcz33_3 hcz33_4 hcz33_5 hcz33_6 hcz33_7 hcz33_8 hcz33_9
     try clear hcz37_0 hcz37_1
     try clear hcz41_0 hcz41_1 hcz41_2 hcz41_3 hcz41_4 hcz41_5 hcz41_6 hcz41_7
     try clear hcz6_0 hcz6_1
     try clear hcz8_0 hcz8_1
     try clear hfz11_0 hfz11_1
     try clear hfz20_0 hfz20_1 hfz20_2
     try clear hfz25_0 hfz25_1
     try clear hfz29_0 hfz29_1 hfz29_10 hfz29_2 hfz29_3 hfz29_4 hfz29_5 hfz29_6 hfz29_7 hfz29_8 hfz29_9
     try clear hfz33_0 hfz33_1 hfz33_10 hfz33_2 hfz33_3 hfz33_4 hfz33_5 hfz33_6 hfz33_7 hfz33_8 hfz33_9
     try clear hfz37_0 hfz37_1
     try clear hfz41_0 hfz41_1 hfz41_2 hfz41_3 hfz41_4 hfz41_5 hfz41_6 hfz41_7
     try clear hfz6_0 hfz6_1
     try clear hfz8_0 hfz8_1
     try clear hx107_0
     try clear hx107_1
     try clear hx107_2
     try clear p1
     try clear p10
     try clear p107
     try clear p2
     try clear p6
     try clear q1
     try clear q10
     try clear q107
     obtain ⟨x14_2, x71_2, rfl, HA, HK2, HO_14, HO_69, BK101, HB⟩ := hrel
     cases gk with
     | zero => exact absurd HA.out (by simp [commit_Links.l1])
     | succ k2 =>
      have H := HA.out
      clear HA
      simp only [commit_Links.l1] at H
      by_cases c45 : x71_2 < (x5_3.length : Int)
      ·rw [if_pos c45] at H
       have c45b0 := decide_eq_true c45
       clear c45
       by_cases c46 : 0 ≤ x71_2
       ·rw [if_pos c46] at H
        have c46b0 := decide_eq_true c46
        clear c46
        by_cases c47 : x71_2 < (x5_3.length : Int)
        ·rw [if_pos c47] at H
         have c47b0 := decide_eq_true c47
         clear c47
         replace H := Option.bind_eq_some_iff.mp H
         obtain ⟨t147, A480, H⟩ := H
         have A48 := Aside0.mk A480
         clear A480
         by_cases c49 : t147 = true
         ·subst c49
          have H1 : (commit_Links.l1 k2 x14_2 x5_3 (x5_3.length : Int) (wrap64 (x71_2 + 1))) = some (r1, r2) := by rw [if_pos rfl] at H; exact H
          clear H
          have H := H1
          clear H1
          have H' := Aside0.mk H
          clear H
          have p146 : 0 ≤ (x71_2 : Int) := of_decide_eq_true z0_
          have q146 : x71_2 < (x5_3.length : Int) := of_decide_eq_true z0_
          obtain ⟨ad146, e146, hx146_0⟩ := Kd.at_string (Kd.R_reads' HO_69.out).2.2 x71_2 p146 q146
          cases e146
          replace p146 := eq_true p146
          replace q146 := eq_true q146
          obtain ⟨Ao50, co50, eo50⟩ := Kd.R_slice HO_14.out
          subst eo50
          go_wp2_with (first | ((with_reducible refine gate_callee (f := 95) rfl ?_); refine goesL_ (some 77) rfl rfl Tryz.func95 (by kernel_rfl) rfl #[.slice Ao50 x14_2.length co50, .string (rdOf ByteArray.empty x5_3 x71_2)] rfl z2_ ?_; (with_reducible refine (slices_Contains_string_string.calls k2 _ _ x14_2 (rdOf ByteArray.empty x5_3 x71_2) true _ ?side1 ?side2 A48.out).mono ?_); (case side1 => repeat (first | exact (Kd.R_reads' HO_14.out).2.2 | (with_reducible refine Kd.C_alloc ?_ _) | (with_reducible refine Kd.C_drewN ?_ _) | (with_reducible refine Kd.C_drew ?_))); (case side2 => exact (Kd.R_reads' HO_14.out).2.1); rintro e w' ⟨rfl, ⟨nd, rfl⟩⟩; refine ⟨_, rfl, ?_⟩))
          go_roundg k2
          case measure => have := HJ3.out; have := HK2.out; omega
          case rel => exact ⟨(x14_2), (wrap64 (x71_2 + 1)), z1_, H', ⟨by have := HJ3.out; have := HK2.out; omega⟩, ⟨by (with_reducible repeat (first | apply Kd.R_alloc | apply Kd.R_drewN | apply Kd.R_drew)); exact HO_14.out⟩, ⟨by (with_reducible repeat (first | apply Kd.R_alloc | apply Kd.R_drewN | apply Kd.R_drew)); exact HO_69.out⟩, ⟨bk_ BK101.out⟩, ⟨hs_⟩⟩
         ·replace c49 := Bool.eq_false_iff.mpr c49
          subst c49
          have H1 : (if x14_2.length < 8796093022208 then (commit_Links.l1 k2 (x14_2 ++ [rdOf ByteArray.empty x5_3 x71_2]) x5_3 (x5_3.length : Int) (wrap64 (x71_2 + 1))) else (none)) = some (r1, r2) := by rw [if_neg (show ¬ (false = true) by decide)] at H; exact H
          clear H
          have H := H1
          clear H1
          by_cases c51 : x14_2.length < 8796093022208
          ·rw [if_pos c51] at H
           have LMc51 := Aside0.mk c51
           clear c51
           obtain ⟨y148, hy148⟩ : ∃ y_ : List ByteArray, y_ = (x14_2 ++ [rdOf ByteArray.empty x5_3 x71_2]) := ⟨_, rfl⟩
           replace H : (commit_Links.l1 k2 y148 x5_3 (x5_3.length : Int) (wrap64 (x71_2 + 1))) = some (r1, r2) := by first | (rw [hy148]; with_reducible exact H) | (have H2_ := (Option.bind_some _ _).symm.trans H; rw [hy148]; with_reducible exact H2_) | (have H2_ := (Option.bind_some _ _).symm.trans H; with_reducible exact H2_) | with_reducible exact H | (rw [hy148]; exact H) | exact H
           have Ny148 := Aside0.mk hy148
           clear hy148
           have H' := Aside0.mk H
           clear H
           have p146 : 0 ≤ (x71_2 : Int) := of_decide_eq_true z0_
           have q146 : x71_2 < (x5_3.length : Int) := of_decide_eq_true z0_
           obtain ⟨ad146, e146, hx146_0⟩ := Kd.at_string (Kd.R_reads' HO_69.out).2.2 x71_2 p146 q146
           cases e146
           replace p146 := eq_true p146
           replace q146 := eq_true q146
           obtain ⟨Ao52, co52, eo52⟩ := Kd.R_slice HO_14.out
           subst eo52
           go_wp2_with (first | ((with_reducible refine gate_callee (f := 95) rfl ?_); refine goesL_ (some 77) rfl rfl Tryz.func95 (by kernel_rfl) rfl #[.slice Ao52 x14_2.length co52, .string (rdOf ByteArray.empty x5_3 x71_2)] rfl z2_ ?_; (with_reducible refine (slices_Contains_string_string.calls k2 _ _ x14_2 (rdOf ByteArray.empty x5_3 x71_2) false _ ?side1 ?side2 A48.out).mono ?_); (case side1 => repeat (first | exact (Kd.R_reads' HO_14.out).2.2 | (with_reducible refine Kd.C_alloc ?_ _) | (with_reducible refine Kd.C_drewN ?_ _) | (with_reducible refine Kd.C_drew ?_))); (case side2 => exact (Kd.R_reads' HO_14.out).2.1); rintro e w' ⟨rfl, ⟨nd, rfl⟩⟩; refine ⟨_, rfl, ?_⟩) | ((with_reducible refine gate_builtin (b := .append) (xs := #[.tmp 79, .tmp 81]) rfl ?_); at_builtin; refine Kd.R_append Kd.string (w0 := w) w.heap.size rfl (.tmp 79) (.tmp 81) 22 9 (.string ⟨#[]⟩) 16 rfl Tryz.underlying22 info9 rfl (by decide) (by omega) (.slice Ao52 x14_2.length co52) x14_2 (rdOf ByteArray.empty x5_3 x71_2) [.string (rdOf ByteArray.empty x5_3 x71_2)] (fun k_ => some k_ ≠ (.slice (some ad146) x5_3.length co44 : Value).ownBlock) (fun _ => False) rfl rfl ?aP (fun _ hk => hk.elim) ?aF ?aO ?aB ?aS ?aL ?_; (case aP => exact rfl); (case aB => exact (hs_)); (case aF => exact (fun k_ hk => Kd.fresh' (Kd.R_lt (rk_ HO_69.out)) k_ hk)); (case aO => exact (rk_ HO_14.out)); (case aS => exact (below_size (hs_))); (case aL => have := LMc51.out; omega); intro v149 w53 ho hb hg hat; rw [← Ny148.out] at ho; have n0_ := Aside0.mk (Kd.R_after (ok := (fun _ => True)) (by (with_reducible repeat (first | apply Kd.R_alloc | apply Kd.R_drewN | apply Kd.R_drew)); exact Kd.R_mono HO_69.out (fun _ hk => ⟨trivial, hk⟩)) hg hat); have n1_ := Aside0.mk (blk_grown (g := gb101) (o := .cells #[.int .i64 a0_0, .string a0_1] 50 (0, 0)) (bk_ BK101.out) hg (Kd.R_ne HO_14.out BK101.out (by decide))); have n2_ := Aside0.mk (hb); have n3_ := Aside0.mk (ho); clear HO_69; clear BK101; clear HB; clear HO_14; have HO_69 := n0_; have BK101 := n1_; have HB := n2_; have HO150 := n3_; clear n0_ n1_ n2_ n3_; clear ho hb hg hat))
           go_roundg k2
           case measure => have := HJ3.out; have := HK2.out; omega
           case rel => exact ⟨(y148), (wrap64 (x71_2 + 1)), z1_, H', ⟨by have := HJ3.out; have := HK2.out; omega⟩, ⟨by (with_reducible repeat (first | apply Kd.R_alloc | apply Kd.R_drewN | apply Kd.R_drew)); exact HO150.out⟩, ⟨by (with_reducible repeat (first | apply Kd.R_alloc | apply Kd.R_drewN | apply Kd.R_drew)); exact Kd.R_mono HO_69.out (fun _ hk => hk.2)⟩, ⟨bk_ BK101.out⟩, ⟨hs_⟩⟩
          ·rw [if_neg c51] at H
           exact absurd H (by simp)
        ·rw [if_neg c47] at H
         exact absurd H (by simp)
       ·rw [if_neg c46] at H
        exact absurd H (by simp)
      ·rw [if_neg c45] at H
       have c45b0 := decide_eq_false c45
       clear c45
       simp only [Option.some.injEq, Prod.mk.injEq] at H
       obtain ⟨rfl, rfl⟩ := H
       go_wp2
       go_ret2
       exact ⟨_, z4_, by (with_reducible repeat (first | apply Kd.R_alloc | apply Kd.R_drewN | apply Kd.R_drew)); exact Kd.R_mono HO_14.out (fun _ hk => trivial), hs_⟩
 ·rw [if_neg c3] at H
  have c3b0 := beq_eq_false_iff_ne.mpr c3
  have c3b1 := bne_iff_ne.mpr c3
  simp only [Option.some.injEq, Prod.mk.injEq] at H
  obtain ⟨rfl, rfl⟩ := H
  go_enter Tryz.func34, Tryz.ntmps34
  go_wp2_with (first | ((with_reducible refine gate_dst (N := 1) rfl ?_); refine be_ (cs := #[.int .i64 a0_0, .string a0_1]) (t := 50) ?_; intro gb101 hg w54 hbox hb; have BK101 := Aside0.mk (hbox); have GW101 := Aside0.mk (gw_ hg HB.out); have GE101 := Aside0.mk (gw_ hg HB.out); replace HB := Aside0.mk (below_step (hb_ HB.out) hb); clear hb hbox hg; obtain ⟨hcz55_0, hcz55_1, hfz55_0, hfz55_1⟩ := bc2 BK101.out) | ((with_reducible refine gate_callee (f := 36) rfl ?_); refine goesL_ (some 18) rfl rfl Tryz.func36 (by kernel_rfl) rfl #[.agg #[.int .i64 a0_0, .string a0_1]] rfl z2_ ?_; (with_reducible refine (commit_Whole.calls k a0_0 a0_1 t102 _ ?side1 A2.out).mono ?_); (case side1 => exact GV.below hgv (hs_)); rintro e w56 ⟨rfl, hb⟩; refine ⟨_, rfl, ?_⟩; replace BK101 := Aside0.mk (bb_ BK101.out hb); replace HB := Aside0.mk (below_step (hs_) hb); (try clear hb); (try clear hb2); (try clear hk); (try clear hi)))
  go_ret2
  exact ⟨_, z4_, z6_, hs_⟩


def graftagelaw16_lives.f (k : Nat)  : Option (Bool) := (commit_ParseWho.f k (⟨#[97, 32, 60, 97, 64, 98, 62, 32, 53, 32, 45, 48, 49, 51, 48]⟩ : ByteArray)).bind fun bt101 => ((commit_ParseWho.f k (⟨#[97, 32, 60, 98, 62, 32, 48, 53, 32, 43, 48, 48, 48, 48]⟩ : ByteArray)).bind fun bt107 => ((graftagelaw16_who.f).bind fun bt113 => ((graftagelaw16_who.f).bind fun bt117 => ((commit_Body.f k (⟨#[48, 49, 50, 51, 52, 53, 54, 55, 56, 57, 97, 98, 99, 100, 101, 102, 48, 49, 50, 51, 52, 53, 54, 55, 56, 57, 97, 98, 99, 100, 101, 102, 48, 49, 50, 51, 52, 53, 54, 55]⟩ : ByteArray) ([] : List ByteArray) bt113.1 bt113.2.1 bt113.2.2.1 bt113.2.2.2 bt117.1 bt117.2.1 bt117.2.2.1 bt117.2.2.2 (⟨#[120, 10]⟩ : ByteArray)).bind fun bt121 => ((commit_Links.f k 3 bt121.1).bind fun bt123 => ((graftagelaw16_who.f).bind fun bt127 => ((commit_TagBody.f k (⟨#[48, 49, 50, 51, 52, 53, 54, 55, 56, 57, 97, 98, 99, 100, 101, 102, 48, 49, 50, 51, 52, 53, 54, 55, 56, 57, 97, 98, 99, 100, 101, 102, 48, 49, 50, 51, 52, 53, 54, 55]⟩ : ByteArray) 5 (⟨#[118]⟩ : ByteArray) bt127.1 bt127.2.1 bt127.2.2.1 bt127.2.2.2 (⟨#[]⟩ : ByteArray)).bind fun bt131 => ((graftagelaw16_who.f).bind fun bt133 => ((commit_Who.f bt133.1 bt133.2.1 bt133.2.2.1 bt133.2.2.2).bind fun t137 => (if t137.toList = ([97, 32, 60, 97, 64, 98, 62, 32, 53, 32, 43, 48, 49, 48, 48] : List UInt8) then (if bt101.2.2.2.1 = (-90) then (if bt101.2.2.2.2 = 0 then (if bt107.2.2.2.2 = 2 then (if bt121.1.toList = ([116, 114, 101, 101, 32, 48, 49, 50, 51, 52, 53, 54, 55, 56, 57, 97, 98, 99, 100, 101, 102, 48, 49, 50, 51, 52, 53, 54, 55, 56, 57, 97, 98, 99, 100, 101, 102, 48, 49, 50, 51, 52, 53, 54, 55, 10, 97, 117, 116, 104, 111, 114, 32, 97, 32, 60, 97, 64, 98, 62, 32, 53, 32, 43, 48, 49, 48, 48, 10, 99, 111, 109, 109, 105, 116, 116, 101, 114, 32, 97, 32, 60, 97, 64, 98, 62, 32, 53, 32, 43, 48, 49, 48, 48, 10, 10, 120, 10] : List UInt8) then (if bt121.2 = 0 then (if (bt123.1.length : Int) = 1 then (if 0 < (bt123.1.length : Int) then (if (rdOf ByteArray.empty bt123.1 0).toList = ([48, 49, 50, 51, 52, 53, 54, 55, 56, 57, 97, 98, 99, 100, 101, 102, 48, 49, 50, 51, 52, 53, 54, 55, 56, 57, 97, 98, 99, 100, 101, 102, 48, 49, 50, 51, 52, 53, 54, 55] : List UInt8) then (if bt123.2 = 0 then (if bt131.2 = 1 then ((commit_Whole.f k 3 (⟨#[120]⟩ : ByteArray)).bind fun t139 => (some (t139 == 2))) else (some false)) else (some false)) else (some false)) else (none)) else (some false)) else (some false)) else (some false)) else (some false)) else (some false)) else (some false)) else (some false)))))))))))
theorem graftagelaw16_lives.mono : ∀ k, LeO (graftagelaw16_lives.f k ) (graftagelaw16_lives.f (k + 1) ) := by
 intro  k
 unfold graftagelaw16_lives.f
 have m0_ := @commit_Body.mono
 have m1_ := @commit_Links.mono
 have m2_ := @commit_ParseWho.mono
 have m3_ := @commit_TagBody.mono
 have m4_ := @commit_Whole.mono
 exact mz_
set_option maxHeartbeats 8000000 in
set_option maxRecDepth 100000 in
theorem graftagelaw16_lives.callsT (k : Nat)  (r : Bool) (w : World) (hgv : GV w) (hr_ : r = true) (h : graftagelaw16_lives.f k  = some r) :
  Calls Tryz.prog 15 #[] w fun e w' => e = .returned (.bool r) ∧ Below w.heap.size w w' := by
 have hu24 := Tryz.underlying24
 have hu26 := Tryz.underlying26
 have hu50 := Tryz.underlying50
 have hu37 := Tryz.underlying37
 have HB := Aside0.mk (Below.refl w.heap.size w)
 have H : ((commit_ParseWho.f k (⟨#[97, 32, 60, 97, 64, 98, 62, 32, 53, 32, 45, 48, 49, 51, 48]⟩ : ByteArray)).bind fun bt101 => ((commit_ParseWho.f k (⟨#[97, 32, 60, 98, 62, 32, 48, 53, 32, 43, 48, 48, 48, 48]⟩ : ByteArray)).bind fun bt107 => ((graftagelaw16_who.f).bind fun bt113 => ((graftagelaw16_who.f).bind fun bt117 => ((commit_Body.f k (⟨#[48, 49, 50, 51, 52, 53, 54, 55, 56, 57, 97, 98, 99, 100, 101, 102, 48, 49, 50, 51, 52, 53, 54, 55, 56, 57, 97, 98, 99, 100, 101, 102, 48, 49, 50, 51, 52, 53, 54, 55]⟩ : ByteArray) ([] : List ByteArray) bt113.1 bt113.2.1 bt113.2.2.1 bt113.2.2.2 bt117.1 bt117.2.1 bt117.2.2.1 bt117.2.2.2 (⟨#[120, 10]⟩ : ByteArray)).bind fun bt121 => ((commit_Links.f k 3 bt121.1).bind fun bt123 => ((graftagelaw16_who.f).bind fun bt127 => ((commit_TagBody.f k (⟨#[48, 49, 50, 51, 52, 53, 54, 55, 56, 57, 97, 98, 99, 100, 101, 102, 48, 49, 50, 51, 52, 53, 54, 55, 56, 57, 97, 98, 99, 100, 101, 102, 48, 49, 50, 51, 52, 53, 54, 55]⟩ : ByteArray) 5 (⟨#[118]⟩ : ByteArray) bt127.1 bt127.2.1 bt127.2.2.1 bt127.2.2.2 (⟨#[]⟩ : ByteArray)).bind fun bt131 => ((graftagelaw16_who.f).bind fun bt133 => ((commit_Who.f bt133.1 bt133.2.1 bt133.2.2.1 bt133.2.2.2).bind fun t137 => (if t137.toList = ([97, 32, 60, 97, 64, 98, 62, 32, 53, 32, 43, 48, 49, 48, 48] : List UInt8) then (if bt101.2.2.2.1 = (-90) then (if bt101.2.2.2.2 = 0 then (if bt107.2.2.2.2 = 2 then (if bt121.1.toList = ([116, 114, 101, 101, 32, 48, 49, 50, 51, 52, 53, 54, 55, 56, 57, 97, 98, 99, 100, 101, 102, 48, 49, 50, 51, 52, 53, 54, 55, 56, 57, 97, 98, 99, 100, 101, 102, 48, 49, 50, 51, 52, 53, 54, 55, 10, 97, 117, 116, 104, 111, 114, 32, 97, 32, 60, 97, 64, 98, 62, 32, 53, 32, 43, 48, 49, 48, 48, 10, 99, 111, 109, 109, 105, 116, 116, 101, 114, 32, 97, 32, 60, 97, 64, 98, 62, 32, 53, 32, 43, 48, 49, 48, 48, 10, 10, 120, 10] : List UInt8) then (if bt121.2 = 0 then (if (bt123.1.length : Int) = 1 then (if 0 < (bt123.1.length : Int) then (if (rdOf ByteArray.empty bt123.1 0).toList = ([48, 49, 50, 51, 52, 53, 54, 55, 56, 57, 97, 98, 99, 100, 101, 102, 48, 49, 50, 51, 52, 53, 54, 55, 56, 57, 97, 98, 99, 100, 101, 102, 48, 49, 50, 51, 52, 53, 54, 55] : List UInt8) then (if bt123.2 = 0 then (if bt131.2 = 1 then ((commit_Whole.f k 3 (⟨#[120]⟩ : ByteArray)).bind fun t139 => (some (t139 == 2))) else (some false)) else (some false)) else (some false)) else (none)) else (some false)) else (some false)) else (some false)) else (some false)) else (some false)) else (some false)) else (some false)))))))))))) = some r := h
 clear h
 replace H := Option.bind_eq_some_iff.mp H
 obtain ⟨⟨t101, t102, t103, t104, t105⟩, A10, H⟩ := H
 replace H : ((commit_ParseWho.f k (⟨#[97, 32, 60, 98, 62, 32, 48, 53, 32, 43, 48, 48, 48, 48]⟩ : ByteArray)).bind fun bt107 => ((graftagelaw16_who.f).bind fun bt113 => ((graftagelaw16_who.f).bind fun bt117 => ((commit_Body.f k (⟨#[48, 49, 50, 51, 52, 53, 54, 55, 56, 57, 97, 98, 99, 100, 101, 102, 48, 49, 50, 51, 52, 53, 54, 55, 56, 57, 97, 98, 99, 100, 101, 102, 48, 49, 50, 51, 52, 53, 54, 55]⟩ : ByteArray) ([] : List ByteArray) bt113.1 bt113.2.1 bt113.2.2.1 bt113.2.2.2 bt117.1 bt117.2.1 bt117.2.2.1 bt117.2.2.2 (⟨#[120, 10]⟩ : ByteArray)).bind fun bt121 => ((commit_Links.f k 3 bt121.1).bind fun bt123 => ((graftagelaw16_who.f).bind fun bt127 => ((commit_TagBody.f k (⟨#[48, 49, 50, 51, 52, 53, 54, 55, 56, 57, 97, 98, 99, 100, 101, 102, 48, 49, 50, 51, 52, 53, 54, 55, 56, 57, 97, 98, 99, 100, 101, 102, 48, 49, 50, 51, 52, 53, 54, 55]⟩ : ByteArray) 5 (⟨#[118]⟩ : ByteArray) bt127.1 bt127.2.1 bt127.2.2.1 bt127.2.2.2 (⟨#[]⟩ : ByteArray)).bind fun bt131 => ((graftagelaw16_who.f).bind fun bt133 => ((commit_Who.f bt133.1 bt133.2.1 bt133.2.2.1 bt133.2.2.2).bind fun t137 => (if t137.toList = ([97, 32, 60, 97, 64, 98, 62, 32, 53, 32, 43, 48, 49, 48, 48] : List UInt8) then (if t104 = (-90) then (if t105 = 0 then (if bt107.2.2.2.2 = 2 then (if bt121.1.toList = ([116, 114, 101, 101, 32, 48, 49, 50, 51, 52, 53, 54, 55, 56, 57, 97, 98, 99, 100, 101, 102, 48, 49, 50, 51, 52, 53, 54, 55, 56, 57, 97, 98, 99, 100, 101, 102, 48, 49, 50, 51, 52, 53, 54, 55, 10, 97, 117, 116, 104, 111, 114, 32, 97, 32, 60, 97, 64, 98, 62, 32, 53, 32, 43, 48, 49, 48, 48, 10, 99, 111, 109, 109, 105, 116, 116, 101, 114, 32, 97, 32, 60, 97, 64, 98, 62, 32, 53, 32, 43, 48, 49, 48, 48, 10, 10, 120, 10] : List UInt8) then (if bt121.2 = 0 then (if (bt123.1.length : Int) = 1 then (if 0 < (bt123.1.length : Int) then (if (rdOf ByteArray.empty bt123.1 0).toList = ([48, 49, 50, 51, 52, 53, 54, 55, 56, 57, 97, 98, 99, 100, 101, 102, 48, 49, 50, 51, 52, 53, 54, 55, 56, 57, 97, 98, 99, 100, 101, 102, 48, 49, 50, 51, 52, 53, 54, 55] : List UInt8) then (if bt123.2 = 0 then (if bt131.2 = 1 then ((commit_Whole.f k 3 (⟨#[120]⟩ : ByteArray)).bind fun t139 => (some (t139 == 2))) else (some false)) else (some false)) else (some false)) else (none)) else (some false)) else (some false)) else (some false)) else (some false)) else (some false)) else (some false)) else (some false))))))))))) = some r := H
 have A1 := Aside0.mk A10
 clear A10
 replace H := Option.bind_eq_some_iff.mp H
 obtain ⟨⟨t107, t108, t109, t110, t111⟩, A20, H⟩ := H
 replace H : ((graftagelaw16_who.f).bind fun bt113 => ((graftagelaw16_who.f).bind fun bt117 => ((commit_Body.f k (⟨#[48, 49, 50, 51, 52, 53, 54, 55, 56, 57, 97, 98, 99, 100, 101, 102, 48, 49, 50, 51, 52, 53, 54, 55, 56, 57, 97, 98, 99, 100, 101, 102, 48, 49, 50, 51, 52, 53, 54, 55]⟩ : ByteArray) ([] : List ByteArray) bt113.1 bt113.2.1 bt113.2.2.1 bt113.2.2.2 bt117.1 bt117.2.1 bt117.2.2.1 bt117.2.2.2 (⟨#[120, 10]⟩ : ByteArray)).bind fun bt121 => ((commit_Links.f k 3 bt121.1).bind fun bt123 => ((graftagelaw16_who.f).bind fun bt127 => ((commit_TagBody.f k (⟨#[48, 49, 50, 51, 52, 53, 54, 55, 56, 57, 97, 98, 99, 100, 101, 102, 48, 49, 50, 51, 52, 53, 54, 55, 56, 57, 97, 98, 99, 100, 101, 102, 48, 49, 50, 51, 52, 53, 54, 55]⟩ : ByteArray) 5 (⟨#[118]⟩ : ByteArray) bt127.1 bt127.2.1 bt127.2.2.1 bt127.2.2.2 (⟨#[]⟩ : ByteArray)).bind fun bt131 => ((graftagelaw16_who.f).bind fun bt133 => ((commit_Who.f bt133.1 bt133.2.1 bt133.2.2.1 bt133.2.2.2).bind fun t137 => (if t137.toList = ([97, 32, 60, 97, 64, 98, 62, 32, 53, 32, 43, 48, 49, 48, 48] : List UInt8) then (if t104 = (-90) then (if t105 = 0 then (if t111 = 2 then (if bt121.1.toList = ([116, 114, 101, 101, 32, 48, 49, 50, 51, 52, 53, 54, 55, 56, 57, 97, 98, 99, 100, 101, 102, 48, 49, 50, 51, 52, 53, 54, 55, 56, 57, 97, 98, 99, 100, 101, 102, 48, 49, 50, 51, 52, 53, 54, 55, 10, 97, 117, 116, 104, 111, 114, 32, 97, 32, 60, 97, 64, 98, 62, 32, 53, 32, 43, 48, 49, 48, 48, 10, 99, 111, 109, 109, 105, 116, 116, 101, 114, 32, 97, 32, 60, 97, 64, 98, 62, 32, 53, 32, 43, 48, 49, 48, 48, 10, 10, 120, 10] : List UInt8) then (if bt121.2 = 0 then (if (bt123.1.length : Int) = 1 then (if 0 < (bt123.1.length : Int) then (if (rdOf ByteArray.empty bt123.1 0).toList = ([48, 49, 50, 51, 52, 53, 54, 55, 56, 57, 97, 98, 99, 100, 101, 102, 48, 49, 50, 51, 52, 53, 54, 55, 56, 57, 97, 98, 99, 100, 101, 102, 48, 49, 50, 51, 52, 53, 54, 55] : List UInt8) then (if bt123.2 = 0 then (if bt131.2 = 1 then ((commit_Whole.f k 3 (⟨#[120]⟩ : ByteArray)).bind fun t139 => (some (t139 == 2))) else (some false)) else (some false)) else (some false)) else (none)) else (some false)) else (some false)) else (some false)) else (some false)) else (some false)) else (some false)) else (some false)))))))))) = some r := H
 have A2 := Aside0.mk A20
 clear A20
 replace H := Option.bind_eq_some_iff.mp H
 obtain ⟨⟨t113, t114, t115, t116⟩, A30, H⟩ := H
 replace H : ((graftagelaw16_who.f).bind fun bt117 => ((commit_Body.f k (⟨#[48, 49, 50, 51, 52, 53, 54, 55, 56, 57, 97, 98, 99, 100, 101, 102, 48, 49, 50, 51, 52, 53, 54, 55, 56, 57, 97, 98, 99, 100, 101, 102, 48, 49, 50, 51, 52, 53, 54, 55]⟩ : ByteArray) ([] : List ByteArray) t113 t114 t115 t116 bt117.1 bt117.2.1 bt117.2.2.1 bt117.2.2.2 (⟨#[120, 10]⟩ : ByteArray)).bind fun bt121 => ((commit_Links.f k 3 bt121.1).bind fun bt123 => ((graftagelaw16_who.f).bind fun bt127 => ((commit_TagBody.f k (⟨#[48, 49, 50, 51, 52, 53, 54, 55, 56, 57, 97, 98, 99, 100, 101, 102, 48, 49, 50, 51, 52, 53, 54, 55, 56, 57, 97, 98, 99, 100, 101, 102, 48, 49, 50, 51, 52, 53, 54, 55]⟩ : ByteArray) 5 (⟨#[118]⟩ : ByteArray) bt127.1 bt127.2.1 bt127.2.2.1 bt127.2.2.2 (⟨#[]⟩ : ByteArray)).bind fun bt131 => ((graftagelaw16_who.f).bind fun bt133 => ((commit_Who.f bt133.1 bt133.2.1 bt133.2.2.1 bt133.2.2.2).bind fun t137 => (if t137.toList = ([97, 32, 60, 97, 64, 98, 62, 32, 53, 32, 43, 48, 49, 48, 48] : List UInt8) then (if t104 = (-90) then (if t105 = 0 then (if t111 = 2 then (if bt121.1.toList = ([116, 114, 101, 101, 32, 48, 49, 50, 51, 52, 53, 54, 55, 56, 57, 97, 98, 99, 100, 101, 102, 48, 49, 50, 51, 52, 53, 54, 55, 56, 57, 97, 98, 99, 100, 101, 102, 48, 49, 50, 51, 52, 53, 54, 55, 10, 97, 117, 116, 104, 111, 114, 32, 97, 32, 60, 97, 64, 98, 62, 32, 53, 32, 43, 48, 49, 48, 48, 10, 99, 111, 109, 109, 105, 116, 116, 101, 114, 32, 97, 32, 60, 97, 64, 98, 62, 32, 53, 32, 43, 48, 49, 48, 48, 10, 10, 120, 10] : List UInt8) then (if bt121.2 = 0 then (if (bt123.1.length : Int) = 1 then (if 0 < (bt123.1.length : Int) then (if (rdOf ByteArray.empty bt123.1 0).toList = ([48, 49, 50, 51, 52, 53, 54, 55, 56, 57, 97, 98, 99, 100, 101, 102, 48, 49, 50, 51, 52, 53, 54, 55, 56, 57, 97, 98, 99, 100, 101, 102, 48, 49, 50, 51, 52, 53, 54, 55] : List UInt8) then (if bt123.2 = 0 then (if bt131.2 = 1 then ((commit_Whole.f k 3 (⟨#[120]⟩ : ByteArray)).bind fun t139 => (some (t139 == 2))) else (some false)) else (some false)) else (some false)) else (none)) else (some false)) else (some false)) else (some false)) else (some false)) else (some false)) else (some false)) else (some false))))))))) = some r := H
 have A3 := Aside0.mk A30
 clear A30
 replace H := Option.bind_eq_some_iff.mp H
 obtain ⟨⟨t117, t118, t119, t120⟩, A40, H⟩ := H
 replace H : ((commit_Body.f k (⟨#[48, 49, 50, 51, 52, 53, 54, 55, 56, 57, 97, 98, 99, 100, 101, 102, 48, 49, 50, 51, 52, 53, 54, 55, 56, 57, 97, 98, 99, 100, 101, 102, 48, 49, 50, 51, 52, 53, 54, 55]⟩ : ByteArray) ([] : List ByteArray) t113 t114 t115 t116 t117 t118 t119 t120 (⟨#[120, 10]⟩ : ByteArray)).bind fun bt121 => ((commit_Links.f k 3 bt121.1).bind fun bt123 => ((graftagelaw16_who.f).bind fun bt127 => ((commit_TagBody.f k (⟨#[48, 49, 50, 51, 52, 53, 54, 55, 56, 57, 97, 98, 99, 100, 101, 102, 48, 49, 50, 51, 52, 53, 54, 55, 56, 57, 97, 98, 99, 100, 101, 102, 48, 49, 50, 51, 52, 53, 54, 55]⟩ : ByteArray) 5 (⟨#[118]⟩ : ByteArray) bt127.1 bt127.2.1 bt127.2.2.1 bt127.2.2.2 (⟨#[]⟩ : ByteArray)).bind fun bt131 => ((graftagelaw16_who.f).bind fun bt133 => ((commit_Who.f bt133.1 bt133.2.1 bt133.2.2.1 bt133.2.2.2).bind fun t137 => (if t137.toList = ([97, 32, 60, 97, 64, 98, 62, 32, 53, 32, 43, 48, 49, 48, 48] : List UInt8) then (if t104 = (-90) then (if t105 = 0 then (if t111 = 2 then (if bt121.1.toList = ([116, 114, 101, 101, 32, 48, 49, 50, 51, 52, 53, 54, 55, 56, 57, 97, 98, 99, 100, 101, 102, 48, 49, 50, 51, 52, 53, 54, 55, 56, 57, 97, 98, 99, 100, 101, 102, 48, 49, 50, 51, 52, 53, 54, 55, 10, 97, 117, 116, 104, 111, 114, 32, 97, 32, 60, 97, 64, 98, 62, 32, 53, 32, 43, 48, 49, 48, 48, 10, 99, 111, 109, 109, 105, 116, 116, 101, 114, 32, 97, 32, 60, 97, 64, 98, 62, 32, 53, 32, 43, 48, 49, 48, 48, 10, 10, 120, 10] : List UInt8) then (if bt121.2 = 0 then (if (bt123.1.length : Int) = 1 then (if 0 < (bt123.1.length : Int) then (if (rdOf ByteArray.empty bt123.1 0).toList = ([48, 49, 50, 51, 52, 53, 54, 55, 56, 57, 97, 98, 99, 100, 101, 102, 48, 49, 50, 51, 52, 53, 54, 55, 56, 57, 97, 98, 99, 100, 101, 102, 48, 49, 50, 51, 52, 53, 54, 55] : List UInt8) then (if bt123.2 = 0 then (if bt131.2 = 1 then ((commit_Whole.f k 3 (⟨#[120]⟩ : ByteArray)).bind fun t139 => (some (t139 == 2))) else (some false)) else (some false)) else (some false)) else (none)) else (some false)) else (some false)) else (some false)) else (some false)) else (some false)) else (some false)) else (some false)))))))) = some r := H
 have A4 := Aside0.mk A40
 clear A40
 replace H := Option.bind_eq_some_iff.mp H
 obtain ⟨⟨t121, t122⟩, A50, H⟩ := H
 replace H : ((commit_Links.f k 3 t121).bind fun bt123 => ((graftagelaw16_who.f).bind fun bt127 => ((commit_TagBody.f k (⟨#[48, 49, 50, 51, 52, 53, 54, 55, 56, 57, 97, 98, 99, 100, 101, 102, 48, 49, 50, 51, 52, 53, 54, 55, 56, 57, 97, 98, 99, 100, 101, 102, 48, 49, 50, 51, 52, 53, 54, 55]⟩ : ByteArray) 5 (⟨#[118]⟩ : ByteArray) bt127.1 bt127.2.1 bt127.2.2.1 bt127.2.2.2 (⟨#[]⟩ : ByteArray)).bind fun bt131 => ((graftagelaw16_who.f).bind fun bt133 => ((commit_Who.f bt133.1 bt133.2.1 bt133.2.2.1 bt133.2.2.2).bind fun t137 => (if t137.toList = ([97, 32, 60, 97, 64, 98, 62, 32, 53, 32, 43, 48, 49, 48, 48] : List UInt8) then (if t104 = (-90) then (if t105 = 0 then (if t111 = 2 then (if t121.toList = ([116, 114, 101, 101, 32, 48, 49, 50, 51, 52, 53, 54, 55, 56, 57, 97, 98, 99, 100, 101, 102, 48, 49, 50, 51, 52, 53, 54, 55, 56, 57, 97, 98, 99, 100, 101, 102, 48, 49, 50, 51, 52, 53, 54, 55, 10, 97, 117, 116, 104, 111, 114, 32, 97, 32, 60, 97, 64, 98, 62, 32, 53, 32, 43, 48, 49, 48, 48, 10, 99, 111, 109, 109, 105, 116, 116, 101, 114, 32, 97, 32, 60, 97, 64, 98, 62, 32, 53, 32, 43, 48, 49, 48, 48, 10, 10, 120, 10] : List UInt8) then (if t122 = 0 then (if (bt123.1.length : Int) = 1 then (if 0 < (bt123.1.length : Int) then (if (rdOf ByteArray.empty bt123.1 0).toList = ([48, 49, 50, 51, 52, 53, 54, 55, 56, 57, 97, 98, 99, 100, 101, 102, 48, 49, 50, 51, 52, 53, 54, 55, 56, 57, 97, 98, 99, 100, 101, 102, 48, 49, 50, 51, 52, 53, 54, 55] : List UInt8) then (if bt123.2 = 0 then (if bt131.2 = 1 then ((commit_Whole.f k 3 (⟨#[120]⟩ : ByteArray)).bind fun t139 => (some (t139 == 2))) else (some false)) else (some false)) else (some false)) else (none)) else (some false)) else (some false)) else (some false)) else (some false)) else (some false)) else (some false)) else (some false))))))) = some r := H
 have A5 := Aside0.mk A50
 clear A50
 replace H := Option.bind_eq_some_iff.mp H
 obtain ⟨⟨t123, t126⟩, A60, H⟩ := H
 replace H : ((graftagelaw16_who.f).bind fun bt127 => ((commit_TagBody.f k (⟨#[48, 49, 50, 51, 52, 53, 54, 55, 56, 57, 97, 98, 99, 100, 101, 102, 48, 49, 50, 51, 52, 53, 54, 55, 56, 57, 97, 98, 99, 100, 101, 102, 48, 49, 50, 51, 52, 53, 54, 55]⟩ : ByteArray) 5 (⟨#[118]⟩ : ByteArray) bt127.1 bt127.2.1 bt127.2.2.1 bt127.2.2.2 (⟨#[]⟩ : ByteArray)).bind fun bt131 => ((graftagelaw16_who.f).bind fun bt133 => ((commit_Who.f bt133.1 bt133.2.1 bt133.2.2.1 bt133.2.2.2).bind fun t137 => (if t137.toList = ([97, 32, 60, 97, 64, 98, 62, 32, 53, 32, 43, 48, 49, 48, 48] : List UInt8) then (if t104 = (-90) then (if t105 = 0 then (if t111 = 2 then (if t121.toList = ([116, 114, 101, 101, 32, 48, 49, 50, 51, 52, 53, 54, 55, 56, 57, 97, 98, 99, 100, 101, 102, 48, 49, 50, 51, 52, 53, 54, 55, 56, 57, 97, 98, 99, 100, 101, 102, 48, 49, 50, 51, 52, 53, 54, 55, 10, 97, 117, 116, 104, 111, 114, 32, 97, 32, 60, 97, 64, 98, 62, 32, 53, 32, 43, 48, 49, 48, 48, 10, 99, 111, 109, 109, 105, 116, 116, 101, 114, 32, 97, 32, 60, 97, 64, 98, 62, 32, 53, 32, 43, 48, 49, 48, 48, 10, 10, 120, 10] : List UInt8) then (if t122 = 0 then (if (t123.length : Int) = 1 then (if 0 < (t123.length : Int) then (if (rdOf ByteArray.empty t123 0).toList = ([48, 49, 50, 51, 52, 53, 54, 55, 56, 57, 97, 98, 99, 100, 101, 102, 48, 49, 50, 51, 52, 53, 54, 55, 56, 57, 97, 98, 99, 100, 101, 102, 48, 49, 50, 51, 52, 53, 54, 55] : List UInt8) then (if t126 = 0 then (if bt131.2 = 1 then ((commit_Whole.f k 3 (⟨#[120]⟩ : ByteArray)).bind fun t139 => (some (t139 == 2))) else (some false)) else (some false)) else (some false)) else (none)) else (some false)) else (some false)) else (some false)) else (some false)) else (some false)) else (some false)) else (some false)))))) = some r := H
 have A6 := Aside0.mk A60
 clear A60
 replace H := Option.bind_eq_some_iff.mp H
 obtain ⟨⟨t127, t128, t129, t130⟩, A70, H⟩ := H
 replace H : ((commit_TagBody.f k (⟨#[48, 49, 50, 51, 52, 53, 54, 55, 56, 57, 97, 98, 99, 100, 101, 102, 48, 49, 50, 51, 52, 53, 54, 55, 56, 57, 97, 98, 99, 100, 101, 102, 48, 49, 50, 51, 52, 53, 54, 55]⟩ : ByteArray) 5 (⟨#[118]⟩ : ByteArray) t127 t128 t129 t130 (⟨#[]⟩ : ByteArray)).bind fun bt131 => ((graftagelaw16_who.f).bind fun bt133 => ((commit_Who.f bt133.1 bt133.2.1 bt133.2.2.1 bt133.2.2.2).bind fun t137 => (if t137.toList = ([97, 32, 60, 97, 64, 98, 62, 32, 53, 32, 43, 48, 49, 48, 48] : List UInt8) then (if t104 = (-90) then (if t105 = 0 then (if t111 = 2 then (if t121.toList = ([116, 114, 101, 101, 32, 48, 49, 50, 51, 52, 53, 54, 55, 56, 57, 97, 98, 99, 100, 101, 102, 48, 49, 50, 51, 52, 53, 54, 55, 56, 57, 97, 98, 99, 100, 101, 102, 48, 49, 50, 51, 52, 53, 54, 55, 10, 97, 117, 116, 104, 111, 114, 32, 97, 32, 60, 97, 64, 98, 62, 32, 53, 32, 43, 48, 49, 48, 48, 10, 99, 111, 109, 109, 105, 116, 116, 101, 114, 32, 97, 32, 60, 97, 64, 98, 62, 32, 53, 32, 43, 48, 49, 48, 48, 10, 10, 120, 10] : List UInt8) then (if t122 = 0 then (if (t123.length : Int) = 1 then (if 0 < (t123.length : Int) then (if (rdOf ByteArray.empty t123 0).toList = ([48, 49, 50, 51, 52, 53, 54, 55, 56, 57, 97, 98, 99, 100, 101, 102, 48, 49, 50, 51, 52, 53, 54, 55, 56, 57, 97, 98, 99, 100, 101, 102, 48, 49, 50, 51, 52, 53, 54, 55] : List UInt8) then (if t126 = 0 then (if bt131.2 = 1 then ((commit_Whole.f k 3 (⟨#[120]⟩ : ByteArray)).bind fun t139 => (some (t139 == 2))) else (some false)) else (some false)) else (some false)) else (none)) else (some false)) else (some false)) else (some false)) else (some false)) else (some false)) else (some false)) else (some false))))) = some r := H
 have A7 := Aside0.mk A70
 clear A70
 replace H := Option.bind_eq_some_iff.mp H
 obtain ⟨⟨t131, t132⟩, A80, H⟩ := H
 replace H : ((graftagelaw16_who.f).bind fun bt133 => ((commit_Who.f bt133.1 bt133.2.1 bt133.2.2.1 bt133.2.2.2).bind fun t137 => (if t137.toList = ([97, 32, 60, 97, 64, 98, 62, 32, 53, 32, 43, 48, 49, 48, 48] : List UInt8) then (if t104 = (-90) then (if t105 = 0 then (if t111 = 2 then (if t121.toList = ([116, 114, 101, 101, 32, 48, 49, 50, 51, 52, 53, 54, 55, 56, 57, 97, 98, 99, 100, 101, 102, 48, 49, 50, 51, 52, 53, 54, 55, 56, 57, 97, 98, 99, 100, 101, 102, 48, 49, 50, 51, 52, 53, 54, 55, 10, 97, 117, 116, 104, 111, 114, 32, 97, 32, 60, 97, 64, 98, 62, 32, 53, 32, 43, 48, 49, 48, 48, 10, 99, 111, 109, 109, 105, 116, 116, 101, 114, 32, 97, 32, 60, 97, 64, 98, 62, 32, 53, 32, 43, 48, 49, 48, 48, 10, 10, 120, 10] : List UInt8) then (if t122 = 0 then (if (t123.length : Int) = 1 then (if 0 < (t123.length : Int) then (if (rdOf ByteArray.empty t123 0).toList = ([48, 49, 50, 51, 52, 53, 54, 55, 56, 57, 97, 98, 99, 100, 101, 102, 48, 49, 50, 51, 52, 53, 54, 55, 56, 57, 97, 98, 99, 100, 101, 102, 48, 49, 50, 51, 52, 53, 54, 55] : List UInt8) then (if t126 = 0 then (if t132 = 1 then ((commit_Whole.f k 3 (⟨#[120]⟩ : ByteArray)).bind fun t139 => (some (t139 == 2))) else (some false)) else (some false)) else (some false)) else (none)) else (some false)) else (some false)) else (some false)) else (some false)) else (some false)) else (some false)) else (some false)))) = some r := H
 have A8 := Aside0.mk A80
 clear A80
 replace H := Option.bind_eq_some_iff.mp H
 obtain ⟨⟨t133, t134, t135, t136⟩, A90, H⟩ := H
 replace H : ((commit_Who.f t133 t134 t135 t136).bind fun t137 => (if t137.toList = ([97, 32, 60, 97, 64, 98, 62, 32, 53, 32, 43, 48, 49, 48, 48] : List UInt8) then (if t104 = (-90) then (if t105 = 0 then (if t111 = 2 then (if t121.toList = ([116, 114, 101, 101, 32, 48, 49, 50, 51, 52, 53, 54, 55, 56, 57, 97, 98, 99, 100, 101, 102, 48, 49, 50, 51, 52, 53, 54, 55, 56, 57, 97, 98, 99, 100, 101, 102, 48, 49, 50, 51, 52, 53, 54, 55, 10, 97, 117, 116, 104, 111, 114, 32, 97, 32, 60, 97, 64, 98, 62, 32, 53, 32, 43, 48, 49, 48, 48, 10, 99, 111, 109, 109, 105, 116, 116, 101, 114, 32, 97, 32, 60, 97, 64, 98, 62, 32, 53, 32, 43, 48, 49, 48, 48, 10, 10, 120, 10] : List UInt8) then (if t122 = 0 then (if (t123.length : Int) = 1 then (if 0 < (t123.length : Int) then (if (rdOf ByteArray.empty t123 0).toList = ([48, 49, 50, 51, 52, 53, 54, 55, 56, 57, 97, 98, 99, 100, 101, 102, 48, 49, 50, 51, 52, 53, 54, 55, 56, 57, 97, 98, 99, 100, 101, 102, 48, 49, 50, 51, 52, 53, 54, 55] : List UInt8) then (if t126 = 0 then (if t132 = 1 then ((commit_Whole.f k 3 (⟨#[120]⟩ : ByteArray)).bind fun t139 => (some (t139 == 2))) else (some false)) else (some false)) else (some false)) else (none)) else (some false)) else (some false)) else (some false)) else (some false)) else (some false)) else (some false)) else (some false))) = some r := H
 have A9 := Aside0.mk A90
 clear A90
 replace H := Option.bind_eq_some_iff.mp H
 obtain ⟨t137, A100, H⟩ := H
 have A10 := Aside0.mk A100
 clear A100
 by_cases c11 : t137.toList = ([97, 32, 60, 97, 64, 98, 62, 32, 53, 32, 43, 48, 49, 48, 48] : List UInt8)
 ·rw [if_pos c11] at H
  have c11b0 := beq_iff_eq.mpr c11
  have c11b1 := bne_eq_false_iff_eq.mpr c11
  clear c11
  by_cases c12 : t104 = (-90)
  ·rw [if_pos c12] at H
   have c12b0 := beq_iff_eq.mpr c12
   have c12b1 := bne_eq_false_iff_eq.mpr c12
   clear c12
   by_cases c13 : t105 = 0
   ·rw [if_pos c13] at H
    have c13b0 := beq_iff_eq.mpr c13
    have c13b1 := bne_eq_false_iff_eq.mpr c13
    clear c13
    by_cases c14 : t111 = 2
    ·rw [if_pos c14] at H
     have c14b0 := beq_iff_eq.mpr c14
     have c14b1 := bne_eq_false_iff_eq.mpr c14
     clear c14
     by_cases c15 : t121.toList = ([116, 114, 101, 101, 32, 48, 49, 50, 51, 52, 53, 54, 55, 56, 57, 97, 98, 99, 100, 101, 102, 48, 49, 50, 51, 52, 53, 54, 55, 56, 57, 97, 98, 99, 100, 101, 102, 48, 49, 50, 51, 52, 53, 54, 55, 10, 97, 117, 116, 104, 111, 114, 32, 97, 32, 60, 97, 64, 98, 62, 32, 53, 32, 43, 48, 49, 48, 48, 10, 99, 111, 109, 109, 105, 116, 116, 101, 114, 32, 97, 32, 60, 97, 64, 98, 62, 32, 53, 32, 43, 48, 49, 48, 48, 10, 10, 120, 10] : List UInt8)
     ·rw [if_pos c15] at H
      have c15b0 := beq_iff_eq.mpr c15
      have c15b1 := bne_eq_false_iff_eq.mpr c15
      clear c15
      by_cases c16 : t122 = 0
      ·rw [if_pos c16] at H
       have c16b0 := beq_iff_eq.mpr c16
       have c16b1 := bne_eq_false_iff_eq.mpr c16
       clear c16
       by_cases c17 : (t123.length : Int) = 1
       ·rw [if_pos c17] at H
        have c17b0 := beq_iff_eq.mpr c17
        have c17b1 := bne_eq_false_iff_eq.mpr c17
        clear c17
        by_cases c18 : 0 < (t123.length : Int)
        ·rw [if_pos c18] at H
         have c18b0 := decide_eq_true c18
         have c18b1 : decide (0 < t123.length) = true := decide_eq_true (by omega)
         clear c18
         by_cases c19 : (rdOf ByteArray.empty t123 0).toList = ([48, 49, 50, 51, 52, 53, 54, 55, 56, 57, 97, 98, 99, 100, 101, 102, 48, 49, 50, 51, 52, 53, 54, 55, 56, 57, 97, 98, 99, 100, 101, 102, 48, 49, 50, 51, 52, 53, 54, 55] : List UInt8)
         ·rw [if_pos c19] at H
          have c19b0 := beq_iff_eq.mpr c19
          have c19b1 := bne_eq_false_iff_eq.mpr c19
          clear c19
          by_cases c20 : t126 = 0
          ·rw [if_pos c20] at H
           have c20b0 := beq_iff_eq.mpr c20
           have c20b1 := bne_eq_false_iff_eq.mpr c20
           clear c20
           by_cases c21 : t132 = 1
           ·rw [if_pos c21] at H
            have c21b0 := beq_iff_eq.mpr c21
            have c21b1 := bne_eq_false_iff_eq.mpr c21
            clear c21
            replace H := Option.bind_eq_some_iff.mp H
            obtain ⟨t139, A220, H⟩ := H
            have A22 := Aside0.mk A220
            clear A220
            obtain rfl := Option.some.inj H
            go_enter Tryz.func15, Tryz.ntmps15
            have tk1_ : True := trivial
            have tk2_ : True := trivial
            have tk3_ : True := trivial
            have tk4_ : True := trivial
            have tk5_ : True := trivial
            have tk6_ : True := trivial
            go_wp2_with (first | (have _t := tk1_; (with_reducible refine gate_callee (f := 29) rfl ?_); refine goesL_ (some 12) rfl rfl Tryz.func29 (by kernel_rfl) rfl #[.string (⟨#[97, 32, 60, 97, 64, 98, 62, 32, 53, 32, 45, 48, 49, 51, 48]⟩ : ByteArray)] rfl z2_ ?_; (with_reducible refine (commit_ParseWho.calls k (⟨#[97, 32, 60, 97, 64, 98, 62, 32, 53, 32, 45, 48, 49, 51, 48]⟩ : ByteArray) t101 t102 t103 t104 t105 _ ?side1 A1.out).mono ?_); (case side1 => exact GV.below hgv (hb_ HB.out)); rintro e w23 ⟨rfl, hb⟩; refine ⟨_, rfl, ?_⟩; replace HB := Aside0.mk (below_step (hb_ HB.out) hb); (try clear hb); (try clear hb2); (try clear hk); (try clear hi); clear tk1_) | ((with_reducible refine gate_dst (N := 1) rfl ?_); (try (refine gate_guard (by rfl) ?_; dsimp only)); refine be_ (cs := #[.string (⟨#[]⟩ : ByteArray), .string (⟨#[]⟩ : ByteArray), .int .i64 0, .int .i64 0]) (t := 24) ?_; intro gb106 hg w24 hbox hb; have BK106 := Aside0.mk (hbox); have GW106 := Aside0.mk (gw_ hg HB.out); have GE106 := Aside0.mk (gw_ hg HB.out); replace HB := Aside0.mk (below_step (hb_ HB.out) hb); clear hb hbox hg; obtain ⟨hcz25_0, hcz25_1, hcz25_2, hcz25_3, hfz25_0, hfz25_1, hfz25_2, hfz25_3⟩ := bc4 BK106.out) | (have _t := tk2_; (with_reducible refine gate_callee (f := 29) rfl ?_); refine goesL_ (some 16) rfl rfl Tryz.func29 (by kernel_rfl) rfl #[.string (⟨#[97, 32, 60, 98, 62, 32, 48, 53, 32, 43, 48, 48, 48, 48]⟩ : ByteArray)] rfl z2_ ?_; (with_reducible refine (commit_ParseWho.calls k (⟨#[97, 32, 60, 98, 62, 32, 48, 53, 32, 43, 48, 48, 48, 48]⟩ : ByteArray) t107 t108 t109 t110 t111 _ ?side1 A2.out).mono ?_); (case side1 => exact GV.below hgv (hs_)); rintro e w26 ⟨rfl, hb⟩; refine ⟨_, rfl, ?_⟩; replace BK106 := Aside0.mk (blk_below (g := gb106) (o := .cells #[.string t101, .string t102, .int .i64 t103, .int .i64 t104] 24 (0, 0)) (by have b_ := BK106; exact zb_) hb); replace HB := Aside0.mk (below_step (hs_) hb); (try clear hb); (try clear hb2); (try clear hk); (try clear hi); clear tk2_) | ((with_reducible refine gate_dst (N := 3) rfl ?_); (try (refine gate_guard (by rfl) ?_; dsimp only)); refine be_ (cs := #[.string (⟨#[]⟩ : ByteArray), .string (⟨#[]⟩ : ByteArray), .int .i64 0, .int .i64 0]) (t := 24) ?_; intro gb112 hg w27 hbox hb; have BK112 := Aside0.mk (hbox); have GW112 := Aside0.mk ((by rw [hg]; exact (below_size (hs_)) : w.heap.size ≤ gb112)); have GE112 := Aside0.mk ((by rw [hg]; exact (below_size (hs_)) : w.heap.size ≤ gb112)); replace HB := Aside0.mk (below_step (hs_) hb); have NB106_112 := Aside0.mk (nl2_ hg BK106.out); have NB112_106 := Aside0.mk (ng2_ hg BK106.out); replace BK106 := Aside0.mk (bb_ BK106.out hb); clear hb hbox hg; have hnb28 := NB112_106.out; have hnc28 := NB106_112.out; obtain ⟨hcz29_0, hcz29_1, hcz29_2, hcz29_3, hfz29_0, hfz29_1, hfz29_2, hfz29_3⟩ := bc4 BK112.out) | (have _t := tk3_; (with_reducible refine gate_callee (f := 63) rfl ?_); refine goesL_ (some 20) rfl rfl Tryz.func63 (by kernel_rfl) rfl #[] rfl z2_ ?_; (with_reducible refine (graftagelaw16_who.calls  t113 t114 t115 t116 _ A3.out).mono ?_); rintro e w30 ⟨rfl, hb⟩; refine ⟨_, rfl, ?_⟩; replace BK106 := Aside0.mk (blk_below (g := gb106) (o := .cells #[.string t101, .string t102, .int .i64 t103, .int .i64 t104] 24 (0, 0)) (by have b_ := BK106; have f_ := NB106_112; exact zb_) hb); replace BK112 := Aside0.mk (blk_below (g := gb112) (o := .cells #[.string t107, .string t108, .int .i64 t109, .int .i64 t110] 24 (0, 0)) (by have b_ := BK112; exact zb_) hb); replace HB := Aside0.mk (below_step (hs_) hb); (try clear hb); (try clear hb2); (try clear hk); (try clear hi); clear tk3_) | (have _t := tk4_; (with_reducible refine gate_callee (f := 63) rfl ?_); refine goesL_ (some 21) rfl rfl Tryz.func63 (by kernel_rfl) rfl #[] rfl z2_ ?_; (with_reducible refine (graftagelaw16_who.calls  t117 t118 t119 t120 _ A4.out).mono ?_); rintro e w31 ⟨rfl, hb⟩; refine ⟨_, rfl, ?_⟩; replace BK106 := Aside0.mk (bb_ BK106.out hb); replace BK112 := Aside0.mk (bb_ BK112.out hb); replace HB := Aside0.mk (below_step (hs_) hb); (try clear hb); (try clear hb2); (try clear hk); (try clear hi); clear tk4_) | ((with_reducible refine gate_callee (f := 16) rfl ?_); refine goesL_ (some 23) rfl rfl Tryz.func16 (by kernel_rfl) rfl #[.agg #[.string (⟨#[48, 49, 50, 51, 52, 53, 54, 55, 56, 57, 97, 98, 99, 100, 101, 102, 48, 49, 50, 51, 52, 53, 54, 55, 56, 57, 97, 98, 99, 100, 101, 102, 48, 49, 50, 51, 52, 53, 54, 55]⟩ : ByteArray), .slice none 0 0, .string t113, .string t114, .int .i64 t115, .int .i64 t116, .string t117, .string t118, .int .i64 t119, .int .i64 t120, .string (⟨#[120, 10]⟩ : ByteArray)]] rfl z2_ ?_; (refine (commit_Body.calls k (⟨#[48, 49, 50, 51, 52, 53, 54, 55, 56, 57, 97, 98, 99, 100, 101, 102, 48, 49, 50, 51, 52, 53, 54, 55, 56, 57, 97, 98, 99, 100, 101, 102, 48, 49, 50, 51, 52, 53, 54, 55]⟩ : ByteArray) _ _ ([] : List ByteArray) t113 t114 t115 t116 t117 t118 t119 t120 (⟨#[120, 10]⟩ : ByteArray) t121 t122 _ ?side1 ?side2 ?side3 A5.out).mono ?_); (case side1 => exact Kd.C_nil _ _); (case side2 => exact Nat.le_refl _); (case side3 => exact GV.below hgv (hs_)); rintro e w32 ⟨rfl, hb⟩; refine ⟨_, rfl, ?_⟩; replace BK106 := Aside0.mk (bb_ BK106.out hb); replace BK112 := Aside0.mk (bb_ BK112.out hb); replace HB := Aside0.mk (below_step (hs_) hb); (try clear hb); (try clear hb2); (try clear hk); (try clear hi)) | ((with_reducible refine gate_callee (f := 34) rfl ?_); refine goesL_ (some 29) rfl rfl Tryz.func34 (by kernel_rfl) rfl #[.agg #[.int .i64 3, .string t121]] rfl z2_ ?_; (with_reducible refine (commit_Links.calls k 3 t121 t123 t126 _ ?side1 A6.out).mono ?_); (case side1 => exact GV.below hgv (hs_)); rintro e w33 ⟨v124, rfl, ho0, hb⟩; refine ⟨_, rfl, ?_⟩; have HO125 := Aside0.mk (Kd.R_lower ho0 (below_size (hs_))); replace BK106 := Aside0.mk (bb_ BK106.out hb); replace BK112 := Aside0.mk (bb_ BK112.out hb); replace HB := Aside0.mk (below_step (hs_) hb); (try clear hb); (try clear hb2); (try clear hk); (try clear hi); (try clear ho0)) | (have _t := tk5_; (with_reducible refine gate_callee (f := 63) rfl ?_); refine goesL_ (some 33) rfl rfl Tryz.func63 (by kernel_rfl) rfl #[] rfl z2_ ?_; (with_reducible refine (graftagelaw16_who.calls  t127 t128 t129 t130 _ A7.out).mono ?_); rintro e w34 ⟨rfl, hb⟩; refine ⟨_, rfl, ?_⟩; replace HO125 := Aside0.mk (Kd.R_below (rk_ HO125.out) hb); replace BK106 := Aside0.mk (bb_ BK106.out hb); replace BK112 := Aside0.mk (bb_ BK112.out hb); replace HB := Aside0.mk (below_step (hs_) hb); (try clear hb); (try clear hb2); (try clear hk); (try clear hi); clear tk5_) | ((with_reducible refine gate_callee (f := 25) rfl ?_); refine goesL_ (some 35) rfl rfl Tryz.func25 (by kernel_rfl) rfl #[.agg #[.string (⟨#[48, 49, 50, 51, 52, 53, 54, 55, 56, 57, 97, 98, 99, 100, 101, 102, 48, 49, 50, 51, 52, 53, 54, 55, 56, 57, 97, 98, 99, 100, 101, 102, 48, 49, 50, 51, 52, 53, 54, 55]⟩ : ByteArray), .int .i64 5, .string (⟨#[118]⟩ : ByteArray), .string t127, .string t128, .int .i64 t129, .int .i64 t130, .string (⟨#[]⟩ : ByteArray)]] rfl z2_ ?_; (with_reducible refine (commit_TagBody.calls k (⟨#[48, 49, 50, 51, 52, 53, 54, 55, 56, 57, 97, 98, 99, 100, 101, 102, 48, 49, 50, 51, 52, 53, 54, 55, 56, 57, 97, 98, 99, 100, 101, 102, 48, 49, 50, 51, 52, 53, 54, 55]⟩ : ByteArray) 5 (⟨#[118]⟩ : ByteArray) t127 t128 t129 t130 (⟨#[]⟩ : ByteArray) t131 t132 _ ?side1 A8.out).mono ?_); (case side1 => exact GV.below hgv (hs_)); rintro e w35 ⟨rfl, hb⟩; refine ⟨_, rfl, ?_⟩; replace HO125 := Aside0.mk (Kd.R_below (rk_ HO125.out) hb); replace BK106 := Aside0.mk (bb_ BK106.out hb); replace BK112 := Aside0.mk (bb_ BK112.out hb); replace HB := Aside0.mk (below_step (hs_) hb); (try clear hb); (try clear hb2); (try clear hk); (try clear hi)) | (have _t := tk6_; (with_reducible refine gate_callee (f := 63) rfl ?_); refine goesL_ (some 38) rfl rfl Tryz.func63 (by kernel_rfl) rfl #[] rfl z2_ ?_; (with_reducible refine (graftagelaw16_who.calls  t133 t134 t135 t136 _ A9.out).mono ?_); rintro e w36 ⟨rfl, hb⟩; refine ⟨_, rfl, ?_⟩; replace HO125 := Aside0.mk (Kd.R_below (rk_ HO125.out) hb); replace BK106 := Aside0.mk (bb_ BK106.out hb); replace BK112 := Aside0.mk (bb_ BK112.out hb); replace HB := Aside0.mk (below_step (hs_) hb); (try clear hb); (try clear hb2); (try clear hk); (try clear hi); clear tk6_) | ((with_reducible refine gate_callee (f := 31) rfl ?_); refine goesL_ (some 39) rfl rfl Tryz.func31 (by kernel_rfl) rfl #[.agg #[.string t133, .string t134, .int .i64 t135, .int .i64 t136]] rfl z2_ ?_; (with_reducible refine (commit_Who.calls t133 t134 t135 t136 t137 _ ?side1 A10.out).mono ?_); (case side1 => exact GV.below hgv (hs_)); rintro e w37 ⟨rfl, hb⟩; refine ⟨_, rfl, ?_⟩; replace HO125 := Aside0.mk (Kd.R_below (rk_ HO125.out) hb); replace BK106 := Aside0.mk (bb_ BK106.out hb); replace BK112 := Aside0.mk (bb_ BK112.out hb); replace HB := Aside0.mk (below_step (hs_) hb); (try clear hb); (try clear hb2); (try clear hk); (try clear hi); obtain ⟨hcz38_0, hcz38_1, hcz38_2, hcz38_3, hfz38_0, hfz38_1, hfz38_2, hfz38_3⟩ := bc4 BK106.out; obtain ⟨Ao39, co39, eo39⟩ := Kd.R_slice HO125.out; subst eo39; have p138 : 0 ≤ (0 : Int) := (by omega); have q138 : 0 < (t123.length : Int) := of_decide_eq_true z0_; obtain ⟨ad138, e138, hx138_0⟩ := Kd.at_string (Kd.R_reads' HO125.out).2.2 0 p138 q138; cases e138; have qi138 : (0 < t123.length) = True := eq_true (by omega); (try rw [show ((0 : Int)).toNat = 0 from rfl] at hx138_0); (try rw [Addr.add_zero'] at hx138_0); replace p138 := eq_true p138; replace q138 := eq_true q138) | (go_at_call 36; (with_reducible refine (commit_Whole.calls k 3 (⟨#[120]⟩ : ByteArray) t139 _ ?side1 A22.out).mono ?_); (case side1 => exact GV.below hgv (hs_)); rintro e w40 ⟨rfl, hb⟩; replace HO125 := Aside0.mk (Kd.R_below (rk_ HO125.out) hb); replace BK106 := Aside0.mk (bb_ BK106.out hb); replace BK112 := Aside0.mk (bb_ BK112.out hb); replace HB := Aside0.mk (below_step (hs_) hb); (try clear hb); (try clear hb2); (try clear hk); (try clear hi)))
            go_ret
            exact ⟨z4_, hs_⟩
           ·rw [if_neg c21] at H
            have c21b0 := beq_eq_false_iff_ne.mpr c21
            have c21b1 := bne_iff_ne.mpr c21
            exact absurd ((Option.some.inj H).trans hr_) (by simp)
          ·rw [if_neg c20] at H
           have c20b0 := beq_eq_false_iff_ne.mpr c20
           have c20b1 := bne_iff_ne.mpr c20
           exact absurd ((Option.some.inj H).trans hr_) (by simp)
         ·rw [if_neg c19] at H
          have c19b0 := beq_eq_false_iff_ne.mpr c19
          have c19b1 := bne_iff_ne.mpr c19
          exact absurd ((Option.some.inj H).trans hr_) (by simp)
        ·rw [if_neg c18] at H
         exact absurd H (by simp)
       ·rw [if_neg c17] at H
        have c17b0 := beq_eq_false_iff_ne.mpr c17
        have c17b1 := bne_iff_ne.mpr c17
        exact absurd ((Option.some.inj H).trans hr_) (by simp)
      ·rw [if_neg c16] at H
       have c16b0 := beq_eq_false_iff_ne.mpr c16
       have c16b1 := bne_iff_ne.mpr c16
       exact absurd ((Option.some.inj H).trans hr_) (by simp)
     ·rw [if_neg c15] at H
      have c15b0 := beq_eq_false_iff_ne.mpr c15
      have c15b1 := bne_iff_ne.mpr c15
      exact absurd ((Option.some.inj H).trans hr_) (by simp)
    ·rw [if_neg c14] at H
     have c14b0 := beq_eq_false_iff_ne.mpr c14
     have c14b1 := bne_iff_ne.mpr c14
     exact absurd ((Option.some.inj H).trans hr_) (by simp)
   ·rw [if_neg c13] at H
    have c13b0 := beq_eq_false_iff_ne.mpr c13
    have c13b1 := bne_iff_ne.mpr c13
    exact absurd ((Option.some.inj H).trans hr_) (by simp)
  ·rw [if_neg c12] at H
   have c12b0 := beq_eq_false_iff_ne.mpr c12
   have c12b1 := bne_iff_ne.mpr c12
   exact absurd ((Option.some.inj H).trans hr_) (by simp)
 ·rw [if_neg c11] at H
  have c11b0 := beq_eq_false_iff_ne.mpr c11
  have c11b1 := bne_iff_ne.mpr c11
  exact absurd ((Option.some.inj H).trans hr_) (by simp)

end Go.Proofs.YtbhfbbfjdklfgaaGreatDoor.Q


/- The chapter's examples hold: commit. -/
namespace Go.Proofs.YtbhfbbfjdklfgaaGreatDoor.Q
open Go.RowKit Go.Proofs.YtbhfbbfjdklfgaaGreatDoorW.PrintWords Go.Proofs.YtbhfbbfjdklfgaaGreatDoorW.PrintLast Go.Proofs.YtbhfbbfjdklfgaaGreatDoorW.PrintMore
theorem lives16 : Ev (fun k => graftagelaw16_lives.f k) true := Ev.of (fun k => graftagelaw16_lives.mono k) (k := 400) (by decide +kernel)
theorem ev_is {α : Type} {g : Nat → Option α} {r t : α} (hg : ∀ k, LeO (g k) (g (k + 1))) (h : Ev g r) {k : Nat} (ht : g k = some t) : t = r := by
  obtain ⟨K, hK⟩ := h
  have h1 := hK (max K k) (Nat.le_max_left _ _)
  have h2 := at_rounds hg (Nat.le_max_right K k) ht
  rw [h1] at h2
  exact (Option.some.inj h2).symm
theorem graftagelaw16_lives.calls (k : Nat) (r : Bool) (w : World) (hgv : GV w) (h : graftagelaw16_lives.f k = some r) : Calls Tryz.prog 15 #[] w fun e w' => e = .returned (.bool r) ∧ Below w.heap.size w w' :=
  graftagelaw16_lives.callsT k r w hgv (ev_is (fun k => graftagelaw16_lives.mono k) lives16 h) h
theorem liveOr16 : Ev (fun k => (graftagelaw16_lives.f k).bind fun t => some t) true := Ev.bind lives16 (Ev.now _)
end Go.Proofs.YtbhfbbfjdklfgaaGreatDoor.Q


namespace Go.Proofs.YtbhfbbfjdklfgaaGreatDoor.Q
open Go.RowKit Go.Proofs.YtbhfbbfjdklfgaaGreatDoorW.PrintWords Go.Proofs.YtbhfbbfjdklfgaaGreatDoorW.PrintLast Go.Proofs.YtbhfbbfjdklfgaaGreatDoorW.PrintMore
attribute [local go_sem] max2_int min2_int max_two min_two max_three min_three max_four min_four   -- for this text's walks alone

attribute [local go_sem high] eqA37
def graftagelaw16_CommitTags.j0 : Nat → ByteArray → Int → Bool → ByteArray → Int → ByteArray → ByteArray → ByteArray → Int → Int → ByteArray → Option (Bool)
 | 0, _, _, _, _, _, _, _, _, _, _, _ => none
 | k + 1, x3, x4, x38, x186000, x186001, x186002, x186003, x186004, x186005, x186006, x186007 => if x38 = true then (some false) else (if x4 = 0 then ((commit_ParseTag.f k x3).bind fun bt193 => ((graftagelaw16_lives.f k).bind fun t203 => (if t203 = true then (if bt193.2.2.2.2.2.2.2.2 = 0 then (some (bt193.1.toList == x186000.toList && (bt193.2.1 == x186001 && (bt193.2.2.1.toList == x186002.toList && ((bt193.2.2.2.1.toList == x186003.toList && (bt193.2.2.2.2.1.toList == x186004.toList && (bt193.2.2.2.2.2.1 == x186005 && (bt193.2.2.2.2.2.2.1 == x186006)))) && (bt193.2.2.2.2.2.2.2.1.toList == x186007.toList)))))) else (some false)) else (some false)))) else ((graftagelaw16_lives.f k).bind fun t204 => (some t204)))
def graftagelaw16_CommitTags.f (k : Nat) (a0_0 : ByteArray) (a0_1 : Int) (a0_2 : ByteArray) (a0_3 : ByteArray) (a0_4 : ByteArray) (a0_5 : Int) (a0_6 : Int) (a0_7 : ByteArray) : Option (Bool) := if (a0_7.size : Int) > 5000 then ((graftagelaw16_lives.f k).bind fun t186 => (some t186)) else ((commit_TagBody.f k a0_0 a0_1 a0_2 a0_3 a0_4 a0_5 a0_6 a0_7).bind fun bt187 => ((graftageref16_TagBody.f k a0_0 a0_1 a0_2 a0_3 a0_4 a0_5 a0_6 a0_7).bind fun bt189 => ((commit_CheckTag.f k a0_0 a0_1 a0_2 a0_3 a0_4 a0_5 a0_6 a0_7).bind fun t191 => ((graftageref16_CheckTag.f k a0_0 a0_1 a0_2 a0_3 a0_4 a0_5 a0_6 a0_7).bind fun t192 => (if t191 = t192 then (if bt187.1.toList = bt189.1.toList then (graftagelaw16_CommitTags.j0 k bt187.1 bt187.2 (bt187.2 != bt189.2) a0_0 a0_1 a0_2 a0_3 a0_4 a0_5 a0_6 a0_7) else (graftagelaw16_CommitTags.j0 k bt187.1 bt187.2 true a0_0 a0_1 a0_2 a0_3 a0_4 a0_5 a0_6 a0_7)) else (graftagelaw16_CommitTags.j0 k bt187.1 bt187.2 true a0_0 a0_1 a0_2 a0_3 a0_4 a0_5 a0_6 a0_7))))))
def graftagelaw16_CommitTags.T5 : Bool × List (List Nat × List Nat) := (true, [([], []), ([0], [0]), ([], []), ([2, 1], [2]), ([1, 3], [1, 3]), ([4, 3], [4]), ([5], [5]), ([5], [5]), ([6, 7, 5], [5, 6, 7]), ([5, 8], [5, 8]), ([9, 5], [9]), ([10], [10]), ([10], [10]), ([11, 12, 10], [10, 11, 12]), ([10, 13], [10, 13])])
def graftagelaw16_CommitTags.B5 : List Nat := [0, 1, 0, 7, 15, 31, 63, 63, 255, 511, 1023, 2047, 2047, 8191, 16383]
theorem graftagelaw16_CommitTags.tab5 : rtab .any (opsOf Tryz.f5 5) = graftagelaw16_CommitTags.T5 := by kernel_rfl
theorem graftagelaw16_CommitTags.bits5 : waitsOk graftagelaw16_CommitTags.T5.2 graftagelaw16_CommitTags.B5 = true := by kernel_rfl
set_option maxHeartbeats 8000000 in
set_option maxRecDepth 100000 in
theorem graftagelaw16_CommitTags.calls (k : Nat) (a0_0 : ByteArray) (a0_1 : Int) (a0_2 : ByteArray) (a0_3 : ByteArray) (a0_4 : ByteArray) (a0_5 : Int) (a0_6 : Int) (a0_7 : ByteArray) (r : Bool) (w : World) (hgv : GV w) (h : graftagelaw16_CommitTags.f k a0_0 a0_1 a0_2 a0_3 a0_4 a0_5 a0_6 a0_7 = some r) :
  Calls Tryz.prog 5 #[.agg #[.string a0_0, .int .i64 a0_1, .string a0_2, .string a0_3, .string a0_4, .int .i64 a0_5, .int .i64 a0_6, .string a0_7]] w fun e w' => e = .returned (.bool r) ∧ Below w.heap.size w w' := by
 have hu37 := Tryz.underlying37
 have HB := Aside0.mk (Below.refl w.heap.size w)
 have H : (if (a0_7.size : Int) > 5000 then ((graftagelaw16_lives.f k).bind fun t186 => (some t186)) else ((commit_TagBody.f k a0_0 a0_1 a0_2 a0_3 a0_4 a0_5 a0_6 a0_7).bind fun bt187 => ((graftageref16_TagBody.f k a0_0 a0_1 a0_2 a0_3 a0_4 a0_5 a0_6 a0_7).bind fun bt189 => ((commit_CheckTag.f k a0_0 a0_1 a0_2 a0_3 a0_4 a0_5 a0_6 a0_7).bind fun t191 => ((graftageref16_CheckTag.f k a0_0 a0_1 a0_2 a0_3 a0_4 a0_5 a0_6 a0_7).bind fun t192 => (if t191 = t192 then (if bt187.1.toList = bt189.1.toList then (graftagelaw16_CommitTags.j0 k bt187.1 bt187.2 (bt187.2 != bt189.2) a0_0 a0_1 a0_2 a0_3 a0_4 a0_5 a0_6 a0_7) else (graftagelaw16_CommitTags.j0 k bt187.1 bt187.2 true a0_0 a0_1 a0_2 a0_3 a0_4 a0_5 a0_6 a0_7)) else (graftagelaw16_CommitTags.j0 k bt187.1 bt187.2 true a0_0 a0_1 a0_2 a0_3 a0_4 a0_5 a0_6 a0_7))))))) = some r := h
 clear h
 by_cases c2 : (a0_7.size : Int) > 5000
 ·rw [if_pos c2] at H
  have c2b0 := decide_eq_true c2
  have c2b1 : decide (5000 < a0_7.size) = true := decide_eq_true (by omega)
  clear c2
  replace H := Option.bind_eq_some_iff.mp H
  obtain ⟨t186, A30, H⟩ := H
  have A3 := Aside0.mk A30
  clear A30
  obtain rfl := Option.some.inj H
  go_enter Tryz.func5, Tryz.ntmps5
  go_wp2_with (first | ((with_reducible refine gate_dst (N := 1) rfl ?_); refine be_ (cs := #[.string a0_0, .int .i64 a0_1, .string a0_2, .string a0_3, .string a0_4, .int .i64 a0_5, .int .i64 a0_6, .string a0_7]) (t := 37) ?_; intro gb185 hg w4 hbox hb; have BK185 := Aside0.mk (hbox); have GW185 := Aside0.mk (gw_ hg HB.out); have GE185 := Aside0.mk (gw_ hg HB.out); replace HB := Aside0.mk (below_step (hb_ HB.out) hb); clear hb hbox hg; obtain ⟨hcz5_0, hcz5_1, hcz5_2, hcz5_3, hcz5_4, hcz5_5, hcz5_6, hcz5_7, hfz5_0, hfz5_1, hfz5_2, hfz5_3, hfz5_4, hfz5_5, hfz5_6, hfz5_7⟩ := bc8 BK185.out) | ((with_reducible refine gate_callee (f := 15) rfl ?_); refine goesL_ (some 13) rfl rfl Tryz.func15 (by kernel_rfl) rfl #[] rfl z2_ ?_; (with_reducible refine (graftagelaw16_lives.calls k  t186 _ ?side1 A3.out).mono ?_); (case side1 => exact GV.below hgv (hs_)); rintro e w6 ⟨rfl, hb⟩; refine ⟨_, rfl, ?_⟩; replace BK185 := Aside0.mk (bb_ BK185.out hb); replace HB := Aside0.mk (below_step (hs_) hb); (try clear hb); (try clear hb2); (try clear hk); (try clear hi)))
  go_ret
  exact ⟨z4_, hs_⟩
 ·rw [if_neg c2] at H
  have c2b0 := decide_eq_false c2
  have c2b1 : decide (5000 < a0_7.size) = false := decide_eq_false (by omega)
  clear c2
  replace H := Option.bind_eq_some_iff.mp H
  obtain ⟨⟨t187, t188⟩, A70, H⟩ := H
  replace H : ((graftageref16_TagBody.f k a0_0 a0_1 a0_2 a0_3 a0_4 a0_5 a0_6 a0_7).bind fun bt189 => ((commit_CheckTag.f k a0_0 a0_1 a0_2 a0_3 a0_4 a0_5 a0_6 a0_7).bind fun t191 => ((graftageref16_CheckTag.f k a0_0 a0_1 a0_2 a0_3 a0_4 a0_5 a0_6 a0_7).bind fun t192 => (if t191 = t192 then (if t187.toList = bt189.1.toList then (graftagelaw16_CommitTags.j0 k t187 t188 (t188 != bt189.2) a0_0 a0_1 a0_2 a0_3 a0_4 a0_5 a0_6 a0_7) else (graftagelaw16_CommitTags.j0 k t187 t188 true a0_0 a0_1 a0_2 a0_3 a0_4 a0_5 a0_6 a0_7)) else (graftagelaw16_CommitTags.j0 k t187 t188 true a0_0 a0_1 a0_2 a0_3 a0_4 a0_5 a0_6 a0_7))))) = some r := H
  have A7 := Aside0.mk A70
  clear A70
  replace H := Option.bind_eq_some_iff.mp H
  obtain ⟨⟨t189, t190⟩, A80, H⟩ := H
  replace H : ((commit_CheckTag.f k a0_0 a0_1 a0_2 a0_3 a0_4 a0_5 a0_6 a0_7).bind fun t191 => ((graftageref16_CheckTag.f k a0_0 a0_1 a0_2 a0_3 a0_4 a0_5 a0_6 a0_7).bind fun t192 => (if t191 = t192 then (if t187.toList = t189.toList then (graftagelaw16_CommitTags.j0 k t187 t188 (t188 != t190) a0_0 a0_1 a0_2 a0_3 a0_4 a0_5 a0_6 a0_7) else (graftagelaw16_CommitTags.j0 k t187 t188 true a0_0 a0_1 a0_2 a0_3 a0_4 a0_5 a0_6 a0_7)) else (graftagelaw16_CommitTags.j0 k t187 t188 true a0_0 a0_1 a0_2 a0_3 a0_4 a0_5 a0_6 a0_7)))) = some r := H
  have A8 := Aside0.mk A80
  clear A80
  have HC9 := Aside0.mk H
  clear H
  go_enter Tryz.func5, Tryz.ntmps5
  go_upto_region 5 with (first | ((with_reducible refine gate_dst (N := 1) rfl ?_); refine be_ (cs := #[.string a0_0, .int .i64 a0_1, .string a0_2, .string a0_3, .string a0_4, .int .i64 a0_5, .int .i64 a0_6, .string a0_7]) (t := 37) ?_; intro gb185 hg w10 hbox hb; have BK185 := Aside0.mk (hbox); have GW185 := Aside0.mk (gw_ hg HB.out); have GE185 := Aside0.mk (gw_ hg HB.out); replace HB := Aside0.mk (below_step (hb_ HB.out) hb); clear hb hbox hg; obtain ⟨hcz11_0, hcz11_1, hcz11_2, hcz11_3, hcz11_4, hcz11_5, hcz11_6, hcz11_7, hfz11_0, hfz11_1, hfz11_2, hfz11_3, hfz11_4, hfz11_5, hfz11_6, hfz11_7⟩ := bc8 BK185.out) | ((with_reducible refine gate_callee (f := 25) rfl ?_); refine goesL_ (some 16) rfl rfl Tryz.func25 (by kernel_rfl) rfl #[.agg #[.string a0_0, .int .i64 a0_1, .string a0_2, .string a0_3, .string a0_4, .int .i64 a0_5, .int .i64 a0_6, .string a0_7]] rfl z2_ ?_; (with_reducible refine (commit_TagBody.calls k a0_0 a0_1 a0_2 a0_3 a0_4 a0_5 a0_6 a0_7 t187 t188 _ ?side1 A7.out).mono ?_); (case side1 => exact GV.below hgv (hs_)); rintro e w12 ⟨rfl, hb⟩; refine ⟨_, rfl, ?_⟩; replace BK185 := Aside0.mk (bb_ BK185.out hb); replace HB := Aside0.mk (below_step (hs_) hb); (try clear hb); (try clear hb2); (try clear hk); (try clear hi); obtain ⟨hcz13_0, hcz13_1, hcz13_2, hcz13_3, hcz13_4, hcz13_5, hcz13_6, hcz13_7, hfz13_0, hfz13_1, hfz13_2, hfz13_3, hfz13_4, hfz13_5, hfz13_6, hfz13_7⟩ := bc8 BK185.out) | ((with_reducible refine gate_callee (f := 26) rfl ?_); refine goesL_ (some 21) rfl rfl Tryz.func26 (by kernel_rfl) rfl #[.agg #[.string a0_0, .int .i64 a0_1, .string a0_2, .string a0_3, .string a0_4, .int .i64 a0_5, .int .i64 a0_6, .string a0_7]] rfl z2_ ?_; (with_reducible refine (graftageref16_TagBody.calls k a0_0 a0_1 a0_2 a0_3 a0_4 a0_5 a0_6 a0_7 t189 t190 _ A8.out).mono ?_); rintro e w14 ⟨rfl, hb⟩; refine ⟨_, rfl, ?_⟩; replace BK185 := Aside0.mk (bb_ BK185.out hb); replace HB := Aside0.mk (below_step (hs_) hb); (try clear hb); (try clear hb2); (try clear hk); (try clear hi)))
  (try simp only [Act.put, List.setIfInBounds_toArray, List.set_cons_zero, List.set_cons_succ])
  go_cut [38] (fun v38 wc => ∃ (kq : Nat) (x38_8 : Bool), v38 = .bool x38_8 ∧ Aside0 (graftagelaw16_CommitTags.j0 kq t187 t188 x38_8 a0_0 a0_1 a0_2 a0_3 a0_4 a0_5 a0_6 a0_7 = some r) ∧ Aside0 (kq ≤ k) ∧ Aside0 (wc.heap[gb185]? = some (.cells #[.string a0_0, .int .i64 a0_1, .string a0_2, .string a0_3, .string a0_4, .int .i64 a0_5, .int .i64 a0_6, .string a0_7] 37 (0, 0))) ∧ Aside0 (Below w.heap.size w wc))
  case first =>
   have H := HC9.out
   clear HC9
   replace H := Option.bind_eq_some_iff.mp H
   obtain ⟨t191, A150, H⟩ := H
   have A15 := Aside0.mk A150
   clear A150
   replace H := Option.bind_eq_some_iff.mp H
   obtain ⟨t192, A160, H⟩ := H
   have A16 := Aside0.mk A160
   clear A160
   by_cases c17 : t191 = t192
   ·rw [if_pos c17] at H
    have c17b0 := beq_iff_eq.mpr c17
    have c17b1 := bne_eq_false_iff_eq.mpr c17
    clear c17
    (first | rw [c17b0] | (simp only [i64_w, i32_w]; rw [c17b0]) | skip)
    (try rw [c17b8])
    by_cases c18 : t187.toList = t189.toList
    ·rw [if_pos c18] at H
     have c18b0 := beq_iff_eq.mpr c18
     have c18b1 := bne_eq_false_iff_eq.mpr c18
     clear c18
     have H' := Aside0.mk H
     clear H
     try go_wp2
     replace BK185 := Aside0.mk (blk_drew BK185.out)
     replace HB := Aside0.mk (below_drew1 HB.out)
     refine start_ (n := 15) (S := fun w' => w'.cell? ⟨gb185, 0, none⟩ = some (.string a0_0) ∧ w'.cell? ⟨gb185, 1, none⟩ = some (.int .i64 a0_1) ∧ w'.cell? ⟨gb185, 2, none⟩ = some (.string a0_2) ∧ w'.cell? ⟨gb185, 3, none⟩ = some (.string a0_3) ∧ w'.cell? ⟨gb185, 4, none⟩ = some (.string a0_4) ∧ w'.cell? ⟨gb185, 5, none⟩ = some (.int .i64 a0_5) ∧ w'.cell? ⟨gb185, 6, none⟩ = some (.int .i64 a0_6) ∧ w'.cell? ⟨gb185, 7, none⟩ = some (.string a0_7)) (ds := []) (bs 15 0) (by kernel_rfl) rfl rfl ⟨(blk_cell BK185.out 0).trans rfl, (blk_cell BK185.out 1).trans rfl, (blk_cell BK185.out 2).trans rfl, (blk_cell BK185.out 3).trans rfl, (blk_cell BK185.out 4).trans rfl, (blk_cell BK185.out 5).trans rfl, (blk_cell BK185.out 6).trans rfl, (blk_cell BK185.out 7).trans rfl⟩ (fun hHeld => ?_); refine with_tabW graftagelaw16_CommitTags.tab5 graftagelaw16_CommitTags.bits5 (fun HT_ HW_ => ?_)
     generalize w14.drew = w19 at BK185 HB hHeld ⊢
     refine tkW8_ (i := 0) (N := some 24) (bs 15 1) rfl rfl hHeld ?_
     refine tkW8_ (i := 2) (N := some 26) (bs 15 5) rfl rfl hHeld ?_
     refine one_ (i := 1) (N := some 25) (bs 15 7) rfl rfl (one_of HT_.out (by kernel_rfl)) (by decide) (fun K hK => ?_)
     refine goes_ Tryz.func27 (by kernel_rfl) rfl #[.agg #[.string a0_0, .int .i64 a0_1, .string a0_2, .string a0_3, .string a0_4, .int .i64 a0_5, .int .i64 a0_6, .string a0_7]] (by rfl) rfl rfl z2_ ?_
     with_reducible refine (commit_CheckTag.calls k a0_0 a0_1 a0_2 a0_3 a0_4 a0_5 a0_6 a0_7 t191 _ ?side1 A15.out).mono ?_
     (case side1 => exact GV.below hgv (hs_))
     rintro e w20 ⟨rfl, hb⟩
     refine ⟨_, rfl, ?_⟩
     replace BK185 := Aside0.mk (bb_ BK185.out hb)
     replace HB := Aside0.mk (below_step (hs_) hb)
     (try clear hb)
     (try clear hb2)
     (try clear hk)
     (try clear hi)
     refine hK.out _ _ ⟨(blk_cell BK185.out 0).trans rfl, (blk_cell BK185.out 1).trans rfl, (blk_cell BK185.out 2).trans rfl, (blk_cell BK185.out 3).trans rfl, (blk_cell BK185.out 4).trans rfl, (blk_cell BK185.out 5).trans rfl, (blk_cell BK185.out 6).trans rfl, (blk_cell BK185.out 7).trans rfl⟩ (fun hHeld => ?_)
     clear hK K
     refine norm_ (a' := ?_) ?_ ?_
     rotate_left
     ·show Act.put _ (some 25) _ = _
      simp only [Act.put, List.setIfInBounds_toArray, List.set_cons_zero, List.set_cons_succ, i64_w, i32_w]
      rfl
     refine one_ (i := 3) (N := some 27) (bs 15 15) rfl rfl (one_of HT_.out (by kernel_rfl)) (by decide) (fun K hK => ?_)
     refine goes_ Tryz.func28 (by kernel_rfl) rfl #[.agg #[.string a0_0, .int .i64 a0_1, .string a0_2, .string a0_3, .string a0_4, .int .i64 a0_5, .int .i64 a0_6, .string a0_7]] (by rfl) rfl rfl z2_ ?_
     with_reducible refine (graftageref16_CheckTag.calls k a0_0 a0_1 a0_2 a0_3 a0_4 a0_5 a0_6 a0_7 t192 _ A16.out).mono ?_
     rintro e w21 ⟨rfl, hb⟩
     refine ⟨_, rfl, ?_⟩
     replace BK185 := Aside0.mk (bb_ BK185.out hb)
     replace HB := Aside0.mk (below_step (hs_) hb)
     (try clear hb)
     (try clear hb2)
     (try clear hk)
     (try clear hi)
     refine hK.out _ _ ⟨(blk_cell BK185.out 0).trans rfl, (blk_cell BK185.out 1).trans rfl, (blk_cell BK185.out 2).trans rfl, (blk_cell BK185.out 3).trans rfl, (blk_cell BK185.out 4).trans rfl, (blk_cell BK185.out 5).trans rfl, (blk_cell BK185.out 6).trans rfl, (blk_cell BK185.out 7).trans rfl⟩ (fun hHeld => ?_)
     clear hK K
     refine norm_ (a' := ?_) ?_ ?_
     rotate_left
     ·show Act.put _ (some 27) _ = _
      simp only [Act.put, List.setIfInBounds_toArray, List.set_cons_zero, List.set_cons_succ, i64_w, i32_w]
      rfl
     refine pu_ (i := 4) (N := some 28) (bs 15 31) rfl rfl ?_
     refine pu_ (i := 5) (N := some 29) (bs 15 63) rfl rfl ?_
     refine pu_ (i := 6) (N := some 30) (bs 15 127) rfl rfl ?_
     refine pu_ (i := 7) (N := some 31) (bs 15 255) rfl rfl ?_
     refine pu_ (i := 8) (N := some 32) (bs 15 511) rfl rfl ?_
     refine pu_ (i := 9) (N := some 33) (bs 15 1023) rfl rfl ?_
     refine pu_ (i := 10) (N := some 34) (bs 15 2047) rfl rfl ?_
     refine pu_ (i := 11) (N := some 35) (bs 15 4095) rfl rfl ?_
     refine pu_ (i := 12) (N := some 36) (bs 15 8191) rfl rfl ?_
     refine pu_ (i := 13) (N := some 37) (bs 15 16383) rfl rfl ?_
     refine pu_ (i := 14) (N := some 38) (bs 15 32767) rfl rfl ?_
     refine done_ (done_of HT_.out (by kernel_rfl)) ?_
     try go_wp2
     go_meet
     case rel => exact ⟨_, ((t188 != t190)), z1_, H', ⟨z5_⟩, ⟨bk_ BK185.out⟩, ⟨hs_⟩⟩
    ·rw [if_neg c18] at H
     have c18b0 := beq_eq_false_iff_ne.mpr c18
     have c18b1 := bne_iff_ne.mpr c18
     have H' := Aside0.mk H
     clear H
     try go_wp2
     replace BK185 := Aside0.mk (blk_drew BK185.out)
     replace HB := Aside0.mk (below_drew1 HB.out)
     refine start_ (n := 15) (S := fun w' => w'.cell? ⟨gb185, 0, none⟩ = some (.string a0_0) ∧ w'.cell? ⟨gb185, 1, none⟩ = some (.int .i64 a0_1) ∧ w'.cell? ⟨gb185, 2, none⟩ = some (.string a0_2) ∧ w'.cell? ⟨gb185, 3, none⟩ = some (.string a0_3) ∧ w'.cell? ⟨gb185, 4, none⟩ = some (.string a0_4) ∧ w'.cell? ⟨gb185, 5, none⟩ = some (.int .i64 a0_5) ∧ w'.cell? ⟨gb185, 6, none⟩ = some (.int .i64 a0_6) ∧ w'.cell? ⟨gb185, 7, none⟩ = some (.string a0_7)) (ds := []) (bs 15 0) (by kernel_rfl) rfl rfl ⟨(blk_cell BK185.out 0).trans rfl, (blk_cell BK185.out 1).trans rfl, (blk_cell BK185.out 2).trans rfl, (blk_cell BK185.out 3).trans rfl, (blk_cell BK185.out 4).trans rfl, (blk_cell BK185.out 5).trans rfl, (blk_cell BK185.out 6).trans rfl, (blk_cell BK185.out 7).trans rfl⟩ (fun hHeld => ?_); refine with_tabW graftagelaw16_CommitTags.tab5 graftagelaw16_CommitTags.bits5 (fun HT_ HW_ => ?_)
     generalize w14.drew = w22 at BK185 HB hHeld ⊢
     refine tkW8_ (i := 0) (N := some 24) (bs 15 1) rfl rfl hHeld ?_
     refine tkW8_ (i := 2) (N := some 26) (bs 15 5) rfl rfl hHeld ?_
     refine one_ (i := 1) (N := some 25) (bs 15 7) rfl rfl (one_of HT_.out (by kernel_rfl)) (by decide) (fun K hK => ?_)
     refine goes_ Tryz.func27 (by kernel_rfl) rfl #[.agg #[.string a0_0, .int .i64 a0_1, .string a0_2, .string a0_3, .string a0_4, .int .i64 a0_5, .int .i64 a0_6, .string a0_7]] (by rfl) rfl rfl z2_ ?_
     with_reducible refine (commit_CheckTag.calls k a0_0 a0_1 a0_2 a0_3 a0_4 a0_5 a0_6 a0_7 t191 _ ?side1 A15.out).mono ?_
     (case side1 => exact GV.below hgv (hs_))
     rintro e w23 ⟨rfl, hb⟩
     refine ⟨_, rfl, ?_⟩
     replace BK185 := Aside0.mk (bb_ BK185.out hb)
     replace HB := Aside0.mk (below_step (hs_) hb)
     (try clear hb)
     (try clear hb2)
     (try clear hk)
     (try clear hi)
     refine hK.out _ _ ⟨(blk_cell BK185.out 0).trans rfl, (blk_cell BK185.out 1).trans rfl, (blk_cell BK185.out 2).trans rfl, (blk_cell BK185.out 3).trans rfl, (blk_cell BK185.out 4).trans rfl, (blk_cell BK185.out 5).trans rfl, (blk_cell BK185.out 6).trans rfl, (blk_cell BK185.out 7).trans rfl⟩ (fun hHeld => ?_)
     clear hK K
     refine norm_ (a' := ?_) ?_ ?_
     rotate_left
     ·show Act.put _ (some 25) _ = _
      simp only [Act.put, List.setIfInBounds_toArray, List.set_cons_zero, List.set_cons_succ, i64_w, i32_w]
      rfl
     refine one_ (i := 3) (N := some 27) (bs 15 15) rfl rfl (one_of HT_.out (by kernel_rfl)) (by decide) (fun K hK => ?_)
     refine goes_ Tryz.func28 (by kernel_rfl) rfl #[.agg #[.string a0_0, .int .i64 a0_1, .string a0_2, .string a0_3, .string a0_4, .int .i64 a0_5, .int .i64 a0_6, .string a0_7]] (by rfl) rfl rfl z2_ ?_
     with_reducible refine (graftageref16_CheckTag.calls k a0_0 a0_1 a0_2 a0_3 a0_4 a0_5 a0_6 a0_7 t192 _ A16.out).mono ?_
     rintro e w24 ⟨rfl, hb⟩
     refine ⟨_, rfl, ?_⟩
     replace BK185 := Aside0.mk (bb_ BK185.out hb)
     replace HB := Aside0.mk (below_step (hs_) hb)
     (try clear hb)
     (try clear hb2)
     (try clear hk)
     (try clear hi)
     refine hK.out _ _ ⟨(blk_cell BK185.out 0).trans rfl, (blk_cell BK185.out 1).trans rfl, (blk_cell BK185.out 2).trans rfl, (blk_cell BK185.out 3).trans rfl, (blk_cell BK185.out 4).trans rfl, (blk_cell BK185.out 5).trans rfl, (blk_cell BK185.out 6).trans rfl, (blk_cell BK185.out 7).trans rfl⟩ (fun hHeld => ?_)
     clear hK K
     refine norm_ (a' := ?_) ?_ ?_
     rotate_left
     ·show Act.put _ (some 27) _ = _
      simp only [Act.put, List.setIfInBounds_toArray, List.set_cons_zero, List.set_cons_succ, i64_w, i32_w]
      rfl
     refine pu_ (i := 4) (N := some 28) (bs 15 31) rfl rfl ?_
     refine pu_ (i := 5) (N := some 29) (bs 15 63) rfl rfl ?_
     refine pu_ (i := 6) (N := some 30) (bs 15 127) rfl rfl ?_
     refine pu_ (i := 7) (N := some 31) (bs 15 255) rfl rfl ?_
     refine pu_ (i := 8) (N := some 32) (bs 15 511) rfl rfl ?_
     refine pu_ (i := 9) (N := some 33) (bs 15 1023) rfl rfl ?_
     refine pu_ (i := 10) (N := some 34) (bs 15 2047) rfl rfl ?_
     refine pn_ (i := 11) (N := some 35) (bs 15 4095) rfl rfl ?_
     refine pn_ (i := 12) (N := some 36) (bs 15 8191) rfl rfl ?_
     refine pn_ (i := 13) (N := some 37) (bs 15 16383) rfl rfl ?_
     refine pu_ (i := 14) (N := some 38) (bs 15 32767) rfl rfl ?_
     refine done_ (done_of HT_.out (by kernel_rfl)) ?_
     try go_wp2
     go_meet
     case rel => exact ⟨_, (true), z1_, H', ⟨z5_⟩, ⟨bk_ BK185.out⟩, ⟨hs_⟩⟩
   ·rw [if_neg c17] at H
    have c17b0 := beq_eq_false_iff_ne.mpr c17
    have c17b1 := bne_iff_ne.mpr c17
    (first | rw [c17b0] | (simp only [i64_w, i32_w]; rw [c17b0]) | skip)
    (try rw [c17b8])
    have H' := Aside0.mk H
    clear H
    try go_wp2
    replace BK185 := Aside0.mk (blk_drew BK185.out)
    replace HB := Aside0.mk (below_drew1 HB.out)
    refine start_ (n := 15) (S := fun w' => w'.cell? ⟨gb185, 0, none⟩ = some (.string a0_0) ∧ w'.cell? ⟨gb185, 1, none⟩ = some (.int .i64 a0_1) ∧ w'.cell? ⟨gb185, 2, none⟩ = some (.string a0_2) ∧ w'.cell? ⟨gb185, 3, none⟩ = some (.string a0_3) ∧ w'.cell? ⟨gb185, 4, none⟩ = some (.string a0_4) ∧ w'.cell? ⟨gb185, 5, none⟩ = some (.int .i64 a0_5) ∧ w'.cell? ⟨gb185, 6, none⟩ = some (.int .i64 a0_6) ∧ w'.cell? ⟨gb185, 7, none⟩ = some (.string a0_7)) (ds := []) (bs 15 0) (by kernel_rfl) rfl rfl ⟨(blk_cell BK185.out 0).trans rfl, (blk_cell BK185.out 1).trans rfl, (blk_cell BK185.out 2).trans rfl, (blk_cell BK185.out 3).trans rfl, (blk_cell BK185.out 4).trans rfl, (blk_cell BK185.out 5).trans rfl, (blk_cell BK185.out 6).trans rfl, (blk_cell BK185.out 7).trans rfl⟩ (fun hHeld => ?_); refine with_tabW graftagelaw16_CommitTags.tab5 graftagelaw16_CommitTags.bits5 (fun HT_ HW_ => ?_)
    generalize w14.drew = w25 at BK185 HB hHeld ⊢
    refine tkW8_ (i := 0) (N := some 24) (bs 15 1) rfl rfl hHeld ?_
    refine tkW8_ (i := 2) (N := some 26) (bs 15 5) rfl rfl hHeld ?_
    refine one_ (i := 1) (N := some 25) (bs 15 7) rfl rfl (one_of HT_.out (by kernel_rfl)) (by decide) (fun K hK => ?_)
    refine goes_ Tryz.func27 (by kernel_rfl) rfl #[.agg #[.string a0_0, .int .i64 a0_1, .string a0_2, .string a0_3, .string a0_4, .int .i64 a0_5, .int .i64 a0_6, .string a0_7]] (by rfl) rfl rfl z2_ ?_
    with_reducible refine (commit_CheckTag.calls k a0_0 a0_1 a0_2 a0_3 a0_4 a0_5 a0_6 a0_7 t191 _ ?side1 A15.out).mono ?_
    (case side1 => exact GV.below hgv (hs_))
    rintro e w26 ⟨rfl, hb⟩
    refine ⟨_, rfl, ?_⟩
    replace BK185 := Aside0.mk (bb_ BK185.out hb)
    replace HB := Aside0.mk (below_step (hs_) hb)
    (try clear hb)
    (try clear hb2)
    (try clear hk)
    (try clear hi)
    refine hK.out _ _ ⟨(blk_cell BK185.out 0).trans rfl, (blk_cell BK185.out 1).trans rfl, (blk_cell BK185.out 2).trans rfl, (blk_cell BK185.out 3).trans rfl, (blk_cell BK185.out 4).trans rfl, (blk_cell BK185.out 5).trans rfl, (blk_cell BK185.out 6).trans rfl, (blk_cell BK185.out 7).trans rfl⟩ (fun hHeld => ?_)
    clear hK K
    refine norm_ (a' := ?_) ?_ ?_
    rotate_left
    ·show Act.put _ (some 25) _ = _
     simp only [Act.put, List.setIfInBounds_toArray, List.set_cons_zero, List.set_cons_succ, i64_w, i32_w]
     rfl
    refine one_ (i := 3) (N := some 27) (bs 15 15) rfl rfl (one_of HT_.out (by kernel_rfl)) (by decide) (fun K hK => ?_)
    refine goes_ Tryz.func28 (by kernel_rfl) rfl #[.agg #[.string a0_0, .int .i64 a0_1, .string a0_2, .string a0_3, .string a0_4, .int .i64 a0_5, .int .i64 a0_6, .string a0_7]] (by rfl) rfl rfl z2_ ?_
    with_reducible refine (graftageref16_CheckTag.calls k a0_0 a0_1 a0_2 a0_3 a0_4 a0_5 a0_6 a0_7 t192 _ A16.out).mono ?_
    rintro e w27 ⟨rfl, hb⟩
    refine ⟨_, rfl, ?_⟩
    replace BK185 := Aside0.mk (bb_ BK185.out hb)
    replace HB := Aside0.mk (below_step (hs_) hb)
    (try clear hb)
    (try clear hb2)
    (try clear hk)
    (try clear hi)
    refine hK.out _ _ ⟨(blk_cell BK185.out 0).trans rfl, (blk_cell BK185.out 1).trans rfl, (blk_cell BK185.out 2).trans rfl, (blk_cell BK185.out 3).trans rfl, (blk_cell BK185.out 4).trans rfl, (blk_cell BK185.out 5).trans rfl, (blk_cell BK185.out 6).trans rfl, (blk_cell BK185.out 7).trans rfl⟩ (fun hHeld => ?_)
    clear hK K
    refine norm_ (a' := ?_) ?_ ?_
    rotate_left
    ·show Act.put _ (some 27) _ = _
     simp only [Act.put, List.setIfInBounds_toArray, List.set_cons_zero, List.set_cons_succ, i64_w, i32_w]
     rfl
    refine pu_ (i := 4) (N := some 28) (bs 15 31) rfl rfl ?_
    refine pu_ (i := 5) (N := some 29) (bs 15 63) rfl rfl ?_
    refine pn_ (i := 6) (N := some 30) (bs 15 127) rfl rfl ?_
    refine pn_ (i := 7) (N := some 31) (bs 15 255) rfl rfl ?_
    refine pn_ (i := 8) (N := some 32) (bs 15 511) rfl rfl ?_
    refine pu_ (i := 9) (N := some 33) (bs 15 1023) rfl rfl ?_
    refine pu_ (i := 10) (N := some 34) (bs 15 2047) rfl rfl ?_
    refine pn_ (i := 11) (N := some 35) (bs 15 4095) rfl rfl ?_
    refine pn_ (i := 12) (N := some 36) (bs 15 8191) rfl rfl ?_
    refine pn_ (i := 13) (N := some 37) (bs 15 16383) rfl rfl ?_
    refine pu_ (i := 14) (N := some 38) (bs 15 32767) rfl rfl ?_
    refine done_ (done_of HT_.out (by kernel_rfl)) ?_
    try go_wp2
    go_meet
    case rel => exact ⟨_, (true), z1_, H', ⟨z5_⟩, ⟨bk_ BK185.out⟩, ⟨hs_⟩⟩
  case rest =>
   clear HC9
   try clear c1
   try clear c2
   try clear c2b0
   try clear c2b1
   try clear p2
   try clear c5
   try clear c15
   try clear c17
   try clear c17b0
   try clear c17b1
   try clear c18
   try clear c18b0
   try clear c18b1
   try clear c25
   try clear c26
   try clear c27
   try clear hcz11_0 hcz11_1 hcz11_2 hcz11_3 hcz11_4 hcz11_5 hcz11_6 hcz11_7
   try clear hcz13_0 hcz13_1 hcz13_2 hcz13_3 hcz13_4 hcz13_5 hcz13_6 hcz13_7
   try clear hcz5_0 hcz5_1 hcz5_2 hcz5_3 hcz5_4 hcz5_5 hcz5_6 hcz5_7
   try clear hfz11_0 hfz11_1 hfz11_2 hfz11_3 hfz11_4 hfz11_5 hfz11_6 hfz11_7
   try clear hfz13_0 hfz13_1 hfz13_2 hfz13_3 hfz13_4 hfz13_5 hfz13_6 hfz13_7
   try clear hfz5_0 hfz5_1 hfz5_2 hfz5_3 hfz5_4 hfz5_5 hfz5_6 hfz5_7
   obtain ⟨kq, x38_8, rfl, HA, HJ8, BK185, HB⟩ := hcut
   cases kq with
   | zero => exact absurd HA.out (by simp [graftagelaw16_CommitTags.j0])
   | succ kj8 =>
    have H := HA.out
    clear HA
    simp only [graftagelaw16_CommitTags.j0] at H
    by_cases c28 : x38_8 = true
    ·subst c28
     have H1 : (some false) = some r := by rw [if_pos rfl] at H; exact H
     clear H
     have H := H1
     clear H1
     obtain rfl := Option.some.inj H
     go_wp2
     go_ret
     exact ⟨z4_, hs_⟩
    ·replace c28 := Bool.eq_false_iff.mpr c28
     subst c28
     have H1 : (if t188 = 0 then ((commit_ParseTag.f kj8 t187).bind fun bt193 => ((graftagelaw16_lives.f kj8).bind fun t203 => (if t203 = true then (if bt193.2.2.2.2.2.2.2.2 = 0 then (some (bt193.1.toList == a0_0.toList && (bt193.2.1 == a0_1 && (bt193.2.2.1.toList == a0_2.toList && ((bt193.2.2.2.1.toList == a0_3.toList && (bt193.2.2.2.2.1.toList == a0_4.toList && (bt193.2.2.2.2.2.1 == a0_5 && (bt193.2.2.2.2.2.2.1 == a0_6)))) && (bt193.2.2.2.2.2.2.2.1.toList == a0_7.toList)))))) else (some false)) else (some false)))) else ((graftagelaw16_lives.f kj8).bind fun t204 => (some t204))) = some r := by rw [if_neg (show ¬ (false = true) by decide)] at H; exact H
     clear H
     have H := H1
     clear H1
     by_cases c29 : t188 = 0
     ·rw [if_pos c29] at H
      have c29b0 := beq_iff_eq.mpr c29
      have c29b1 := bne_eq_false_iff_eq.mpr c29
      clear c29
      replace H := Option.bind_eq_some_iff.mp H
      obtain ⟨⟨t193, t194, t195, t196, t197, t198, t199, t200, t201⟩, A300, H⟩ := H
      replace H : ((graftagelaw16_lives.f kj8).bind fun t203 => (if t203 = true then (if t201 = 0 then (some (t193.toList == a0_0.toList && (t194 == a0_1 && (t195.toList == a0_2.toList && ((t196.toList == a0_3.toList && (t197.toList == a0_4.toList && (t198 == a0_5 && (t199 == a0_6)))) && (t200.toList == a0_7.toList)))))) else (some false)) else (some false))) = some r := H
      have A30 := Aside0.mk A300
      clear A300
      replace H := Option.bind_eq_some_iff.mp H
      obtain ⟨t203, A310, H⟩ := H
      have A31 := Aside0.mk A310
      clear A310
      by_cases c32 : t203 = true
      ·subst c32
       have H1 : (if t201 = 0 then (some (t193.toList == a0_0.toList && (t194 == a0_1 && (t195.toList == a0_2.toList && ((t196.toList == a0_3.toList && (t197.toList == a0_4.toList && (t198 == a0_5 && (t199 == a0_6)))) && (t200.toList == a0_7.toList)))))) else (some false)) = some r := by rw [if_pos rfl] at H; exact H
       clear H
       have H := H1
       clear H1
       by_cases c33 : t201 = 0
       ·rw [if_pos c33] at H
        have c33b0 := beq_iff_eq.mpr c33
        have c33b1 := bne_eq_false_iff_eq.mpr c33
        clear c33
        obtain rfl := Option.some.inj H
        go_wp2_with (first | ((with_reducible refine gate_callee (f := 23) rfl ?_); refine goesL_ (some 44) rfl rfl Tryz.func23 (by kernel_rfl) rfl #[.string t187] rfl z2_ ?_; (with_reducible refine (commit_ParseTag.calls kj8 t187 t193 t194 t195 t196 t197 t198 t199 t200 t201 _ ?side1 A30.out).mono ?_); (case side1 => exact GV.below hgv (hs_)); rintro e w34 ⟨rfl, hb⟩; refine ⟨_, rfl, ?_⟩; replace BK185 := Aside0.mk (bb_ BK185.out hb); replace HB := Aside0.mk (below_step (hs_) hb); (try clear hb); (try clear hb2); (try clear hk); (try clear hi)) | ((with_reducible refine gate_dst (N := 7) rfl ?_); refine be_ (cs := #[.string (⟨#[]⟩ : ByteArray), .int .i64 0, .string (⟨#[]⟩ : ByteArray), .string (⟨#[]⟩ : ByteArray), .string (⟨#[]⟩ : ByteArray), .int .i64 0, .int .i64 0, .string (⟨#[]⟩ : ByteArray)]) (t := 37) ?_; intro gb202 hg w35 hbox hb; have BK202 := Aside0.mk (hbox); have GW202 := Aside0.mk ((by rw [hg]; exact (below_size (hs_)) : w.heap.size ≤ gb202)); have GE202 := Aside0.mk ((by rw [hg]; exact (below_size (hs_)) : w.heap.size ≤ gb202)); replace HB := Aside0.mk (below_step (hs_) hb); have NB185_202 := Aside0.mk (nl2_ hg BK185.out); have NB202_185 := Aside0.mk (ng2_ hg BK185.out); replace BK185 := Aside0.mk (bb_ BK185.out hb); clear hb hbox hg; have hnb36 := NB202_185.out; have hnc36 := NB185_202.out; obtain ⟨hcz37_0, hcz37_1, hcz37_2, hcz37_3, hcz37_4, hcz37_5, hcz37_6, hcz37_7, hfz37_0, hfz37_1, hfz37_2, hfz37_3, hfz37_4, hfz37_5, hfz37_6, hfz37_7⟩ := bc8 BK202.out) | ((with_reducible refine gate_callee (f := 15) rfl ?_); refine goesL_ (some 47) rfl rfl Tryz.func15 (by kernel_rfl) rfl #[] rfl z2_ ?_; (with_reducible refine (graftagelaw16_lives.calls kj8  true _ ?side1 A31.out).mono ?_); (case side1 => exact GV.below hgv (hs_)); rintro e w38 ⟨rfl, hb⟩; refine ⟨_, rfl, ?_⟩; replace BK185 := Aside0.mk (blk_below (g := gb185) (o := .cells #[.string a0_0, .int .i64 a0_1, .string a0_2, .string a0_3, .string a0_4, .int .i64 a0_5, .int .i64 a0_6, .string a0_7] 37 (0, 0)) (by have b_ := BK185; have f_ := NB185_202; exact zb_) hb); replace BK202 := Aside0.mk (blk_below (g := gb202) (o := .cells #[.string t193, .int .i64 t194, .string t195, .string t196, .string t197, .int .i64 t198, .int .i64 t199, .string t200] 37 (0, 0)) (by have b_ := BK202; exact zb_) hb); replace HB := Aside0.mk (below_step (hs_) hb); (try clear hb); (try clear hb2); (try clear hk); (try clear hi); obtain ⟨hcz39_0, hcz39_1, hcz39_2, hcz39_3, hcz39_4, hcz39_5, hcz39_6, hcz39_7, hfz39_0, hfz39_1, hfz39_2, hfz39_3, hfz39_4, hfz39_5, hfz39_6, hfz39_7⟩ := bc8 BK202.out; obtain ⟨hcz40_0, hcz40_1, hcz40_2, hcz40_3, hcz40_4, hcz40_5, hcz40_6, hcz40_7, hfz40_0, hfz40_1, hfz40_2, hfz40_3, hfz40_4, hfz40_5, hfz40_6, hfz40_7⟩ := bc8 BK185.out))
        go_ret
        exact ⟨z4_, hs_⟩
       ·rw [if_neg c33] at H
        have c33b0 := beq_eq_false_iff_ne.mpr c33
        have c33b1 := bne_iff_ne.mpr c33
        obtain rfl := Option.some.inj H
        go_wp2_with (first | ((with_reducible refine gate_callee (f := 23) rfl ?_); refine goesL_ (some 44) rfl rfl Tryz.func23 (by kernel_rfl) rfl #[.string t187] rfl z2_ ?_; (with_reducible refine (commit_ParseTag.calls kj8 t187 t193 t194 t195 t196 t197 t198 t199 t200 t201 _ ?side1 A30.out).mono ?_); (case side1 => exact GV.below hgv (hs_)); rintro e w41 ⟨rfl, hb⟩; refine ⟨_, rfl, ?_⟩; replace BK185 := Aside0.mk (bb_ BK185.out hb); replace HB := Aside0.mk (below_step (hs_) hb); (try clear hb); (try clear hb2); (try clear hk); (try clear hi)) | ((with_reducible refine gate_dst (N := 7) rfl ?_); refine be_ (cs := #[.string (⟨#[]⟩ : ByteArray), .int .i64 0, .string (⟨#[]⟩ : ByteArray), .string (⟨#[]⟩ : ByteArray), .string (⟨#[]⟩ : ByteArray), .int .i64 0, .int .i64 0, .string (⟨#[]⟩ : ByteArray)]) (t := 37) ?_; intro gb202 hg w42 hbox hb; have BK202 := Aside0.mk (hbox); have GW202 := Aside0.mk ((by rw [hg]; exact (below_size (hs_)) : w.heap.size ≤ gb202)); have GE202 := Aside0.mk ((by rw [hg]; exact (below_size (hs_)) : w.heap.size ≤ gb202)); replace HB := Aside0.mk (below_step (hs_) hb); have NB185_202 := Aside0.mk (nl2_ hg BK185.out); have NB202_185 := Aside0.mk (ng2_ hg BK185.out); replace BK185 := Aside0.mk (bb_ BK185.out hb); clear hb hbox hg; have hnb43 := NB202_185.out; have hnc43 := NB185_202.out; obtain ⟨hcz44_0, hcz44_1, hcz44_2, hcz44_3, hcz44_4, hcz44_5, hcz44_6, hcz44_7, hfz44_0, hfz44_1, hfz44_2, hfz44_3, hfz44_4, hfz44_5, hfz44_6, hfz44_7⟩ := bc8 BK202.out) | ((with_reducible refine gate_callee (f := 15) rfl ?_); refine goesL_ (some 47) rfl rfl Tryz.func15 (by kernel_rfl) rfl #[] rfl z2_ ?_; (with_reducible refine (graftagelaw16_lives.calls kj8  true _ ?side1 A31.out).mono ?_); (case side1 => exact GV.below hgv (hs_)); rintro e w45 ⟨rfl, hb⟩; refine ⟨_, rfl, ?_⟩; replace BK185 := Aside0.mk (blk_below (g := gb185) (o := .cells #[.string a0_0, .int .i64 a0_1, .string a0_2, .string a0_3, .string a0_4, .int .i64 a0_5, .int .i64 a0_6, .string a0_7] 37 (0, 0)) (by have b_ := BK185; have f_ := NB185_202; exact zb_) hb); replace BK202 := Aside0.mk (blk_below (g := gb202) (o := .cells #[.string t193, .int .i64 t194, .string t195, .string t196, .string t197, .int .i64 t198, .int .i64 t199, .string t200] 37 (0, 0)) (by have b_ := BK202; exact zb_) hb); replace HB := Aside0.mk (below_step (hs_) hb); (try clear hb); (try clear hb2); (try clear hk); (try clear hi)))
        go_ret
        exact ⟨z4_, hs_⟩
      ·replace c32 := Bool.eq_false_iff.mpr c32
       subst c32
       have H1 : (some false) = some r := by rw [if_neg (show ¬ (false = true) by decide)] at H; exact H
       clear H
       have H := H1
       clear H1
       obtain rfl := Option.some.inj H
       go_wp2_with (first | ((with_reducible refine gate_callee (f := 23) rfl ?_); refine goesL_ (some 44) rfl rfl Tryz.func23 (by kernel_rfl) rfl #[.string t187] rfl z2_ ?_; (with_reducible refine (commit_ParseTag.calls kj8 t187 t193 t194 t195 t196 t197 t198 t199 t200 t201 _ ?side1 A30.out).mono ?_); (case side1 => exact GV.below hgv (hs_)); rintro e w46 ⟨rfl, hb⟩; refine ⟨_, rfl, ?_⟩; replace BK185 := Aside0.mk (bb_ BK185.out hb); replace HB := Aside0.mk (below_step (hs_) hb); (try clear hb); (try clear hb2); (try clear hk); (try clear hi)) | ((with_reducible refine gate_dst (N := 7) rfl ?_); refine be_ (cs := #[.string (⟨#[]⟩ : ByteArray), .int .i64 0, .string (⟨#[]⟩ : ByteArray), .string (⟨#[]⟩ : ByteArray), .string (⟨#[]⟩ : ByteArray), .int .i64 0, .int .i64 0, .string (⟨#[]⟩ : ByteArray)]) (t := 37) ?_; intro gb202 hg w47 hbox hb; have BK202 := Aside0.mk (hbox); have GW202 := Aside0.mk ((by rw [hg]; exact (below_size (hs_)) : w.heap.size ≤ gb202)); have GE202 := Aside0.mk ((by rw [hg]; exact (below_size (hs_)) : w.heap.size ≤ gb202)); replace HB := Aside0.mk (below_step (hs_) hb); have NB185_202 := Aside0.mk (nl2_ hg BK185.out); have NB202_185 := Aside0.mk (ng2_ hg BK185.out); replace BK185 := Aside0.mk (bb_ BK185.out hb); clear hb hbox hg; have hnb48 := NB202_185.out; have hnc48 := NB185_202.out; obtain ⟨hcz49_0, hcz49_1, hcz49_2, hcz49_3, hcz49_4, hcz49_5, hcz49_6, hcz49_7, hfz49_0, hfz49_1, hfz49_2, hfz49_3, hfz49_4, hfz49_5, hfz49_6, hfz49_7⟩ := bc8 BK202.out) | ((with_reducible refine gate_callee (f := 15) rfl ?_); refine goesL_ (some 47) rfl rfl Tryz.func15 (by kernel_rfl) rfl #[] rfl z2_ ?_; (with_reducible refine (graftagelaw16_lives.calls kj8  false _ ?side1 A31.out).mono ?_); (case side1 => exact GV.below hgv (hs_)); rintro e w50 ⟨rfl, hb⟩; refine ⟨_, rfl, ?_⟩; replace BK185 := Aside0.mk (blk_below (g := gb185) (o := .cells #[.string a0_0, .int .i64 a0_1, .string a0_2, .string a0_3, .string a0_4, .int .i64 a0_5, .int .i64 a0_6, .string a0_7] 37 (0, 0)) (by have b_ := BK185; have f_ := NB185_202; exact zb_) hb); replace BK202 := Aside0.mk (blk_below (g := gb202) (o := .cells #[.string t193, .int .i64 t194, .string t195, .string t196, .string t197, .int .i64 t198, .int .i64 t199, .string t200] 37 (0, 0)) (by have b_ := BK202; exact zb_) hb); replace HB := Aside0.mk (below_step (hs_) hb); (try clear hb); (try clear hb2); (try clear hk); (try clear hi)))
       go_ret
       exact ⟨z4_, hs_⟩
     ·rw [if_neg c29] at H
      have c29b0 := beq_eq_false_iff_ne.mpr c29
      have c29b1 := bne_iff_ne.mpr c29
      replace H := Option.bind_eq_some_iff.mp H
      obtain ⟨t204, A510, H⟩ := H
      have A51 := Aside0.mk A510
      clear A510
      obtain rfl := Option.some.inj H
      go_wp2_with (first | ((with_reducible refine gate_callee (f := 15) rfl ?_); refine goesL_ (some 41) rfl rfl Tryz.func15 (by kernel_rfl) rfl #[] rfl z2_ ?_; (with_reducible refine (graftagelaw16_lives.calls kj8  t204 _ ?side1 A51.out).mono ?_); (case side1 => exact GV.below hgv (hs_)); rintro e w52 ⟨rfl, hb⟩; refine ⟨_, rfl, ?_⟩; replace BK185 := Aside0.mk (bb_ BK185.out hb); replace HB := Aside0.mk (below_step (hs_) hb); (try clear hb); (try clear hb2); (try clear hk); (try clear hi)))
      go_ret
      exact ⟨z4_, hs_⟩

end Go.Proofs.YtbhfbbfjdklfgaaGreatDoor.Q


/- Persons' words: cuts, digits and zones over lists of bytes. -/
namespace Go.Proofs.YtbhfbbfjdklfgaaGreatDoor.Q
open Go.RowKit Go.Proofs.YtbhfbbfjdklfgaaGreatDoorW.PrintWords Go.Proofs.YtbhfbbfjdklfgaaGreatDoorW.PrintLast Go.Proofs.YtbhfbbfjdklfgaaGreatDoorW.PrintMore
def mk (l : List UInt8) : ByteArray := ⟨l.toArray⟩
theorem mk_data (l : List UInt8) : (mk l).data.toList = l := by simp [mk]
theorem mk_of (s : ByteArray) : mk s.data.toList = s := ba_ext (mk_data _)
theorem mk_toList (l : List UInt8) : (mk l).toList = l := by rw [ByteArray.toList_eq, mk_data]
theorem mk_size (l : List UInt8) : (mk l).size = l.length := by rw [Lib.size_eq, mk_data]
theorem mk_app (a b : List UInt8) : mk a ++ mk b = mk (a ++ b) := ba_ext (by rw [append_data, mk_data, mk_data, mk_data])
theorem size_of (s : ByteArray) : s.data.toList.length = s.size := (Lib.size_eq s).symm
theorem index_cons_hit {b : UInt8} {l s : List UInt8} (h : s.isPrefixOf (b :: l) = true) : Lib.index (b :: l) s = 0 := by rw [Lib.index, if_pos h]
theorem index_cons_miss {b : UInt8} {l s : List UInt8} (h : s.isPrefixOf (b :: l) = false) : Lib.index (b :: l) s = if Lib.index l s == -1 then -1 else Lib.index l s + 1 := by rw [Lib.index, if_neg (by simp [h])]
/-- a pair of bytes, the second of which does not stand ahead -/
theorem index_pair (x y : UInt8) (hxy : x ≠ y) : ∀ (a b : List UInt8), y ∉ a → Lib.index (a ++ x :: y :: b) [x, y] = a.length
  | [], b, _ => index_cons_hit (by simp [List.isPrefixOf])
  | c :: a, b, h => by
    have ih := index_pair x y hxy a b (fun e => h (by simp [e]))
    have hp : [x, y].isPrefixOf (c :: (a ++ x :: y :: b)) = false := by
      cases a with
      | nil => simp [List.isPrefixOf]; intro _ e; exact absurd e.symm hxy
      | cons d r => simp [List.isPrefixOf]; intro _ e; subst e; simp at h
    rw [List.cons_append, index_cons_miss hp, ih, if_neg (by simp only [beq_iff_eq]; omega), List.length_cons]
    omega
/-- a pair, the first of which does not stand ahead -/
theorem index_pair' (x y : UInt8) : ∀ (a b : List UInt8), x ∉ a → Lib.index (a ++ x :: y :: b) [x, y] = a.length
  | [], b, _ => index_cons_hit (by simp [List.isPrefixOf])
  | c :: a, b, h => by
    have ih := index_pair' x y a b (fun e => h (by simp [e]))
    have hp : [x, y].isPrefixOf (c :: (a ++ x :: y :: b)) = false := by
      simp [List.isPrefixOf]; intro e; subst e; simp at h
    rw [List.cons_append, index_cons_miss hp, ih, if_neg (by simp only [beq_iff_eq]; omega), List.length_cons]
    omega
theorem index_one (x : UInt8) : ∀ (a b : List UInt8), x ∉ a → Lib.index (a ++ x :: b) [x] = a.length
  | [], b, _ => index_cons_hit (by simp [List.isPrefixOf])
  | c :: a, b, h => by
    have ih := index_one x a b (fun e => h (by simp [e]))
    have hp : [x].isPrefixOf (c :: (a ++ x :: b)) = false := by
      simp [List.isPrefixOf]; intro e; subst e; simp at h
    rw [List.cons_append, index_cons_miss hp, ih, if_neg (by simp only [beq_iff_eq]; omega), List.length_cons]
    omega
theorem cut_of {l s : List UInt8} (h : 0 ≤ Lib.index l s) : Lib.cut l s = (l.take (Lib.index l s).toNat, l.drop ((Lib.index l s).toNat + s.length), true) := by unfold Lib.cut; rw [if_pos h]
theorem cut_no {l s : List UInt8} (h : ¬ 0 ≤ Lib.index l s) : Lib.cut l s = (l, [], false) := by unfold Lib.cut; rw [if_neg h]
theorem cut_pair (x y : UInt8) (hxy : x ≠ y) (a b : List UInt8) (h : y ∉ a) : Lib.cut (a ++ x :: y :: b) [x, y] = (a, b, true) := by
  have := index_pair x y hxy a b h
  rw [cut_of (by omega), this]
  simp [List.take_append, List.drop_append]
theorem cut_pair' (x y : UInt8) (a b : List UInt8) (h : x ∉ a) : Lib.cut (a ++ x :: y :: b) [x, y] = (a, b, true) := by
  have := index_pair' x y a b h
  rw [cut_of (by omega), this]
  simp [List.take_append, List.drop_append]
theorem cut_one (x : UInt8) (a b : List UInt8) (h : x ∉ a) : Lib.cut (a ++ x :: b) [x] = (a, b, true) := by
  have := index_one x a b h
  rw [cut_of (by omega), this]
  simp [List.take_append, List.drop_append]
def isDig (c : UInt8) : Bool := decide (48 ≤ c.toNat) && decide (c.toNat ≤ 57)
def valN (acc : Nat) (l : List UInt8) : Nat := l.foldl (fun a c => 10 * a + (c.toNat - 48)) acc
theorem valN_nil (acc : Nat) : valN acc [] = acc := by unfold valN; rw [List.foldl_nil]
theorem valN_cons (acc : Nat) (c : UInt8) (l : List UInt8) : valN acc (c :: l) = valN (10 * acc + (c.toNat - 48)) l := by unfold valN; rw [List.foldl_cons]
theorem digitVal_dig {c : UInt8} (h : isDig c = true) : Lib.digitVal c = some (c.toNat - 48) := by
  unfold isDig at h
  simp only [Bool.and_eq_true, decide_eq_true_eq] at h
  unfold Lib.digitVal
  rw [if_pos h]
theorem decFrom_val (l : List UInt8) : ∀ (acc : Nat), l.all isDig = true → Lib.decFrom acc l = some (valN acc l) := by
  induction l with
  | nil => intro acc _; rfl
  | cons c l ih =>
    intro acc h
    rw [List.all_cons, Bool.and_eq_true] at h
    rw [Lib.decFrom, digitVal_dig h.1]
    show Lib.decFrom (acc * 10 + (c.toNat - 48)) l = _
    rw [ih _ h.2, valN_cons, Nat.mul_comm]
theorem atoi_val {l : List UInt8} (hn : l ≠ []) (h : l.all isDig = true) : Lib.atoi l = some ((valN 0 l : Nat) : Int) := by
  cases l with
  | nil => exact absurd rfl hn
  | cons c r =>
    have hc : isDig c = true := by rw [List.all_cons, Bool.and_eq_true] at h; exact h.1
    unfold isDig at hc
    simp only [Bool.and_eq_true, decide_eq_true_eq] at hc
    have h1 : (c == 45) = false := by rw [beq_eq_false_iff_ne]; rintro rfl; simp at hc
    have h2 : (c == 43) = false := by rw [beq_eq_false_iff_ne]; rintro rfl; simp at hc
    rw [Lib.atoi, h1, h2]
    simp only [Bool.false_eq_true, if_false]
    unfold Lib.decNat
    rw [List.isEmpty_cons]
    simp only [Bool.false_eq_true, if_false]
    rw [decFrom_val _ _ h]; rfl
theorem valN_lt : ∀ (l : List UInt8) (acc n : Nat), l.all isDig = true → acc < 10 ^ n → valN acc l < 10 ^ (n + l.length)
  | [], acc, n, _, h => by simpa [valN_nil] using h
  | c :: l, acc, n, h, ha => by
    rw [List.all_cons, Bool.and_eq_true] at h
    have hc := h.1
    unfold isDig at hc
    simp only [Bool.and_eq_true, decide_eq_true_eq] at hc
    have := valN_lt l (10 * acc + (c.toNat - 48)) (n + 1) h.2 (by rw [Nat.pow_succ]; omega)
    rw [valN_cons, List.length_cons, show n + (l.length + 1) = n + 1 + l.length by omega]
    exact this
theorem valN_app (l : List UInt8) (c : UInt8) : ∀ acc, valN acc (l ++ [c]) = 10 * valN acc l + (c.toNat - 48) := by
  induction l with
  | nil => intro acc; rfl
  | cons d l ih => intro acc; rw [List.cons_append, valN_cons, ih, valN_cons]
theorem dec_all (u : Nat) : (Lib.decDigits u).all isDig = true := by
  induction u using Nat.strongRecOn with
  | _ u ih =>
    rw [Lib.decDigits]
    split
    · rename_i h
      simp [isDig, UInt8.toNat_ofNat']
      omega
    · rename_i h
      rw [List.all_append, ih (u / 10) (by omega)]
      simp [isDig, UInt8.toNat_ofNat']
      omega
theorem dec_ne (u : Nat) : Lib.decDigits u ≠ [] := by
  rw [Lib.decDigits]; split <;> simp
theorem dec_val (u : Nat) : valN 0 (Lib.decDigits u) = u := by
  induction u using Nat.strongRecOn with
  | _ u ih =>
    rw [Lib.decDigits]
    split
    · rename_i h
      simp [valN_cons, valN_nil, UInt8.toNat_ofNat']
      omega
    · rename_i h
      rw [valN_app, ih (u / 10) (by omega)]
      simp [UInt8.toNat_ofNat']
      omega
theorem dec_head (u : Nat) (h : 10 ≤ u) : ∃ c l, Lib.decDigits u = c :: l ∧ c ≠ 48 ∧ l ≠ [] := by
  induction u using Nat.strongRecOn with
  | _ u ih =>
    rw [Lib.decDigits, dif_neg (by omega)]
    by_cases h1 : u / 10 < 10
    · rw [Lib.decDigits, dif_pos h1]
      refine ⟨UInt8.ofNat (48 + u / 10), [UInt8.ofNat (48 + u % 10)], rfl, ?_, by simp⟩
      intro e
      have := congrArg UInt8.toNat e
      simp [UInt8.toNat_ofNat'] at this
      omega
    · obtain ⟨c, l, e, h2, h3⟩ := ih (u / 10) (by omega) (by omega)
      exact ⟨c, l ++ [UInt8.ofNat (48 + u % 10)], by rw [e]; rfl, h2, by simp⟩
end Go.Proofs.YtbhfbbfjdklfgaaGreatDoor.Q


namespace Go.Proofs.YtbhfbbfjdklfgaaGreatDoor.Q
open Go.RowKit Go.Proofs.YtbhfbbfjdklfgaaGreatDoorW.PrintWords Go.Proofs.YtbhfbbfjdklfgaaGreatDoorW.PrintLast Go.Proofs.YtbhfbbfjdklfgaaGreatDoorW.PrintMore
attribute [local go_sem] max2_int min2_int max_two min_two max_three min_three max_four min_four   -- for this text's walks alone

mutual
def graftageref16_Digits.j0 : Nat → ByteArray → Bool → Option (Bool)
 | 0, _, _ => none
 | k + 1, x0, x21 => if x21 = true then (some false) else (graftageref16_Digits.l0 k x0 0)
def graftageref16_Digits.l0 : Nat → ByteArray → Int → Option (Bool)
 | 0, _, _ => none
 | k + 1, x0, x3 => if x3 < (x0.size : Int) then (if 0 ≤ x3 then (if (bt x0 x3) < 48 then (some false) else (if (bt x0 x3) > 57 then (some false) else (graftageref16_Digits.l0 k x0 (wrap64 (x3 + 1))))) else (none)) else (some true)
end

def graftageref16_Value.l0 : Nat → ByteArray → Int → Int → Option (Int)
 | 0, _, _, _ => none
 | k + 1, x0, x3, x4 => if x4 < (x0.size : Int) then (if 0 ≤ x4 then (graftageref16_Value.l0 k x0 (wrap64 ((wrap64 ((wrap64 (10 * x3)) + (wrap64 (bt x0 x4)))) - 48)) (wrap64 (x4 + 1))) else (none)) else (some x3)
def graftageref16_Value.f (k : Nat) (a0 : ByteArray) : Option (Int) := graftageref16_Value.l0 k a0 0 0

mutual
def graftageref16_zone.j0 : Nat → ByteArray → Bool → Option (Int × Bool)
 | 0, _, _ => none
 | k + 1, x0, x23 => if x23 = true then (some (0, false)) else (graftageref16_zone.l0 k x0 1)
def graftageref16_zone.l0 : Nat → ByteArray → Int → Option (Int × Bool)
 | 0, _, _ => none
 | k + 1, x0, x4 => if x4 < 5 then (if 0 ≤ x4 then (if x4 < (x0.size : Int) then (if (bt x0 x4) < 48 then (some (0, false)) else (if (bt x0 x4) > 57 then (some (0, false)) else (graftageref16_zone.l0 k x0 (wrap64 (x4 + 1))))) else (none)) else (none)) else (if 3 ≤ (x0.size : Int) then ((graftageref16_Value.f k (x0.extract 3 x0.size)).bind fun t163 => (if t163 ≥ 60 then (some (0, false)) else (if 1 ≤ 3 then ((graftageref16_Value.f k (x0.extract 1 3)).bind fun t164 => (if 0 < (x0.size : Int) then (if (bt x0 0) = 45 then (some (wrap64 (-(wrap64 ((wrap64 (60 * t164)) + t163))), true)) else (some (wrap64 ((wrap64 (60 * t164)) + t163), true))) else (none))) else (none)))) else (none))
end

end Go.Proofs.YtbhfbbfjdklfgaaGreatDoor.Q


/- Persons: what the printed functions compute, the program's and the reference's. -/
namespace Go.Proofs.YtbhfbbfjdklfgaaGreatDoor.Q
open Go.RowKit Go.Proofs.YtbhfbbfjdklfgaaGreatDoorW.PrintWords Go.Proofs.YtbhfbbfjdklfgaaGreatDoorW.PrintLast Go.Proofs.YtbhfbbfjdklfgaaGreatDoorW.PrintMore
theorem ev_ite {α : Type} {c : Prop} [Decidable c] {f g : Nat → Option α} {r : α} (h1 : c → Ev f r) (h2 : ¬ c → Ev g r) : Ev (fun k => if c then f k else g k) r := by
  by_cases h : c
  · exact Ev.congr (fun k => if_pos h) (h1 h)
  · exact Ev.congr (fun k => if_neg h) (h2 h)
theorem ev_yes {α : Type} {c : Prop} [Decidable c] {f g : Nat → Option α} {r : α} (h : c) (h1 : Ev f r) : Ev (fun k => if c then f k else g k) r := ev_ite (fun _ => h1) (fun h2 => absurd h h2)
theorem ev_no {α : Type} {c : Prop} [Decidable c] {f g : Nat → Option α} {r : α} (h : ¬ c) (h1 : Ev g r) : Ev (fun k => if c then f k else g k) r := ev_ite (fun h2 => absurd h2 h) (fun _ => h1)
theorem ev_eq {α : Type} {f : Nat → Option α} {r q : α} (h : Ev f q) (e : q = r) : Ev f r := e ▸ h
theorem sfx_at {s : ByteArray} {i : Nat} {c : UInt8} {t : List UInt8} (h : s.data.toList.drop i = c :: t) : i < s.size ∧ bt s (i : Int) = (c.toNat : Int) ∧ s.data.toList.drop (i + 1) = t := by
  have hlt : i < s.data.toList.length := by
    rcases Nat.lt_or_ge i s.data.toList.length with h1 | h1
    · exact h1
    · rw [List.drop_eq_nil_of_le h1] at h; cases h
  have hs : i < s.size := by rw [← size_of]; exact hlt
  rw [List.drop_eq_getElem_cons hlt] at h
  obtain ⟨h1, h2⟩ := List.cons.inj h
  refine ⟨hs, ?_, h2⟩
  rw [bt_get s i hs, h1]
theorem sfx_end {s : ByteArray} {i : Nat} (h : s.data.toList.drop i = []) : s.size ≤ i := by
  rw [← size_of]; simpa [List.drop_eq_nil_iff] using h
theorem ext_data (s : ByteArray) (i j : Nat) : (s.extract i j).data.toList = (s.data.toList.drop i).take (j - i) := by
  rw [ByteArray.data_extract, Array.toList_extract, List.extract_eq_drop_take', List.drop_take]
theorem ext_mk (s : ByteArray) (i j : Nat) : s.extract i j = mk ((s.data.toList.drop i).take (j - i)) := ba_ext (by rw [ext_data, mk_data])
def okU (c : UInt8) : Bool := decide (32 ≤ c.toNat) && (!(decide (c.toNat = 60)) && !(decide (c.toNat = 62)))
def edge (s : ByteArray) : Bool := decide (s.size < 1) || (decide (64 < s.size) || (decide (bt s 0 = 32) || decide (bt s ((s.size : Int) - 1) = 32)))
def namedB (s : ByteArray) : Bool := !edge s && s.data.toList.all okU
theorem okU_all {c : UInt8} {t : List UInt8} : (c :: t).all okU = (okU c && t.all okU) := rfl
theorem named_l0 (s : ByteArray) (hs : s.size ≤ 140737488351232) : ∀ (t : List UInt8) (i : Nat), s.data.toList.drop i = t → Ev (fun k => commit_named.l0 k s (s.size : Int) i) (t.all okU)
  | [], i, h => by
    have := sfx_end h
    exact Ev.step (f := ?_) (fun k => by rw [commit_named.l0, if_neg (by omega)]) (Ev.now _)
  | c :: t, i, h => by
    obtain ⟨hlt, hb, ht⟩ := sfx_at h
    have e1 : wrap64 ((i : Int) + 1) = ((i + 1 : Nat) : Int) := by rw [wrap_id (by omega) (by omega)]; omega
    refine Ev.step (f := ?_) (fun k => by rw [commit_named.l0, if_pos (by omega), if_pos (by omega), if_pos (by omega), hb, e1]) ?_
    rw [okU_all]
    refine ev_ite (fun g => ev_eq (Ev.now _) ?_) (fun g => ?_)
    · unfold okU; rw [decide_eq_false (by omega)]; rfl
    refine ev_ite (fun g2 => ev_eq (Ev.now _) ?_) (fun g2 => ?_)
    · unfold okU; rw [decide_eq_true (show c.toNat = 60 by omega)]; simp
    refine ev_ite (fun g3 => ev_eq (Ev.now _) ?_) (fun g3 => ?_)
    · unfold okU; rw [decide_eq_true (show c.toNat = 62 by omega)]; simp
    refine ev_eq (named_l0 s hs t (i + 1) ht) ?_
    unfold okU
    rw [decide_eq_true (show 32 ≤ c.toNat by omega), decide_eq_false (show ¬ c.toNat = 60 by omega), decide_eq_false (show ¬ c.toNat = 62 by omega)]; rfl
theorem refNamed_l0 (s : ByteArray) (hs : s.size ≤ 140737488351232) : ∀ (t : List UInt8) (i : Nat), s.data.toList.drop i = t → Ev (fun k => graftageref16_named.l0 k s i) (t.all okU)
  | [], i, h => by
    have := sfx_end h
    exact Ev.step (f := ?_) (fun k => by rw [graftageref16_named.l0, if_neg (by omega)]) (Ev.now _)
  | c :: t, i, h => by
    obtain ⟨hlt, hb, ht⟩ := sfx_at h
    have e1 : wrap64 ((i : Int) + 1) = ((i + 1 : Nat) : Int) := by rw [wrap_id (by omega) (by omega)]; omega
    refine Ev.step (f := ?_) (fun k => by rw [graftageref16_named.l0, if_pos (by omega), if_pos (by omega), hb, e1]) ?_
    rw [okU_all]
    refine ev_ite (fun g => ev_eq (Ev.now _) ?_) (fun g => ?_)
    · unfold okU; rw [decide_eq_false (by omega)]; rfl
    refine ev_ite (fun g2 => ev_eq (Ev.now _) ?_) (fun g2 => ?_)
    · unfold okU; rw [decide_eq_true (show c.toNat = 60 by omega)]; simp
    refine ev_ite (fun g3 => ev_eq (Ev.now _) ?_) (fun g3 => ?_)
    · unfold okU; rw [decide_eq_true (show c.toNat = 62 by omega)]; simp
    refine ev_eq (refNamed_l0 s hs t (i + 1) ht) ?_
    unfold okU
    rw [decide_eq_true (show 32 ≤ c.toNat by omega), decide_eq_false (show ¬ c.toNat = 60 by omega), decide_eq_false (show ¬ c.toNat = 62 by omega)]; rfl
theorem named_ev (s : ByteArray) (hs : s.size ≤ 140737488351232) : Ev (fun k => commit_named.f k s) (namedB s) := by
  have hT : edge s = true → Ev (fun k => commit_named.j0 k s true) (namedB s) := fun h => by
    unfold namedB; rw [h]
    exact Ev.step (f := ?_) (fun k => by rw [commit_named.j0, if_pos rfl]) (Ev.now _)
  unfold edge at hT
  refine ev_ite (fun g => hT (by rw [decide_eq_true (by omega)]; rfl)) (fun g => ?_)
  refine ev_ite (fun g2 => hT (by rw [decide_eq_true (show 64 < s.size by omega)]; simp)) (fun g2 => ?_)
  refine ev_yes (by omega) (ev_ite (fun g3 => hT (by rw [decide_eq_true g3]; simp)) (fun g3 => ?_))
  have e1 : wrap64 ((s.size : Int) - 1) = (s.size : Int) - 1 := wrap_id (by omega) (by omega)
  rw [e1]
  refine ev_yes (by omega) (ev_yes (by omega) ?_)
  by_cases g4 : bt s ((s.size : Int) - 1) = 32
  · rw [show (bt s ((s.size : Int) - 1) == 32) = true by simpa using g4]
    exact hT (by rw [decide_eq_true g4]; simp)
  · rw [show (bt s ((s.size : Int) - 1) == 32) = false by simpa using g4]
    refine Ev.step (f := ?_) (fun k => by rw [commit_named.j0, if_neg (by decide)]) ?_
    have he : edge s = false := by
      unfold edge
      rw [decide_eq_false (show ¬ s.size < 1 by omega), decide_eq_false (show ¬ 64 < s.size by omega), decide_eq_false g3, decide_eq_false g4]; rfl
    unfold namedB
    rw [he]
    have := named_l0 s hs s.data.toList 0 rfl
    exact_mod_cast this
theorem refNamed_ev (s : ByteArray) (hs : s.size ≤ 140737488351232) : Ev (fun k => graftageref16_named.f k s) (namedB s) := by
  have hT : edge s = true → Ev (fun k => graftageref16_named.j0 k s true) (namedB s) := fun h => by
    unfold namedB; rw [h]
    exact Ev.step (f := ?_) (fun k => by rw [graftageref16_named.j0, if_pos rfl]) (Ev.now _)
  unfold edge at hT
  refine ev_ite (fun g => hT (by rw [decide_eq_true (by omega)]; rfl)) (fun g => ?_)
  refine ev_ite (fun g2 => hT (by rw [decide_eq_true (show 64 < s.size by omega)]; simp)) (fun g2 => ?_)
  refine ev_yes (by omega) (ev_ite (fun g3 => hT (by rw [decide_eq_true g3]; simp)) (fun g3 => ?_))
  have e1 : wrap64 ((s.size : Int) - 1) = (s.size : Int) - 1 := wrap_id (by omega) (by omega)
  rw [e1]
  refine ev_yes (by omega) (ev_yes (by omega) ?_)
  by_cases g4 : bt s ((s.size : Int) - 1) = 32
  · rw [show (bt s ((s.size : Int) - 1) == 32) = true by simpa using g4]
    exact hT (by rw [decide_eq_true g4]; simp)
  · rw [show (bt s ((s.size : Int) - 1) == 32) = false by simpa using g4]
    refine Ev.step (f := ?_) (fun k => by rw [graftageref16_named.j0, if_neg (by decide)]) ?_
    have he : edge s = false := by
      unfold edge
      rw [decide_eq_false (show ¬ s.size < 1 by omega), decide_eq_false (show ¬ 64 < s.size by omega), decide_eq_false g3, decide_eq_false g4]; rfl
    unfold namedB
    rw [he]
    have := refNamed_l0 s hs s.data.toList 0 rfl
    exact_mod_cast this
def personB (n m : ByteArray) (t z : Int) : Bool := namedB n && (namedB m && (decide (0 ≤ t) && (decide (t ≤ 1099511627776) && (decide (-840 ≤ z) && decide (z ≤ 840)))))
theorem somebody_ev (n m : ByteArray) (t z : Int) (hn : n.size ≤ 140737488351232) (hm : m.size ≤ 140737488351232) : Ev (fun k => commit_somebody.f k n m t z) (personB n m t z) := by
  unfold personB
  refine Ev.bind (named_ev n hn) (ev_ite (fun g => ?_) (fun g => ev_eq (Ev.now _) ?_))
  · rw [g, Bool.true_and]
    refine Ev.bind (named_ev m hm) (ev_ite (fun g => ?_) (fun g => ev_eq (Ev.now _) ?_))
    · rw [g, Bool.true_and]
      refine ev_ite (fun g1 => ?_) (fun g1 => ev_eq (Ev.now _) (by rw [decide_eq_false (by omega)]; rfl))
      refine ev_ite (fun g2 => ?_) (fun g2 => ev_eq (Ev.now _) (by rw [decide_eq_false (show ¬ t ≤ 1099511627776 by omega)]; simp))
      refine ev_ite (fun g3 => ?_) (fun g3 => ev_eq (Ev.now _) (by rw [decide_eq_false (show ¬ -840 ≤ z by omega)]; simp))
      refine ev_eq (Ev.now _) ?_
      rw [decide_eq_true (show 0 ≤ t by omega), decide_eq_true g2, decide_eq_true (show -840 ≤ z by omega)]; rfl
    · rw [Bool.not_eq_true] at g; rw [g]; rfl
  · rw [Bool.not_eq_true] at g; rw [g]; rfl
theorem Person_ev (n m : ByteArray) (t z : Int) (hn : n.size ≤ 140737488351232) (hm : m.size ≤ 140737488351232) : Ev (fun k => graftageref16_Person.f k n m t z) (personB n m t z) := by
  unfold personB
  refine Ev.bind (refNamed_ev n hn) (ev_ite (fun g => ?_) (fun g => ev_eq (Ev.now _) ?_))
  · rw [g, Bool.true_and]
    refine Ev.bind (refNamed_ev m hm) (ev_ite (fun g => ?_) (fun g => ev_eq (Ev.now _) ?_))
    · rw [g, Bool.true_and]
      refine ev_ite (fun g1 => ?_) (fun g1 => ev_eq (Ev.now _) (by rw [decide_eq_false (by omega)]; rfl))
      refine ev_ite (fun g2 => ?_) (fun g2 => ev_eq (Ev.now _) (by rw [decide_eq_false (show ¬ t ≤ 1099511627776 by omega)]; simp))
      refine ev_ite (fun g3 => ?_) (fun g3 => ev_eq (Ev.now _) (by rw [decide_eq_false (show ¬ -840 ≤ z by omega)]; simp))
      refine ev_eq (Ev.now _) ?_
      rw [decide_eq_true (show 0 ≤ t by omega), decide_eq_true g2, decide_eq_true (show -840 ≤ z by omega)]; rfl
    · rw [Bool.not_eq_true] at g; rw [g]; rfl
  · rw [Bool.not_eq_true] at g; rw [g]; rfl
def offD (s : ByteArray) : Bool := decide (s.size < 1) || (decide (18 < s.size) || (decide (1 < s.size) && decide (bt s 0 = 48)))
def digOk (s : ByteArray) : Bool := !offD s && s.data.toList.all isDig
def valI (s : ByteArray) : Int := ((valN 0 s.data.toList : Nat) : Int)
theorem isDig_all {c : UInt8} {t : List UInt8} : (c :: t).all isDig = (isDig c && t.all isDig) := rfl
theorem Atoi_eq (s : ByteArray) (h0 : 1 ≤ s.size) (h1 : s.size ≤ 18) (h : s.data.toList.all isDig = true) : strconv_Atoi.f s = some (valI s, none) := by
  unfold strconv_Atoi.f
  rw [if_pos h1, atoi_val (fun e => by have := size_of s; rw [e] at this; simp at this; omega) h]
  rfl
theorem wdigits_l0 (s : ByteArray) (h0 : 1 ≤ s.size) (h1 : s.size ≤ 18) : ∀ (t : List UInt8) (i : Nat), s.data.toList.drop i = t → (s.data.toList.take i).all isDig = true → Ev (fun k => commit_digits.l0 k s (s.size : Int) i) (if t.all isDig = true then (valI s, true) else (0, false))
  | [], i, h, hp => by
    have hi := sfx_end h
    have ha : s.data.toList.all isDig = true := by rwa [List.take_of_length_le (by rw [size_of]; exact hi)] at hp
    refine Ev.step (f := ?_) (fun k => by rw [commit_digits.l0, if_neg (by omega), Atoi_eq s h0 h1 ha]) (ev_eq (Ev.now _) ?_)
    rfl
  | c :: t, i, h, hp => by
    obtain ⟨hlt, hb, ht⟩ := sfx_at h
    have e1 : wrap64 ((i : Int) + 1) = ((i + 1 : Nat) : Int) := by rw [wrap_id (by omega) (by omega)]; omega
    refine Ev.step (f := ?_) (fun k => by rw [commit_digits.l0, if_pos (by omega), if_pos (by omega), if_pos (by omega), hb, e1]) ?_
    rw [isDig_all]
    refine ev_ite (fun g => ev_eq (Ev.now _) ?_) (fun g => ?_)
    · unfold isDig; rw [decide_eq_false (by omega)]; rfl
    refine ev_ite (fun g2 => ev_eq (Ev.now _) ?_) (fun g2 => ?_)
    · unfold isDig; rw [decide_eq_false (show ¬ c.toNat ≤ 57 by omega)]; simp
    have hc : isDig c = true := by unfold isDig; rw [decide_eq_true (show 48 ≤ c.toNat by omega), decide_eq_true (show c.toNat ≤ 57 by omega)]; rfl
    have hp2 : (s.data.toList.take (i + 1)).all isDig = true := by
      have hl : i < s.data.toList.length := by rw [size_of]; exact hlt
      rw [List.take_succ_eq_append_getElem hl, List.all_append, hp, Bool.true_and]
      rw [List.drop_eq_getElem_cons hl] at h
      rw [(List.cons.inj h).1]
      simp [hc]
    rw [hc, Bool.true_and]
    exact wdigits_l0 s h0 h1 t (i + 1) ht hp2
theorem digits_ev (s : ByteArray) (hs : s.size ≤ 140737488351232) : Ev (fun k => commit_digits.f k s 18) (if digOk s = true then (valI s, true) else (0, false)) := by
  have hT : offD s = true → Ev (fun k => commit_digits.j0 k s true) (if digOk s = true then (valI s, true) else (0, false)) := fun h => by
    unfold digOk; rw [h]
    exact Ev.step (f := ?_) (fun k => by rw [commit_digits.j0, if_pos rfl]) (Ev.now _)
  have hF : offD s = false → 1 ≤ s.size → s.size ≤ 18 → Ev (fun k => commit_digits.j0 k s false) (if digOk s = true then (valI s, true) else (0, false)) := fun h h0 h1 => by
    unfold digOk; rw [h]
    refine Ev.step (f := ?_) (fun k => by rw [commit_digits.j0, if_neg (by decide)]) ?_
    have := wdigits_l0 s h0 h1 s.data.toList 0 rfl rfl
    exact_mod_cast this
  unfold offD at hT hF
  refine ev_ite (fun g => hT (by rw [decide_eq_true (by omega)]; rfl)) (fun g => ?_)
  refine ev_ite (fun g2 => hT (by rw [decide_eq_true (show 18 < s.size by omega)]; simp)) (fun g2 => ?_)
  rw [decide_eq_false (show ¬ s.size < 1 by omega), decide_eq_false (show ¬ 18 < s.size by omega)] at hF
  refine ev_ite (fun g3 => ev_yes (by omega) ?_) (fun g3 => hF (by rw [decide_eq_false (show ¬ 1 < s.size by omega)]; rfl) (by omega) (by omega))
  rw [decide_eq_true (show 1 < s.size by omega)] at hT hF
  by_cases g4 : bt s 0 = 48
  · rw [show (bt s 0 == 48) = true by simpa using g4]; exact hT (by rw [decide_eq_true g4]; simp)
  · rw [show (bt s 0 == 48) = false by simpa using g4]; exact hF (by rw [decide_eq_false g4]; rfl) (by omega) (by omega)
def zoneB (s : ByteArray) : Int × Bool :=
  if s.size = 5 ∧ (bt s 0 = 43 ∨ bt s 0 = 45) ∧ s.data.toList ≠ [45, 48, 48, 48, 48] ∧ (s.data.toList.drop 1).all isDig = true then
    (if 60 ≤ valI (s.extract 3 s.size) then (0, false) else if bt s 0 = 45 then (-60 * valI (s.extract 1 3) - valI (s.extract 3 s.size), true) else (60 * valI (s.extract 1 3) + valI (s.extract 3 s.size), true))
  else (0, false)
theorem all_drop1 {s : ByteArray} (h5 : s.size = 5) (h : (s.data.toList.drop 1).all isDig = true) : (s.extract 1 3).data.toList.all isDig = true ∧ (s.extract 3 s.size).data.toList.all isDig = true ∧ (s.extract 1 3).size = 2 ∧ (s.extract 3 s.size).size = 2 := by
  rw [ext_data, ext_data]
  refine ⟨?_, ?_, ?_, ?_⟩
  · rw [List.all_eq_true] at h ⊢
    exact fun x hx => h x (List.mem_of_mem_take hx)
  · rw [List.all_eq_true] at h ⊢
    intro x hx
    have := List.mem_of_mem_take hx
    exact h x (by rw [show (3 : Nat) = 1 + 2 by rfl, ← List.drop_drop] at this; exact List.mem_of_mem_drop this)
  · rw [← size_of, ext_data, List.length_take, List.length_drop, size_of]; omega
  · rw [← size_of, ext_data, List.length_take, List.length_drop, size_of]; omega
theorem val_two {s : ByteArray} (h2 : s.size = 2) (h : s.data.toList.all isDig = true) : 0 ≤ valI s ∧ valI s < 100 := by
  have := valN_lt s.data.toList 0 0 h (by decide)
  rw [size_of, h2] at this
  unfold valI
  omega
theorem zone_l0 (s : ByteArray) (h5 : s.size = 5) : ∀ (t : List UInt8) (i : Nat), 1 ≤ i → s.data.toList.drop i = t → ((s.data.toList.drop 1).take (i - 1)).all isDig = true → Ev (fun k => commit_zone.l0 k s i) (if t.all isDig = true then (if 60 ≤ valI (s.extract 3 s.size) then (0, false) else if bt s 0 = 45 then (-60 * valI (s.extract 1 3) - valI (s.extract 3 s.size), true) else (60 * valI (s.extract 1 3) + valI (s.extract 3 s.size), true)) else (0, false))
  | [], i, h1, h, hp => by
    have hi := sfx_end h
    have ha : (s.data.toList.drop 1).all isDig = true := by
      rwa [List.take_of_length_le (by rw [List.length_drop, size_of]; omega)] at hp
    obtain ⟨a1, a2, a3, a4⟩ := all_drop1 h5 ha
    obtain ⟨b1, b2⟩ := val_two a3 a1
    obtain ⟨b3, b4⟩ := val_two a4 a2
    refine Ev.step (f := ?_) (fun k => by rw [commit_zone.l0, if_neg (by omega), if_pos (by omega), if_pos (by omega), Atoi_eq _ (by omega) (by omega) a1, Atoi_eq _ (by omega) (by omega) a2, Option.bind_some, Option.bind_some]) ?_
    change Ev _ (if 60 ≤ valI (s.extract 3 s.size) then (0, false) else if bt s 0 = 45 then (-60 * valI (s.extract 1 3) - valI (s.extract 3 s.size), true) else (60 * valI (s.extract 1 3) + valI (s.extract 3 s.size), true))
    refine ev_ite (fun g => ev_eq (Ev.now _) (by rw [if_pos g])) (fun g => ?_)
    rw [if_neg g]
    refine ev_yes (by omega) (ev_ite (fun g2 => ev_eq (Ev.now _) ?_) (fun g2 => ev_eq (Ev.now _) ?_))
    · rw [if_pos g2, wrap_id (x := -60 * valI (s.extract 1 3)) (by omega) (by omega), wrap_id (by omega) (by omega)]
    · rw [if_neg g2, wrap_id (x := 60 * valI (s.extract 1 3)) (by omega) (by omega), wrap_id (by omega) (by omega)]
  | c :: t, i, h1, h, hp => by
    obtain ⟨hlt, hb, ht⟩ := sfx_at h
    have e1 : wrap64 ((i : Int) + 1) = ((i + 1 : Nat) : Int) := by rw [wrap_id (by omega) (by omega)]; omega
    refine Ev.step (f := ?_) (fun k => by rw [commit_zone.l0, if_pos (by omega), if_pos (by omega), if_pos (by omega), hb, e1]) ?_
    rw [isDig_all]
    refine ev_ite (fun g => ev_eq (Ev.now _) ?_) (fun g => ?_)
    · unfold isDig; rw [decide_eq_false (by omega)]; rfl
    refine ev_ite (fun g2 => ev_eq (Ev.now _) ?_) (fun g2 => ?_)
    · unfold isDig; rw [decide_eq_false (show ¬ c.toNat ≤ 57 by omega)]; simp
    have hc : isDig c = true := by unfold isDig; rw [decide_eq_true (show 48 ≤ c.toNat by omega), decide_eq_true (show c.toNat ≤ 57 by omega)]; rfl
    rw [hc, Bool.true_and]
    refine zone_l0 s h5 t (i + 1) (by omega) ht ?_
    have hl : i - 1 < (s.data.toList.drop 1).length := by rw [List.length_drop, size_of]; omega
    rw [show i + 1 - 1 = i - 1 + 1 by omega, List.take_succ_eq_append_getElem hl, List.all_append, hp, Bool.true_and]
    have hl2 : i < s.data.toList.length := by rw [size_of]; exact hlt
    have e3 : (s.data.toList.drop 1)[i - 1] = c := by
      rw [List.getElem_drop]
      rw [List.drop_eq_getElem_cons hl2] at h
      rw [← (List.cons.inj h).1]
      congr 1; omega
    rw [e3]; simp [hc]
theorem toList_beq (s : ByteArray) (l : List UInt8) : (s.toList == l) = decide (s.data.toList = l) := by
  rw [ByteArray.toList_eq, Bool.eq_iff_iff]; simp
theorem zone_ev (s : ByteArray) : Ev (fun k => commit_zone.f k s) (zoneB s) := by
  have hT : ¬ (s.size = 5 ∧ (bt s 0 = 43 ∨ bt s 0 = 45) ∧ s.data.toList ≠ [45, 48, 48, 48, 48]) → Ev (fun k => commit_zone.j0 k s true) (zoneB s) := fun h => by
    unfold zoneB; rw [if_neg (fun e => h ⟨e.1, e.2.1, e.2.2.1⟩)]
    exact Ev.step (f := ?_) (fun k => by rw [commit_zone.j0, if_pos rfl]) (Ev.now _)
  have hF : s.size = 5 → (bt s 0 = 43 ∨ bt s 0 = 45) → Ev (fun k => commit_zone.j0 k s (decide (s.data.toList = [45, 48, 48, 48, 48]))) (zoneB s) := fun h1 h2 => by
    by_cases h3 : s.data.toList = [45, 48, 48, 48, 48]
    · rw [decide_eq_true h3]; exact hT (fun e => e.2.2 h3)
    · rw [decide_eq_false h3]
      refine Ev.step (f := ?_) (fun k => by rw [commit_zone.j0, if_neg (by decide)]) ?_
      refine ev_eq (zone_l0 s h1 _ 1 (by omega) rfl (by simp)) ?_
      unfold zoneB
      by_cases h4 : (s.data.toList.drop 1).all isDig = true
      · rw [if_pos h4]; exact (if_pos ⟨h1, h2, h3, h4⟩).symm
      · rw [if_neg h4]; exact (if_neg (fun e => h4 e.2.2.2)).symm
  unfold commit_zone.f
  rw [toList_beq]
  refine ev_ite (fun g => ev_yes (by omega) ?_) (fun g => hT (fun e => g (by omega)))
  refine ev_ite (fun g2 => hF (by omega) (.inl g2)) (fun g2 => ev_ite (fun g3 => hF (by omega) (.inr g3)) (fun g3 => hT (fun e => by rcases e.2.1 with h | h <;> contradiction)))
end Go.Proofs.YtbhfbbfjdklfgaaGreatDoor.Q


namespace Go.Proofs.YtbhfbbfjdklfgaaGreatDoor.Q
open Go.RowKit Go.Proofs.YtbhfbbfjdklfgaaGreatDoorW.PrintWords Go.Proofs.YtbhfbbfjdklfgaaGreatDoorW.PrintLast Go.Proofs.YtbhfbbfjdklfgaaGreatDoorW.PrintMore
attribute [local go_sem] max2_int min2_int max_two min_two max_three min_three max_four min_four   -- for this text's walks alone

def graftageref16_ParseWho.T10 : Bool × List (List Nat × List Nat) := (true, [([], []), ([], []), ([0, 1], [0, 1]), ([], []), ([], []), ([4], [4]), ([], []), ([3, 5, 6], [3, 5, 6]), ([2, 7], [2, 7]), ([], []), ([9, 8, 0, 1, 2, 3, 4, 5, 6, 7, 8, 9], [8, 9])])
def graftageref16_ParseWho.B10 : List Nat := [0, 0, 3, 0, 0, 16, 0, 120, 255, 0, 1023]
theorem graftageref16_ParseWho.tab10 : rtab .any (opsOf Tryz.f30 10) = graftageref16_ParseWho.T10 := by kernel_rfl
theorem graftageref16_ParseWho.bits10 : waitsOk graftageref16_ParseWho.T10.2 graftageref16_ParseWho.B10 = true := by kernel_rfl
end Go.Proofs.YtbhfbbfjdklfgaaGreatDoor.Q


/- Persons: the words of a person, and the person of words. -/
namespace Go.Proofs.YtbhfbbfjdklfgaaGreatDoor.Q
open Go.RowKit Go.Proofs.YtbhfbbfjdklfgaaGreatDoorW.PrintWords Go.Proofs.YtbhfbbfjdklfgaaGreatDoorW.PrintLast Go.Proofs.YtbhfbbfjdklfgaaGreatDoorW.PrintMore
theorem lit_mk (l : List UInt8) : (⟨l.toArray⟩ : ByteArray) = mk l := rfl
theorem size_app (a b : ByteArray) : (a ++ b).size = a.size + b.size := ByteArray.size_append
theorem dec_len (n : Nat) : ∀ u : Nat, u < 10 ^ (n + 1) → (Lib.decDigits u).length ≤ n + 1 := by
  induction n with
  | zero => intro u h; rw [Lib.decDigits, dif_pos (by omega)]; simp
  | succ n ih =>
    intro u h
    rw [Lib.decDigits]
    split
    · simp
    · rw [List.length_append, List.length_singleton]
      have := ih (u / 10) (by rw [Nat.pow_succ] at h; omega)
      omega
theorem itoa_len (t : Int) (h0 : -9223372036854775808 ≤ t) (h1 : t ≤ 9223372036854775807) : (Lib.itoa t).length ≤ 20 := by
  unfold Lib.itoa
  split
  · rw [List.length_cons]; have := dec_len 18 t.natAbs (by omega); omega
  · have := dec_len 18 t.toNat (by omega); omega
theorem Itoa_eq (t : Int) (h0 : -9223372036854775808 ≤ t) (h1 : t ≤ 9223372036854775807) : strconv_Itoa.f t = some (mk (Lib.itoa t)) := by
  unfold strconv_Itoa.f
  rw [if_pos h0, if_pos h1]; rfl
theorem itoa_nat (n : Nat) : Lib.itoa (n : Int) = Lib.decDigits n := by
  unfold Lib.itoa; rw [if_neg (by omega), Int.toNat_natCast]
theorem one_num (x : Int) (h0 : 0 ≤ x) (h1 : x < 10) : strOfNums [(wrap64 (48 + x)) % 256] = mk (Lib.decDigits x.toNat) := by
  rw [wrap_id (by omega) (by omega), Int.emod_eq_of_lt (by omega) (by omega), Lib.decDigits, dif_pos (by omega)]
  have := Go.Lib.Lz.strOfNums_map [UInt8.ofNat (48 + x.toNat)]
  rw [← lit_mk, ← this]
  congr 1
  simp [UInt8.toNat_ofNat']
  omega
theorem Num_l0 : ∀ (n : Nat) (out : ByteArray), (n : Int) ≤ 9223372036854775807 → ∀ d, out.size ≤ 1099511627776 - d → n < 10 ^ (d + 1) → d ≤ 20 → Ev (fun k => graftageref16_Num.l0 k (n : Int) out) (mk (Lib.decDigits n) ++ out) := by
  intro n
  induction n using Nat.strongRecOn with
  | _ n ih =>
    intro out hn d ho hd hd2
    by_cases h : (n : Int) ≥ 10
    · have hq : ∀ d : Nat, n < 10 ^ (d + 1 + 1) → n / 10 < 10 ^ (d + 1) := fun d hd => by
        have h2 : 10 ^ (d + 1 + 1) = 10 ^ (d + 1) * 10 := Nat.pow_succ ..
        generalize 10 ^ (d + 1) = q at h2 ⊢
        omega
      have e0 : (Int.tmod (n : Int) 10) = ((n % 10 : Nat) : Int) := by rw [Int.tmod_eq_emod_of_nonneg (by omega)]; omega
      have e1 : wrap64 (Int.tdiv (n : Int) 10) = ((n / 10 : Nat) : Int) := by rw [Int.tdiv_eq_ediv_of_nonneg (by omega), wrap_id (by omega) (by omega)]; omega
      have es : (strOfNums [(wrap64 (48 + ((n % 10 : Nat) : Int))) % 256]).size = 1 := by rw [one_num _ (by omega) (by omega), mk_size, Int.toNat_natCast, Lib.decDigits, dif_pos (by omega)]; rfl
      refine Ev.step (f := ?_) (fun k => by rw [graftageref16_Num.l0, if_pos h, e0, Option.bind_some, if_pos (by omega), e1]) ?_
      rw [one_num _ (by omega) (by omega), Int.toNat_natCast]
      cases d with
      | zero => omega
      | succ d =>
        have hl1 : (mk (Lib.decDigits (n % 10))).size = 1 := by
          rw [mk_size, Lib.decDigits.eq_def (n % 10), dif_pos (by omega)]; rfl
        have e2 : Lib.decDigits n = Lib.decDigits (n / 10) ++ Lib.decDigits (n % 10) := by
          rw [Lib.decDigits, dif_neg (by omega)]
          conv => rhs; rw [Lib.decDigits.eq_def (n % 10)]
          rw [dif_pos (by omega)]
        have := ih (n / 10) (by omega) (mk (Lib.decDigits (n % 10)) ++ out) (by omega) d (by rw [size_app, hl1]; omega) (hq d hd) (by omega)
        rw [e2, ← mk_app]
        refine ev_eq this ?_
        exact ba_ext (by simp only [append_data, List.append_assoc])
    · have es : (strOfNums [(wrap64 (48 + (n : Int))) % 256]).size = 1 := by rw [one_num _ (by omega) (by omega), mk_size, Int.toNat_natCast, Lib.decDigits, dif_pos (by omega)]; rfl
      refine Ev.step (f := ?_) (fun k => by rw [graftageref16_Num.l0, if_neg h, Option.bind_some, if_pos (by omega), one_num _ (by omega) (by omega), Int.toNat_natCast]) (Ev.now _)
theorem Num_ev (t : Int) (h0 : 0 ≤ t) (h1 : t ≤ 9223372036854775807) : Ev (fun k => graftageref16_Num.f k t) (mk (Lib.itoa t)) := by
  have := Num_l0 t.toNat ⟨#[]⟩ (by omega) 19 (by decide) (by omega) (by omega)
  rw [show ((t.toNat : Nat) : Int) = t by omega] at this
  refine ev_eq this ?_
  rw [Lib.itoa, if_neg (by omega)]
  exact ba_ext (by rw [append_data]; simp)
def twoL (n : Nat) : List UInt8 := Lib.decDigits (n / 10 % 10) ++ Lib.decDigits (n % 10)
def tailL (t z : Int) : List UInt8 := Lib.itoa t ++ 32 :: (if z < 0 then 45 else 43) :: (twoL (z.natAbs / 60) ++ twoL (z.natAbs % 60))
def whoL (n m : List UInt8) (t z : Int) : List UInt8 := n ++ 32 :: 60 :: (m ++ 62 :: 32 :: tailL t z)
def whoB (n m : ByteArray) (t z : Int) : ByteArray := mk (whoL n.data.toList m.data.toList t z)
theorem two_len (n : Nat) : (twoL n).length = 2 := by
  unfold twoL
  rw [List.length_append, Lib.decDigits, dif_pos (by omega), Lib.decDigits, dif_pos (by omega)]; rfl
theorem Who1_eq (n : Nat) (h : (n : Int) ≤ 9223372036854775807) : commit_Who_1.f (n : Int) = some (mk (twoL n)) := by
  unfold commit_Who_1.f
  have e1 : (Int.tmod (wrap64 (Int.tdiv (n : Int) 10)) 10) = ((n / 10 % 10 : Nat) : Int) := by
    rw [Int.tdiv_eq_ediv_of_nonneg (by omega), wrap_id (by omega) (by omega), Int.tmod_eq_emod_of_nonneg (by omega)]; omega
  have e2 : (Int.tmod (n : Int) 10) = ((n % 10 : Nat) : Int) := by rw [Int.tmod_eq_emod_of_nonneg (by omega)]; omega
  rw [e1, e2, Itoa_eq _ (by omega) (by omega), Itoa_eq _ (by omega) (by omega), Option.bind_some, Option.bind_some, itoa_nat, itoa_nat]
  have l1 : (mk (Lib.decDigits (n / 10 % 10))).size = 1 := by rw [mk_size, Lib.decDigits, dif_pos (by omega)]; rfl
  have l2 : (mk (Lib.decDigits (n % 10))).size = 1 := by rw [mk_size, Lib.decDigits, dif_pos (by omega)]; rfl
  rw [if_pos (by omega), mk_app]; rfl
theorem Who_eq (n m : ByteArray) (t z : Int) (hn : n.size ≤ 140737488351232) (hm : m.size ≤ 140737488351232) (h0 : -9223372036854775808 ≤ t) (h1 : t ≤ 9223372036854775807) (hz0 : -9223372036854775808 < z) (hz1 : z ≤ 9223372036854775807) : commit_Who.f n m t z = some (whoB n m t z) := by
  have hl := itoa_len t h0 h1
  have hl1 := two_len (z.natAbs / 60)
  have hl2 := two_len (z.natAbs % 60)
  have s1 : (mk (Lib.itoa t)).size ≤ 20 := by rw [mk_size]; exact hl
  have s2 : (mk (twoL (z.natAbs / 60))).size = 2 := by rw [mk_size]; exact hl1
  have s3 : (mk (twoL (z.natAbs % 60))).size = 2 := by rw [mk_size]; exact hl2
  have c2 : (⟨#[32, 60]⟩ : ByteArray).size = 2 := rfl
  have c3 : (⟨#[62, 32]⟩ : ByteArray).size = 2 := rfl
  have c4 : (⟨#[32]⟩ : ByteArray).size = 1 := rfl
  have c5 : (⟨#[45]⟩ : ByteArray).size = 1 := rfl
  have c6 : (⟨#[43]⟩ : ByteArray).size = 1 := rfl
  unfold commit_Who.f
  rw [Itoa_eq t h0 h1]
  by_cases h : z < 0
  · have e1 : wrap64 (Int.tdiv (wrap64 (-z)) 60) = ((z.natAbs / 60 : Nat) : Int) := by
      rw [wrap_id (x := -z) (by omega) (by omega), Int.tdiv_eq_ediv_of_nonneg (by omega), wrap_id (by omega) (by omega)]; omega
    have e2 : Int.tmod (wrap64 (-z)) 60 = ((z.natAbs % 60 : Nat) : Int) := by
      rw [wrap_id (x := -z) (by omega) (by omega), Int.tmod_eq_emod_of_nonneg (by omega)]; omega
    rw [if_pos h, if_pos (by omega), if_pos (by simp only [size_app]; omega), if_pos (by simp only [size_app]; omega), Option.bind_some, if_pos (by simp only [size_app]; omega), if_pos (by simp only [size_app]; omega), if_pos (by simp only [size_app]; omega), e1, e2, Who1_eq _ (by omega), Who1_eq _ (by omega), Option.bind_some, if_pos (by simp only [size_app]; omega), Option.bind_some, if_pos (by simp only [size_app]; omega)]
    congr 1
    refine ba_ext ?_
    unfold whoB whoL tailL
    rw [if_pos h]
    simp only [append_data, mk_data, List.append_assoc, List.cons_append, List.nil_append]
    try simp
  · have e1 : wrap64 (Int.tdiv z 60) = ((z.natAbs / 60 : Nat) : Int) := by
      rw [Int.tdiv_eq_ediv_of_nonneg (by omega), wrap_id (by omega) (by omega)]; omega
    have e2 : Int.tmod z 60 = ((z.natAbs % 60 : Nat) : Int) := by
      rw [Int.tmod_eq_emod_of_nonneg (by omega)]; omega
    rw [if_neg h, if_pos (by omega), if_pos (by simp only [size_app]; omega), if_pos (by simp only [size_app]; omega), Option.bind_some, if_pos (by simp only [size_app]; omega), if_pos (by simp only [size_app]; omega), if_pos (by simp only [size_app]; omega), e1, e2, Who1_eq _ (by omega), Who1_eq _ (by omega), Option.bind_some, if_pos (by simp only [size_app]; omega), Option.bind_some, if_pos (by simp only [size_app]; omega)]
    congr 1
    refine ba_ext ?_
    unfold whoB whoL tailL
    rw [if_neg h]
    simp only [append_data, mk_data, List.append_assoc, List.cons_append, List.nil_append]
    try simp
theorem four_num (u : Nat) (h : u ≤ 840) : strOfNums [(wrap64 (48 + (wrap64 (Int.tdiv (u : Int) 600)))) % 256, (wrap64 (48 + (Int.tmod (wrap64 (Int.tdiv (u : Int) 60)) 10))) % 256, (wrap64 (48 + (wrap64 (Int.tdiv (Int.tmod (u : Int) 60) 10)))) % 256, (wrap64 (48 + (Int.tmod (u : Int) 10))) % 256] = mk (twoL (u / 60) ++ twoL (u % 60)) := by
  have a1 : wrap64 (Int.tdiv (u : Int) 600) = ((u / 600 : Nat) : Int) := by rw [Int.tdiv_eq_ediv_of_nonneg (by omega), wrap_id (by omega) (by omega)]; omega
  have a2 : Int.tmod (wrap64 (Int.tdiv (u : Int) 60)) 10 = ((u / 60 % 10 : Nat) : Int) := by rw [Int.tdiv_eq_ediv_of_nonneg (by omega), wrap_id (by omega) (by omega), Int.tmod_eq_emod_of_nonneg (by omega)]; omega
  have a3 : wrap64 (Int.tdiv (Int.tmod (u : Int) 60) 10) = ((u % 60 / 10 : Nat) : Int) := by rw [Int.tmod_eq_emod_of_nonneg (by omega), Int.tdiv_eq_ediv_of_nonneg (by omega), wrap_id (by omega) (by omega)]; omega
  have a4 : Int.tmod (u : Int) 10 = ((u % 10 : Nat) : Int) := by rw [Int.tmod_eq_emod_of_nonneg (by omega)]; omega
  have w : ∀ q : Nat, q < 10 → (wrap64 (48 + (q : Int))) % 256 = ((UInt8.ofNat (48 + q)).toNat : Int) := by
    intro q hq
    rw [wrap_id (by omega) (by omega), Int.emod_eq_of_lt (by omega) (by omega), UInt8.toNat_ofNat']
    omega
  rw [a1, a2, a3, a4, w _ (by omega), w _ (by omega), w _ (by omega), w _ (by omega)]
  have := Go.Lib.Lz.strOfNums_map [UInt8.ofNat (48 + u / 600), UInt8.ofNat (48 + u / 60 % 10), UInt8.ofNat (48 + u % 60 / 10), UInt8.ofNat (48 + u % 10)]
  simp only [List.map_cons, List.map_nil] at this
  rw [this, lit_mk]
  congr 1
  unfold twoL
  rw [show u / 60 / 10 % 10 = u / 600 by omega, show u % 60 / 10 % 10 = u % 60 / 10 by omega, show u % 60 % 10 = u % 10 by omega]
  rw [Lib.decDigits.eq_def (u / 600), dif_pos (by omega), Lib.decDigits.eq_def (u / 60 % 10), dif_pos (by omega), Lib.decDigits.eq_def (u % 60 / 10), dif_pos (by omega), Lib.decDigits.eq_def (u % 10), dif_pos (by omega)]
  rfl
theorem refWho_ev (n m : ByteArray) (t z : Int) (hn : n.size ≤ 140737488351232) (hm : m.size ≤ 140737488351232) (h0 : 0 ≤ t) (h1 : t ≤ 9223372036854775807) (hz0 : -840 ≤ z) (hz1 : z ≤ 840) : Ev (fun k => graftageref16_Who.f k n m t z) (whoB n m t z) := by
  have hl := itoa_len t (by omega) h1
  have s1 : (mk (Lib.itoa t)).size ≤ 20 := by rw [mk_size]; exact hl
  have s2 : (mk (twoL (z.natAbs / 60) ++ twoL (z.natAbs % 60))).size = 4 := by rw [mk_size, List.length_append, two_len, two_len]
  have c2 : (⟨#[32, 60]⟩ : ByteArray).size = 2 := rfl
  have c3 : (⟨#[62, 32]⟩ : ByteArray).size = 2 := rfl
  have c4 : (⟨#[32]⟩ : ByteArray).size = 1 := rfl
  have c5 : (⟨#[45]⟩ : ByteArray).size = 1 := rfl
  have c6 : (⟨#[43]⟩ : ByteArray).size = 1 := rfl
  unfold graftageref16_Who.f
  by_cases h : z < 0
  · simp only [if_pos h, Option.bind_some]
    rw [wrap_id (x := -z) (by omega) (by omega), show -z = ((z.natAbs : Nat) : Int) by omega, four_num z.natAbs (by omega)]
    refine ev_yes (by omega) (ev_yes (by simp only [size_app]; omega) (ev_yes (by simp only [size_app]; omega) (Ev.bind (Num_ev t h0 h1) ?_)))
    refine ev_yes (by simp only [size_app]; omega) (ev_yes (by simp only [size_app]; omega) (ev_yes (by simp only [size_app]; omega) (ev_yes (by simp only [size_app]; omega) (ev_eq (Ev.now _) ?_))))
    refine ba_ext ?_
    unfold whoB whoL tailL
    rw [if_pos h]
    simp only [append_data, mk_data, List.append_assoc, List.cons_append, List.nil_append]
    try simp
  · simp only [if_neg h, Option.bind_some]
    rw [show z = ((z.natAbs : Nat) : Int) by omega, four_num z.natAbs (by omega)]
    refine ev_yes (by omega) (ev_yes (by simp only [size_app]; omega) (ev_yes (by simp only [size_app]; omega) (Ev.bind (Num_ev t h0 h1) ?_)))
    refine ev_yes (by simp only [size_app]; omega) (ev_yes (by simp only [size_app]; omega) (ev_yes (by simp only [size_app]; omega) (ev_yes (by simp only [size_app]; omega) (ev_eq (Ev.now _) ?_))))
    refine ba_ext ?_
    unfold whoB whoL tailL
    rw [if_neg (by omega)]
    simp only [append_data, mk_data, List.append_assoc, List.cons_append, List.nil_append]
    try simp
end Go.Proofs.YtbhfbbfjdklfgaaGreatDoor.Q


/- Persons: the person of words, told alike by the program and the reference. -/
namespace Go.Proofs.YtbhfbbfjdklfgaaGreatDoor.Q
open Go.RowKit Go.Proofs.YtbhfbbfjdklfgaaGreatDoorW.PrintWords Go.Proofs.YtbhfbbfjdklfgaaGreatDoorW.PrintLast Go.Proofs.YtbhfbbfjdklfgaaGreatDoorW.PrintMore
theorem Cut_eq (s t : ByteArray) (hs : s.size < 4294967281) : strings_Cut.f s t = some (mk (Lib.cut s.data.toList t.data.toList).1, mk (Lib.cut s.data.toList t.data.toList).2.1, (Lib.cut s.data.toList t.data.toList).2.2) := by
  unfold strings_Cut.f; rw [if_pos hs]; rfl
theorem cut_len (l s : List UInt8) : (Lib.cut l s).1.length + (Lib.cut l s).2.1.length ≤ l.length := by
  by_cases h : 0 ≤ Lib.index l s
  · rw [cut_of h]; simp only [List.length_take, List.length_drop]; omega
  · rw [cut_no h]; simp
theorem contains_iff : ∀ l : List UInt8, Lib.containsAny l [60, 62] = true ↔ (60 ∈ l ∨ 62 ∈ l)
  | [] => by simp [Lib.containsAny, Lib.indexAny]
  | c :: l => by
    have ih := contains_iff l
    unfold Lib.containsAny at ih ⊢
    rw [decide_eq_true_iff] at ih ⊢
    rw [Lib.indexAny]
    by_cases h : ([60, 62] : List UInt8).contains c = true
    · rw [if_pos h]
      simp at h
      rcases h with rfl | rfl <;> simp
    · rw [if_neg h]
      have h60 : c ≠ 60 := by rintro rfl; simp at h
      have h62 : c ≠ 62 := by rintro rfl; simp at h
      have hge := Go.Lib.indexAny_ge [60, 62] l
      by_cases h1 : Lib.indexAny l [60, 62] = -1
      · rw [h1] at ih ⊢
        simp at ih ⊢
        exact ⟨⟨fun e => h60 e.symm, ih.1⟩, fun e => h62 e.symm, ih.2⟩
      · rw [if_neg (by simpa using h1)]
        have : 0 ≤ Lib.indexAny l [60, 62] := by omega
        have h2 := ih.1 this
        constructor
        · intro _; rcases h2 with h2 | h2 <;> simp [h2]
        · intro _; omega
theorem index_not (x : UInt8) : ∀ l : List UInt8, Lib.index l [x] = -1 ↔ x ∉ l
  | [] => by rw [Lib.index]; simp
  | c :: l => by
    by_cases h : c = x
    · subst h
      rw [index_cons_hit (by simp [List.isPrefixOf])]; simp
    · rw [index_cons_miss (by simp [List.isPrefixOf]; exact fun e => h e.symm)]
      have ih := index_not x l
      have hge := Lib.index_ge l [x]
      by_cases h1 : Lib.index l [x] = -1
      · rw [if_pos (by simpa using h1)]
        simp only [List.mem_cons, not_or, true_iff]
        exact ⟨fun e => h e.symm, ih.1 h1⟩
      · rw [if_neg (by simpa using h1)]
        constructor
        · intro h2; omega
        · intro h2; exact absurd (ih.2 (fun e => h2 (by simp [e]))) h1
def noA (l : List UInt8) : Prop := 60 ∉ l ∧ 62 ∉ l
instance (l : List UInt8) : Decidable (noA l) := by unfold noA; infer_instance
def finW (n m : ByteArray) (t z : Int) : ByteArray × ByteArray × Int × Int × Int := if personB n m t z = true then (n, m, t, z, 0) else (⟨#[]⟩, ⟨#[]⟩, 0, 0, 1)
def c1 (s : ByteArray) : List UInt8 × List UInt8 × Bool := Lib.cut s.data.toList [32, 60]
def c2 (s : ByteArray) : List UInt8 × List UInt8 × Bool := Lib.cut (c1 s).2.1 [62, 32]
def c3 (s : ByteArray) : List UInt8 × List UInt8 × Bool := Lib.cut (c2 s).2.1 [32]
def wOk (s : ByteArray) : Prop := (c1 s).2.2 = true ∧ (c2 s).2.2 = true ∧ (c3 s).2.2 = true ∧ digOk (mk (c3 s).1) = true ∧ (zoneB (mk (c3 s).2.1)).2 = true ∧ noA (c1 s).1 ∧ noA (c2 s).1
instance (s : ByteArray) : Decidable (wOk s) := by unfold wOk; infer_instance
def parseWhoB (s : ByteArray) : ByteArray × ByteArray × Int × Int × Int :=
  if wOk s then finW (mk (c1 s).1) (mk (c2 s).1) (valI (mk (c3 s).1)) (zoneB (mk (c3 s).2.1)).1 else (⟨#[]⟩, ⟨#[]⟩, 0, 0, 2)
theorem c_len (s : ByteArray) : (c1 s).1.length + (c1 s).2.1.length ≤ s.size ∧ (c2 s).1.length + (c2 s).2.1.length ≤ (c1 s).2.1.length ∧ (c3 s).1.length + (c3 s).2.1.length ≤ (c2 s).2.1.length := by
  have h1 := cut_len s.data.toList [32, 60]
  have h2 := cut_len (c1 s).2.1 [62, 32]
  have h3 := cut_len (c2 s).2.1 [32]
  rw [size_of] at h1
  exact ⟨h1, h2, h3⟩
theorem ParseWho_ev (s : ByteArray) (hs : s.size ≤ 4294967000) : Ev (fun k => commit_ParseWho.f k s) (parseWhoB s) := by
  obtain ⟨l1, l2, l3⟩ := c_len s
  have E1 : strings_Cut.f s ⟨#[32, 60]⟩ = some (mk (c1 s).1, mk (c1 s).2.1, (c1 s).2.2) := Cut_eq _ _ (by omega)
  have E2 : strings_Cut.f (mk (c1 s).2.1) ⟨#[62, 32]⟩ = some (mk (c2 s).1, mk (c2 s).2.1, (c2 s).2.2) := by
    rw [Cut_eq _ _ (by rw [mk_size]; omega), mk_data]; rfl
  have E3 : strings_Cut.f (mk (c2 s).2.1) ⟨#[32]⟩ = some (mk (c3 s).1, mk (c3 s).2.1, (c3 s).2.2) := by
    rw [Cut_eq _ _ (by rw [mk_size]; omega), mk_data]; rfl
  have bad : ¬ wOk s → ∀ (n m : ByteArray) (t z : Int), Ev (fun k => commit_ParseWho.j0 k n m t z true) (parseWhoB s) := fun h n m t z => by
    unfold parseWhoB; rw [if_neg h]
    exact Ev.step (f := ?_) (fun k => by rw [commit_ParseWho.j0, if_pos rfl]) (Ev.now _)
  unfold commit_ParseWho.f
  rw [E1]
  simp only [Option.bind_some]
  rw [E2]
  simp only [Option.bind_some]
  rw [E3]
  simp only [Option.bind_some]
  refine Ev.bind (digits_ev _ (by rw [mk_size]; omega)) (Ev.bind (zone_ev _) ?_)
  unfold wOk at bad
  refine ev_ite (fun g1 => ?_) (fun g1 => bad (fun e => g1 e.1) _ _ _ _)
  refine ev_ite (fun g2 => ?_) (fun g2 => bad (fun e => g2 e.2.1) _ _ _ _)
  refine ev_ite (fun g3 => ?_) (fun g3 => bad (fun e => g3 e.2.2.1) _ _ _ _)
  refine ev_ite (fun g4 => ?_) (fun g4 => bad (fun e => g4 (by rw [if_pos e.2.2.2.1])) _ _ _ _)
  have g4' : digOk (mk (c3 s).1) = true := by
    by_cases h : digOk (mk (c3 s).1) = true
    · exact h
    · rw [if_neg h] at g4; simp at g4
  rw [if_pos g4']
  refine ev_ite (fun g5 => ?_) (fun g5 => bad (fun e => g5 e.2.2.2.2.1) _ _ _ _)
  refine ev_yes (by rw [mk_size, mk_size]; omega) ?_
  have E4 : strings_ContainsAny.f (mk (c1 s).1 ++ mk (c2 s).1) ⟨#[60, 62]⟩ = some (Lib.containsAny ((c1 s).1 ++ (c2 s).1) [60, 62]) := by
    unfold strings_ContainsAny.f
    rw [if_pos (by rw [size_app, mk_size, mk_size]; omega), if_pos (by decide), if_pos (by decide), append_data, mk_data, mk_data]
  rw [E4]
  simp only [Option.bind_some]
  by_cases g6 : Lib.containsAny ((c1 s).1 ++ (c2 s).1) [60, 62] = true
  · rw [g6]
    refine bad (fun e => ?_) _ _ _ _
    rw [contains_iff, List.mem_append, List.mem_append] at g6
    obtain ⟨_, _, _, _, _, ⟨a, b⟩, c, d⟩ := e
    rcases g6 with (h | h) | (h | h) <;> contradiction
  · have hw : wOk s := by
      rw [contains_iff, List.mem_append, List.mem_append] at g6
      simp only [not_or] at g6
      exact ⟨g1, g2, g3, g4', g5, ⟨g6.1.1, g6.2.1⟩, g6.1.2, g6.2.2⟩
    rw [Bool.not_eq_true] at g6
    rw [g6]
    refine Ev.step (f := ?_) (fun k => by rw [commit_ParseWho.j0, if_neg (by decide)]) ?_
    unfold parseWhoB finW
    rw [if_pos hw]
    refine Ev.bind (somebody_ev _ _ _ _ (by rw [mk_size]; omega) (by rw [mk_size]; omega)) (ev_ite (fun g => ?_) (fun g => ?_))
    · rw [if_pos g]; exact Ev.now _
    · rw [if_neg g]; exact Ev.now _
end Go.Proofs.YtbhfbbfjdklfgaaGreatDoor.Q


/- Persons: the reference's reading of a person's words. -/
namespace Go.Proofs.YtbhfbbfjdklfgaaGreatDoor.Q
open Go.RowKit Go.Proofs.YtbhfbbfjdklfgaaGreatDoorW.PrintWords Go.Proofs.YtbhfbbfjdklfgaaGreatDoorW.PrintLast Go.Proofs.YtbhfbbfjdklfgaaGreatDoorW.PrintMore
theorem drop_pre {α : Type} (a b : List α) (i : Nat) (h : a.length = i) : (a ++ b).drop i = b := by subst h; simp
theorem take_pre {α : Type} (a b : List α) (i : Nat) (h : a.length = i) : (a ++ b).take i = a := by subst h; simp
end Go.Proofs.YtbhfbbfjdklfgaaGreatDoor.Q


/- Persons: told and read back, the same person; read and told again, the same words. -/
namespace Go.Proofs.YtbhfbbfjdklfgaaGreatDoor.Q
open Go.RowKit Go.Proofs.YtbhfbbfjdklfgaaGreatDoorW.PrintWords Go.Proofs.YtbhfbbfjdklfgaaGreatDoorW.PrintLast Go.Proofs.YtbhfbbfjdklfgaaGreatDoorW.PrintMore
def dg (d : Nat) : UInt8 := UInt8.ofNat (48 + d)
theorem dg_val {d : Nat} (h : d < 10) : (dg d).toNat = 48 + d := by
  unfold dg; rw [UInt8.toNat_ofNat']; omega
theorem dg_isDig {d : Nat} (h : d < 10) : isDig (dg d) = true := by
  unfold isDig; rw [dg_val h]; simp; omega
theorem dec_one {d : Nat} (h : d < 10) : Lib.decDigits d = [dg d] := by
  rw [Lib.decDigits.eq_def, dif_pos h]; rfl
theorem twoL_eq (u : Nat) : twoL u = [dg (u / 10 % 10), dg (u % 10)] := by
  unfold twoL; rw [dec_one (by omega), dec_one (by omega)]; rfl
theorem val2 (a b : UInt8) : valI (mk [a, b]) = ((10 * (a.toNat - 48) + (b.toNat - 48) : Nat) : Int) := by
  unfold valI; rw [mk_data, valN_cons, valN_cons, valN_nil]; simp
theorem bt0 (c : UInt8) (l : List UInt8) : bt (mk (c :: l)) 0 = (c.toNat : Int) := (sfx_at (s := mk (c :: l)) (i := 0) (by rw [mk_data]; rfl)).2.1
theorem zone5 (c a b d e : UInt8) : zoneB (mk [c, a, b, d, e]) =
    if (c.toNat = 43 ∨ c.toNat = 45) ∧ [c, a, b, d, e] ≠ [45, 48, 48, 48, 48] ∧ isDig a = true ∧ isDig b = true ∧ isDig d = true ∧ isDig e = true then
      (if 60 ≤ (10 * (d.toNat - 48) + (e.toNat - 48) : Nat) then (0, false) else if c.toNat = 45 then (-(60 * (10 * (a.toNat - 48) + (b.toNat - 48) : Nat) + (10 * (d.toNat - 48) + (e.toNat - 48) : Nat) : Int), true) else ((60 * (10 * (a.toNat - 48) + (b.toNat - 48) : Nat) + (10 * (d.toNat - 48) + (e.toNat - 48) : Nat) : Int), true))
    else (0, false) := by
  have hs : (mk [c, a, b, d, e]).size = 5 := mk_size _
  have x1 : (mk [c, a, b, d, e]).extract 1 3 = mk [a, b] := by rw [ext_mk, mk_data]; rfl
  have x2 : (mk [c, a, b, d, e]).extract 3 (mk [c, a, b, d, e]).size = mk [d, e] := by rw [hs, ext_mk, mk_data]; rfl
  unfold zoneB
  rw [x1, x2, hs, bt0, mk_data, val2, val2]
  have hc : (5 = 5 ∧ ((c.toNat : Int) = 43 ∨ (c.toNat : Int) = 45) ∧ [c, a, b, d, e] ≠ [45, 48, 48, 48, 48] ∧ ([c, a, b, d, e].drop 1).all isDig = true) ↔ ((c.toNat = 43 ∨ c.toNat = 45) ∧ [c, a, b, d, e] ≠ [45, 48, 48, 48, 48] ∧ isDig a = true ∧ isDig b = true ∧ isDig d = true ∧ isDig e = true) := by
    rw [show [c, a, b, d, e].drop 1 = [a, b, d, e] from rfl]
    simp only [List.all_cons, List.all_nil, Bool.and_true, Bool.and_eq_true, true_and]
    constructor
    · rintro ⟨h1, h2, h3⟩; exact ⟨by omega, h2, h3⟩
    · rintro ⟨h1, h2, h3⟩; exact ⟨by omega, h2, h3⟩
  by_cases h : (c.toNat = 43 ∨ c.toNat = 45) ∧ [c, a, b, d, e] ≠ [45, 48, 48, 48, 48] ∧ isDig a = true ∧ isDig b = true ∧ isDig d = true ∧ isDig e = true
  · rw [if_pos h, if_pos (hc.2 h)]
    by_cases h2 : 60 ≤ (10 * (d.toNat - 48) + (e.toNat - 48) : Nat)
    · rw [if_pos h2, if_pos (by exact_mod_cast h2)]
    · rw [if_neg h2, if_neg (by exact_mod_cast h2)]
      by_cases h3 : c.toNat = 45
      · rw [if_pos h3, if_pos (by omega)]; congr 1; omega
      · rw [if_neg h3, if_neg (by omega)]
  · rw [if_neg h, if_neg (fun g => h (hc.1 g))]
def sgn (z : Int) : UInt8 := if z < 0 then 45 else 43
def zoneL (z : Int) : List UInt8 := sgn z :: (twoL (z.natAbs / 60) ++ twoL (z.natAbs % 60))
theorem zoneL_eq (z : Int) : zoneL z = [sgn z, dg (z.natAbs / 60 / 10 % 10), dg (z.natAbs / 60 % 10), dg (z.natAbs % 60 / 10 % 10), dg (z.natAbs % 60 % 10)] := by
  unfold zoneL; rw [twoL_eq, twoL_eq]; rfl
theorem tailL_eq (t z : Int) : tailL t z = Lib.itoa t ++ 32 :: zoneL z := rfl
theorem zone_tell (z : Int) (h0 : -5999 ≤ z) (h1 : z ≤ 5999) : zoneB (mk (zoneL z)) = (z, true) := by
  have hA : (sgn z).toNat = 43 ∨ (sgn z).toNat = 45 := by
    unfold sgn
    by_cases hz : z < 0
    · rw [if_pos hz]; exact Or.inr rfl
    · rw [if_neg hz]; exact Or.inl rfl
  have hB : [sgn z, dg (z.natAbs / 60 / 10 % 10), dg (z.natAbs / 60 % 10), dg (z.natAbs % 60 / 10 % 10), dg (z.natAbs % 60 % 10)] ≠ [45, 48, 48, 48, 48] := by
    intro e
    unfold sgn at e
    by_cases hz : z < 0
    · simp only [List.cons.injEq] at e
      obtain ⟨_, e1, e2, e3, e4, _⟩ := e
      have z0 : ∀ d, d < 10 → dg d = 48 → d = 0 := fun d hd h => by
        have := congrArg UInt8.toNat h
        rw [dg_val hd, show (48 : UInt8).toNat = 48 from rfl] at this; omega
      have f1 := z0 _ (by omega) e1
      have f2 := z0 _ (by omega) e2
      have f3 := z0 _ (by omega) e3
      have f4 := z0 _ (by omega) e4
      omega
    · rw [if_neg hz] at e
      simp at e
  rw [zoneL_eq, zone5, if_pos ⟨hA, hB, dg_isDig (by omega), dg_isDig (by omega), dg_isDig (by omega), dg_isDig (by omega)⟩]
  rw [dg_val (by omega), dg_val (by omega), dg_val (by omega), dg_val (by omega)]
  rw [if_neg (by omega)]
  by_cases hz : z < 0
  · rw [if_pos (by unfold sgn; rw [if_pos hz]; rfl)]; congr 1; omega
  · rw [if_neg (by unfold sgn; rw [if_neg hz]; decide)]; congr 1; omega
theorem named_no {s : ByteArray} (h : namedB s = true) : noA s.data.toList := by
  unfold namedB at h
  rw [Bool.and_eq_true] at h
  have ha := h.2
  rw [List.all_eq_true] at ha
  constructor
  · intro hm
    have := ha _ hm
    simp [okU] at this
  · intro hm
    have := ha _ hm
    simp [okU] at this
theorem itoa_dig (t : Int) (h : 0 ≤ t) : Lib.itoa t = Lib.decDigits t.toNat := by
  obtain ⟨n, rfl⟩ := Int.eq_ofNat_of_zero_le h
  rw [itoa_nat, Int.toNat_natCast]
theorem dec_no32 (u : Nat) : (32 : UInt8) ∉ Lib.decDigits u := by
  intro h
  have := dec_all u
  rw [List.all_eq_true] at this
  have := this _ h
  simp [isDig] at this
theorem digOk_to {l : List UInt8} (h1 : l ≠ []) (h2 : l.length ≤ 18) (h3 : 1 < l.length → l.head? ≠ some 48) (h4 : l.all isDig = true) : digOk (mk l) = true := by
  unfold digOk
  rw [Bool.and_eq_true, Bool.not_eq_true', mk_data]
  refine ⟨?_, h4⟩
  unfold offD
  rw [mk_size]
  simp only [Bool.or_eq_false_iff, decide_eq_false_iff_not, Bool.and_eq_false_imp, decide_eq_true_eq]
  cases l with
  | nil => simp at h1
  | cons c l =>
    rw [bt0]
    refine ⟨by simp, by omega, fun g e => ?_⟩
    have := h3 g
    simp only [List.head?_cons, ne_eq, Option.some.injEq] at this
    exact this (UInt8.toNat_inj.1 (by rw [show (48 : UInt8).toNat = 48 from rfl]; omega))
theorem dec_digOk (u : Nat) (h : u < 10 ^ 18) : digOk (mk (Lib.decDigits u)) = true := by
  refine digOk_to (dec_ne u) ?_ ?_ (dec_all u)
  · exact dec_len 17 u h
  · intro h1
    by_cases h2 : 10 ≤ u
    · obtain ⟨c, l, e, hc, _⟩ := dec_head u h2
      rw [e]; simpa using hc
    · rw [dec_one (by omega)] at h1; simp at h1
theorem who_parts (n m : ByteArray) (t z : Int) (hp : personB n m t z = true) : c1 (whoB n m t z) = (n.data.toList, m.data.toList ++ 62 :: 32 :: tailL t z, true) ∧ c2 (whoB n m t z) = (m.data.toList, tailL t z, true) ∧ c3 (whoB n m t z) = (Lib.decDigits t.toNat, zoneL z, true) := by
  unfold personB at hp
  simp only [Bool.and_eq_true, decide_eq_true_eq] at hp
  obtain ⟨hn, hm, h0, h1, h2, h3⟩ := hp
  have e1 : c1 (whoB n m t z) = (n.data.toList, m.data.toList ++ 62 :: 32 :: tailL t z, true) := by
    unfold c1 whoB whoL
    rw [mk_data]
    exact cut_pair 32 60 (by decide) _ _ (named_no hn).1
  have e2 : c2 (whoB n m t z) = (m.data.toList, tailL t z, true) := by
    unfold c2
    rw [e1]
    exact cut_pair' 62 32 _ _ (named_no hm).2
  refine ⟨e1, e2, ?_⟩
  unfold c3
  rw [e2, tailL_eq, itoa_dig t h0]
  exact cut_one 32 _ _ (dec_no32 _)
theorem who_back (n m : ByteArray) (t z : Int) (hp : personB n m t z = true) : parseWhoB (whoB n m t z) = (n, m, t, z, 0) := by
  obtain ⟨e1, e2, e3⟩ := who_parts n m t z hp
  have hp' := hp
  unfold personB at hp'
  simp only [Bool.and_eq_true, decide_eq_true_eq] at hp'
  obtain ⟨hn, hm, h0, h1, h2, h3⟩ := hp'
  have hz := zone_tell z (by omega) (by omega)
  unfold parseWhoB
  rw [if_pos ⟨by rw [e1], by rw [e2], by rw [e3], by rw [e3]; exact dec_digOk _ (by omega), by rw [e3, hz], by rw [e1]; exact named_no hn, by rw [e2]; exact named_no hm⟩]
  rw [e1, e2, e3, hz, mk_of, mk_of]
  have hv : valI (mk (Lib.decDigits t.toNat)) = t := by
    unfold valI; rw [mk_data, dec_val]; omega
  rw [hv]
  unfold finW
  rw [if_pos hp]
end Go.Proofs.YtbhfbbfjdklfgaaGreatDoor.Q


/- Tags: what the two programs ask of a tag. -/
namespace Go.Proofs.YtbhfbbfjdklfgaaGreatDoor.Q
open Go.RowKit Go.Proofs.YtbhfbbfjdklfgaaGreatDoorW.PrintWords Go.Proofs.YtbhfbbfjdklfgaaGreatDoorW.PrintLast Go.Proofs.YtbhfbbfjdklfgaaGreatDoorW.PrintMore
theorem w_succ (n : Nat) (h : n ≤ 140737488351232) : wrap64 ((n : Int) + 1) = ((n + 1 : Nat) : Int) := by rw [wrap_id (by omega) (by omega)]; omega
def zeroB (s : ByteArray) : Bool := s.data.toList.any fun c => decide (c.toNat = 0)
theorem zero_l0 (s : ByteArray) (hs : s.size ≤ 140737488351232) : ∀ (t : List UInt8) (i : Nat), s.data.toList.drop i = t → Ev (fun k => graftageref16_zero.l0 k s i) (t.any fun c => decide (c.toNat = 0))
  | [], i, h => by
    have := sfx_end h
    exact Ev.step (f := ?_) (fun k => by rw [graftageref16_zero.l0, if_neg (by omega)]) (Ev.now _)
  | c :: t, i, h => by
    obtain ⟨hlt, hb, ht⟩ := sfx_at h
    refine Ev.step (f := ?_) (fun k => by rw [graftageref16_zero.l0, if_pos (by omega), if_pos (by omega), hb, w_succ i (by omega)]) ?_
    refine ev_ite (fun g => ev_eq (Ev.now _) ?_) (fun g => ev_eq (zero_l0 s hs t (i + 1) ht) ?_)
    · rw [List.any_cons, decide_eq_true (by omega : c.toNat = 0), Bool.true_or]
    · rw [List.any_cons, decide_eq_false (by omega : ¬ c.toNat = 0), Bool.false_or]
theorem zero_ev (s : ByteArray) (hs : s.size ≤ 140737488351232) : Ev (fun k => graftageref16_zero.f k s) (zeroB s) := zero_l0 s hs _ 0 rfl
theorem zeroB_iff (s : ByteArray) : zeroB s = true ↔ (0 : UInt8) ∈ s.data.toList := by
  unfold zeroB
  rw [List.any_eq_true]
  constructor
  · rintro ⟨c, hc, h⟩
    rw [decide_eq_true_eq] at h
    rwa [← show c = 0 from UInt8.toNat_inj.1 h]
  · intro h; exact ⟨0, h, rfl⟩
theorem contains_zero (s : ByteArray) (hs : s.size < 4294967281) : strings_Contains2.f s ⟨#[0]⟩ = some (zeroB s) := by
  unfold strings_Contains2.f
  rw [if_pos hs]
  congr 1
  have h1 := index_not 0 s.data.toList
  have hge := Lib.index_ge s.data.toList [0]
  rw [Bool.eq_iff_iff, zeroB_iff]
  unfold Lib.contains
  rw [decide_eq_true_eq]
  show 0 ≤ Lib.index s.data.toList [0] ↔ _
  constructor
  · intro h
    refine Classical.byContradiction fun h2 => ?_
    have := h1.2 h2
    omega
  · intro h
    refine Classical.byContradiction fun h2 => ?_
    exact h1.1 (by omega) h
def above (c : UInt8) : Bool := decide (32 < c.toNat)
def taggedB (s : ByteArray) : Bool := s.data.toList.all above && (decide (1 ≤ s.size) && decide (s.size ≤ 64))
theorem above_all (c : UInt8) (t : List UInt8) : (c :: t).all above = (above c && t.all above) := rfl
theorem tagged_l0 (s : ByteArray) (hs : s.size ≤ 140737488351232) : ∀ (t : List UInt8) (i : Nat), s.data.toList.drop i = t → Ev (fun k => commit_tagged.l0 k s (s.size : Int) i) (t.all above && (decide (1 ≤ s.size) && decide (s.size ≤ 64)))
  | [], i, h => by
    have := sfx_end h
    refine Ev.step (f := ?_) (fun k => by rw [commit_tagged.l0, if_neg (by omega)]) (ev_ite (fun g => ev_eq (Ev.now _) ?_) (fun g => ev_eq (Ev.now _) ?_))
    · rw [List.all_nil, Bool.true_and, decide_eq_true (by omega : 1 ≤ s.size), Bool.true_and]
      exact decide_eq_decide.2 (by omega)
    · rw [decide_eq_false (by omega : ¬ 1 ≤ s.size)]; simp
  | c :: t, i, h => by
    obtain ⟨hlt, hb, ht⟩ := sfx_at h
    refine Ev.step (f := ?_) (fun k => by rw [commit_tagged.l0, if_pos (by omega), if_pos (by omega), if_pos (by omega), hb, w_succ i (by omega)]) ?_
    refine ev_ite (fun g => ev_eq (Ev.now _) ?_) (fun g => ev_eq (tagged_l0 s hs t (i + 1) ht) ?_)
    · rw [above_all, show above c = false from decide_eq_false (by omega)]; rfl
    · rw [above_all, show above c = true from decide_eq_true (by omega), Bool.true_and]
theorem tagged_ev (s : ByteArray) (hs : s.size ≤ 140737488351232) : Ev (fun k => commit_tagged.f k s) (taggedB s) := tagged_l0 s hs _ 0 rfl
def wordB (a : Int) : ByteArray := if a = 1 then ⟨#[98, 108, 111, 98]⟩ else if a = 2 then ⟨#[116, 114, 101, 101]⟩ else if a = 3 then ⟨#[99, 111, 109, 109, 105, 116]⟩ else if a = 4 then ⟨#[116, 97, 103]⟩ else ⟨#[]⟩
theorem wordF_eq (a : Int) : wordF a 4 0 = wordB a := by
  unfold wordB
  simp only [wordF, kindW]
  by_cases h1 : a = 1
  · subst h1; rfl
  · rw [if_neg (by omega), if_neg h1]
    by_cases h2 : a = 2
    · subst h2; rfl
    · rw [if_neg (by omega), if_neg h2]
      by_cases h3 : a = 3
      · subst h3; rfl
      · rw [if_neg (by omega), if_neg h3]
        by_cases h4 : a = 4
        · subst h4; rfl
        · rw [if_neg (by omega), if_neg h4]
theorem Word_eq (a : Int) : object_Word.f a = some (wordB a) := by unfold object_Word.f; rw [wordF_eq]
theorem refWord_eq (a : Int) : graftageref14_Word.f a = some (wordB a) := by
  unfold graftageref14_Word.f wordB
  repeat' split
  all_goals rfl
theorem word_none (a : Int) : (wordB a).toList = ([] : List UInt8) ↔ ¬ (1 ≤ a ∧ a ≤ 4) := by
  unfold wordB
  by_cases h1 : a = 1
  · rw [if_pos h1, ByteArray.toList_eq]; simp; omega
  rw [if_neg h1]
  by_cases h2 : a = 2
  · rw [if_pos h2, ByteArray.toList_eq]; simp; omega
  rw [if_neg h2]
  by_cases h3 : a = 3
  · rw [if_pos h3, ByteArray.toList_eq]; simp; omega
  rw [if_neg h3]
  by_cases h4 : a = 4
  · rw [if_pos h4, ByteArray.toList_eq]; simp; omega
  rw [if_neg h4, ByteArray.toList_eq]; simp; omega
def tagOk (o : ByteArray) (a : Int) (g n m : ByteArray) (t z : Int) (x : ByteArray) : Prop := idOk o = true ∧ (1 ≤ a ∧ a ≤ 4) ∧ taggedB g = true ∧ personB n m t z = true ∧ zeroB x = false
instance (o : ByteArray) (a : Int) (g n m : ByteArray) (t z : Int) (x : ByteArray) : Decidable (tagOk o a g n m t z x) := by unfold tagOk; infer_instance
def checkTagB (o : ByteArray) (a : Int) (g n m : ByteArray) (t z : Int) (x : ByteArray) : Int := if tagOk o a g n m t z x then (if x.size > 4096 then 4 else 0) else 1
theorem CheckTag_ev (o : ByteArray) (a : Int) (g n m : ByteArray) (t z : Int) (x : ByteArray) (hg : g.size ≤ 140737488351232) (hn : n.size ≤ 140737488351232) (hm : m.size ≤ 140737488351232) (hx : x.size < 4294967281) : Ev (fun k => commit_CheckTag.f k o a g n m t z x) (checkTagB o a g n m t z x) := by
  have bad : ¬ tagOk o a g n m t z x → Ev (fun k => commit_CheckTag.j0 k true o a g n m t z x) (checkTagB o a g n m t z x) := fun h => by
    unfold checkTagB; rw [if_neg h]
    exact Ev.step (f := ?_) (fun k => by rw [commit_CheckTag.j0, if_pos rfl]) (Ev.now _)
  refine Ev.bind (ident_Is_ev o) (ev_ite (fun g1 => ?_) (fun g1 => bad (fun e => g1 e.1)))
  rw [Word_eq]
  simp only [Option.bind_some]
  refine ev_ite (fun g2 => bad (fun e => (word_none a).1 g2 e.2.1)) (fun g2 => ?_)
  refine Ev.bind (tagged_ev g hg) (ev_ite (fun g3 => ?_) (fun g3 => bad (fun e => g3 e.2.2.1)))
  refine Ev.bind (somebody_ev n m t z hn hm) (ev_ite (fun g4 => ?_) (fun g4 => bad (fun e => g4 e.2.2.2.1)))
  rw [contains_zero x hx]
  simp only [Option.bind_some]
  cases g5 : zeroB x with
  | true => exact bad (fun e => by have := e.2.2.2.2; rw [g5] at this; cases this)
  | false =>
    have ok : tagOk o a g n m t z x := ⟨g1, Classical.byContradiction (fun h => g2 ((word_none a).2 h)), g3, g4, g5⟩
    unfold checkTagB
    rw [if_pos ok]
    refine Ev.step (f := ?_) (fun k => by rw [commit_CheckTag.j0, if_neg (by decide)]) (ev_ite (fun h => ?_) (fun h => ?_))
    · rw [if_pos (by omega)]; exact Ev.now _
    · rw [if_neg (by omega)]; exact Ev.now _
theorem refTag_bad (o : ByteArray) (a : Int) (g n m : ByteArray) (t z : Int) (x : ByteArray) (hg : g.size ≤ 140737488351232) : ∀ (d i : Nat), i + d = g.size → Ev (fun k => graftageref16_CheckTag.l0 k true i o a g n m t z x) 1
  | 0, i, h => Ev.step (f := ?_) (fun k => by rw [graftageref16_CheckTag.l0, if_neg (by omega), if_pos rfl]) (Ev.now _)
  | d + 1, i, h => Ev.step (f := ?_) (fun k => by rw [graftageref16_CheckTag.l0, if_pos (by omega), if_pos rfl, w_succ i (by omega)]) (refTag_bad o a g n m t z x hg d (i + 1) (by omega))
theorem refTag_good (o : ByteArray) (a : Int) (g n m : ByteArray) (t z : Int) (x : ByteArray) (hg : g.size ≤ 140737488351232) : ∀ (u : List UInt8) (i : Nat), g.data.toList.drop i = u → i ≤ g.size → Ev (fun k => graftageref16_CheckTag.l0 k false i o a g n m t z x) (if u.all above = true then (if x.size > 4096 then 4 else 0) else 1)
  | [], i, h, hi => by
    have := sfx_end h
    refine Ev.step (f := ?_) (fun k => by rw [graftageref16_CheckTag.l0, if_neg (by omega), if_neg (by decide)]) (ev_ite (fun g1 => ?_) (fun g1 => ?_))
    · rw [if_pos List.all_nil, if_pos (by omega)]; exact Ev.now _
    · rw [if_pos List.all_nil, if_neg (by omega)]; exact Ev.now _
  | c :: u, i, h, hi => by
    obtain ⟨hlt, hb, hu⟩ := sfx_at h
    by_cases hc : above c = true
    · have hc2 : 32 < c.toNat := by unfold above at hc; simpa using hc
      refine Ev.step (f := ?_) (fun k => by rw [graftageref16_CheckTag.l0, if_pos (by omega), if_neg (by decide), if_pos (by omega), hb, w_succ i (by omega), decide_eq_false (by omega : ¬ ((c.toNat : Int) ≤ 32))]) ?_
      rw [above_all, hc, Bool.true_and]
      exact refTag_good o a g n m t z x hg u (i + 1) hu (by omega)
    · have hc2 : c.toNat ≤ 32 := by unfold above at hc; simpa using hc
      refine Ev.step (f := ?_) (fun k => by rw [graftageref16_CheckTag.l0, if_pos (by omega), if_neg (by decide), if_pos (by omega), hb, w_succ i (by omega), decide_eq_true (by omega : (c.toNat : Int) ≤ 32)]) ?_
      rw [above_all, Bool.not_eq_true _ |>.mp hc, Bool.false_and, if_neg (by decide)]
      exact refTag_bad o a g n m t z x hg (g.size - (i + 1)) (i + 1) (by omega)
theorem refCheckTag_ev (o : ByteArray) (a : Int) (g n m : ByteArray) (t z : Int) (x : ByteArray) (hg : g.size ≤ 140737488351232) (hn : n.size ≤ 140737488351232) (hm : m.size ≤ 140737488351232) (hx : x.size < 4294967281) : Ev (fun k => graftageref16_CheckTag.f k o a g n m t z x) (checkTagB o a g n m t z x) := by
  have bad : ¬ tagOk o a g n m t z x → Ev (fun k => graftageref16_CheckTag.j0 k true o a g n m t z x) (checkTagB o a g n m t z x) := fun h => by
    unfold checkTagB; rw [if_neg h]
    exact Ev.step (f := ?_) (fun k => by rw [graftageref16_CheckTag.j0]) (refTag_bad o a g n m t z x hg g.size 0 (by omega))
  have tg : taggedB g = true → 1 ≤ g.size ∧ g.size ≤ 64 := fun h => by
    unfold taggedB at h; simp only [Bool.and_eq_true, decide_eq_true_eq] at h; exact h.2
  refine Ev.bind (ref_idIs_ev o) (ev_ite (fun g1 => ?_) (fun g1 => bad (fun e => g1 e.1)))
  refine ev_ite (fun g2 => bad (fun e => by have := e.2.1; omega)) (fun g2 => ?_)
  refine ev_ite (fun g3 => bad (fun e => by have := e.2.1; omega)) (fun g3 => ?_)
  refine ev_ite (fun g4 => bad (fun e => by have := tg e.2.2.1; omega)) (fun g4 => ?_)
  refine ev_ite (fun g5 => bad (fun e => by have := tg e.2.2.1; omega)) (fun g5 => ?_)
  refine Ev.bind (Person_ev n m t z hn hm) (ev_ite (fun g6 => ?_) (fun g6 => bad (fun e => g6 e.2.2.2.1)))
  refine Ev.bind (zero_ev x (by omega)) ?_
  cases g7 : zeroB x with
  | true => exact bad (fun e => by have := e.2.2.2.2; rw [g7] at this; cases this)
  | false =>
    refine Ev.step (f := ?_) (fun k => by rw [graftageref16_CheckTag.j0]) (ev_eq (refTag_good o a g n m t z x hg _ 0 rfl (by omega)) ?_)
    unfold checkTagB
    by_cases h : g.data.toList.drop 0 |>.all above
    · have ht : taggedB g = true := by
        unfold taggedB
        rw [List.drop_zero] at h
        rw [h, decide_eq_true (by omega : 1 ≤ g.size), decide_eq_true (by omega : g.size ≤ 64)]; rfl
      have ok : tagOk o a g n m t z x := ⟨g1, ⟨by omega, by omega⟩, ht, g6, g7⟩
      rw [if_pos h, if_pos ok]
    · have no : ¬ tagOk o a g n m t z x := fun e => by
        have := e.2.2.1
        unfold taggedB at this
        rw [Bool.and_eq_true] at this
        exact h this.1
      rw [if_neg h, if_neg no]
end Go.Proofs.YtbhfbbfjdklfgaaGreatDoor.Q


namespace Go.Proofs.YtbhfbbfjdklfgaaGreatDoor.Q
open Go.RowKit Go.Proofs.YtbhfbbfjdklfgaaGreatDoorW.PrintWords Go.Proofs.YtbhfbbfjdklfgaaGreatDoorW.PrintLast Go.Proofs.YtbhfbbfjdklfgaaGreatDoorW.PrintMore
attribute [local go_sem] max2_int min2_int max_two min_two max_three min_three max_four min_four   -- for this text's walks alone

end Go.Proofs.YtbhfbbfjdklfgaaGreatDoor.Q


/- Lines: the program's reader and the reference's offsets read the same lines. -/
namespace Go.Proofs.YtbhfbbfjdklfgaaGreatDoor.Q
open Go.RowKit Go.Proofs.YtbhfbbfjdklfgaaGreatDoorW.PrintWords Go.Proofs.YtbhfbbfjdklfgaaGreatDoorW.PrintLast Go.Proofs.YtbhfbbfjdklfgaaGreatDoorW.PrintMore
/-- the line in front, its word cut off; what is left; whether there was one -/
def lineF (u p : List UInt8) : List UInt8 × List UInt8 × Bool := if (Lib.cut u [10]).2.2 = true ∧ (Lib.cut u [10]).1.take p.length = p then ((Lib.cut u [10]).1.drop p.length, (Lib.cut u [10]).2.1, true) else ([], u, false)
theorem lineF_len (u p : List UInt8) : (lineF u p).1.length ≤ u.length ∧ (lineF u p).2.1.length ≤ u.length := by
  have h := cut_len u [10]
  unfold lineF
  split
  · show (List.drop p.length (Lib.cut u [10]).1).length ≤ u.length ∧ (Lib.cut u [10]).2.1.length ≤ u.length
    rw [List.length_drop]; constructor <;> omega
  · simp
theorem fail_two (s : ByteArray) (e : Int) : commit_reader_fail.f s e 2 = some (s, 2) := by
  unfold commit_reader_fail.f
  by_cases h : e = 0
  · rw [if_pos h]
  · rw [if_neg h, if_pos rfl]
theorem CutPrefix_eq (s p : ByteArray) : strings_CutPrefix.f s p = some (if s.data.toList.take p.size = p.data.toList then (mk (s.data.toList.drop p.size), true) else (s, false)) := by
  have hx : (s.extract 0 p.size).toList = s.data.toList.take p.size := by rw [ByteArray.toList_eq, ext_data]; simp
  have hy : s.extract p.size s.size = mk (s.data.toList.drop p.size) := by
    rw [ext_mk, List.take_of_length_le]
    rw [List.length_drop, size_of]; omega
  unfold strings_CutPrefix.f stringslite_CutPrefix.f stringslite_HasPrefix.f
  by_cases h : (s.size : Int) ≥ (p.size : Int)
  · rw [if_pos h, if_pos (by omega), if_pos (by omega), hx, ByteArray.toList_eq p]
    simp only [Option.bind_some]
    by_cases g : s.data.toList.take p.size = p.data.toList
    · rw [if_pos g, if_pos (by rw [g]; simp), if_pos (by omega), if_pos (by omega), hy]; rfl
    · rw [if_neg g, if_neg (by simpa using g)]; rfl
  · rw [if_neg h]
    simp only [Option.bind_some]
    rw [if_neg (by decide), if_neg (fun e => ?_)]
    · rfl
    · have := congrArg List.length e
      rw [List.length_take, size_of, size_of] at this
      omega
theorem line_eq (s : ByteArray) (e : Int) (p : ByteArray) (hs : s.size < 4294967281) : commit_reader_line.f s e p = some (mk (lineF s.data.toList p.data.toList).1, mk (lineF s.data.toList p.data.toList).2.1, if (lineF s.data.toList p.data.toList).2.2 = true then e else 2) := by
  unfold commit_reader_line.f
  rw [Cut_eq s ⟨#[10]⟩ hs]
  simp only [Option.bind_some]
  rw [CutPrefix_eq, mk_data]
  simp only [Option.bind_some]
  rw [fail_two]
  simp only [Option.bind_some]
  generalize hl : lineF s.data.toList p.data.toList = L
  unfold lineF at hl
  rw [size_of] at hl
  show (if (Lib.cut s.data.toList [10]).2.2 = true then (if (if (Lib.cut s.data.toList [10]).1.take p.size = p.data.toList then (mk ((Lib.cut s.data.toList [10]).1.drop p.size), true) else (mk (Lib.cut s.data.toList [10]).1, false)).2 = true then some ((if (Lib.cut s.data.toList [10]).1.take p.size = p.data.toList then (mk ((Lib.cut s.data.toList [10]).1.drop p.size), true) else (mk (Lib.cut s.data.toList [10]).1, false)).1, mk (Lib.cut s.data.toList [10]).2.1, e) else some ((⟨#[]⟩ : ByteArray), s, 2)) else some ((⟨#[]⟩ : ByteArray), s, 2)) = _
  by_cases g1 : (Lib.cut s.data.toList [10]).2.2 = true
  · by_cases g2 : (Lib.cut s.data.toList [10]).1.take p.size = p.data.toList
    · rw [if_pos ⟨g1, g2⟩] at hl
      subst hl
      rw [if_pos g1, if_pos g2, if_pos rfl, if_pos rfl]
    · rw [if_neg (fun h => g2 h.2)] at hl
      subst hl
      rw [if_pos g1, if_neg g2, if_neg Bool.false_ne_true, if_neg Bool.false_ne_true, mk_of]; rfl
  · rw [if_neg (fun h => g1 h.1)] at hl
    subst hl
    rw [if_neg g1, if_neg Bool.false_ne_true, mk_of]; rfl
end Go.Proofs.YtbhfbbfjdklfgaaGreatDoor.Q


/- Tags: the program's reading of a tag. -/
namespace Go.Proofs.YtbhfbbfjdklfgaaGreatDoor.Q
open Go.RowKit Go.Proofs.YtbhfbbfjdklfgaaGreatDoorW.PrintWords Go.Proofs.YtbhfbbfjdklfgaaGreatDoorW.PrintLast Go.Proofs.YtbhfbbfjdklfgaaGreatDoorW.PrintMore
theorem who_code (s : ByteArray) : (parseWhoB s).2.2.2.2 = 0 ∨ (parseWhoB s).2.2.2.2 = 1 ∨ (parseWhoB s).2.2.2.2 = 2 := by
  unfold parseWhoB finW
  repeat' split
  all_goals simp
theorem id_ev (s : ByteArray) (e : Int) (p : ByteArray) (hs : s.size < 4294967281) : Ev (fun k => commit_reader_id.f k s e p) (mk (lineF s.data.toList p.data.toList).1, mk (lineF s.data.toList p.data.toList).2.1, if (lineF s.data.toList p.data.toList).2.2 = true ∧ idOk (mk (lineF s.data.toList p.data.toList).1) = true then e else 2) := by
  unfold commit_reader_id.f
  rw [line_eq s e p hs]
  simp only [Option.bind_some]
  generalize lineF s.data.toList p.data.toList = L
  refine Ev.bind (ident_Is_ev _) (ev_ite (fun g => ev_eq (Ev.now _) ?_) (fun g => ?_))
  · by_cases h : L.2.2 = true
    · rw [if_pos h, if_pos ⟨h, g⟩]
    · rw [if_neg h, if_neg (fun q => h q.1)]
  · rw [fail_two]
    simp only [Option.bind_some]
    rw [if_neg (fun q => g q.2)]
    exact Ev.now _
def errW2 (e c : Int) : Int := if c = 0 then e else if e = 0 then c else if c = 2 then 2 else e
theorem who_ev (s : ByteArray) (e : Int) (p : ByteArray) (hs : s.size ≤ 4294967000) : Ev (fun k => commit_reader_who.f k s e p)
    ((parseWhoB (mk (lineF s.data.toList p.data.toList).1)).1, (parseWhoB (mk (lineF s.data.toList p.data.toList).1)).2.1, (parseWhoB (mk (lineF s.data.toList p.data.toList).1)).2.2.1, (parseWhoB (mk (lineF s.data.toList p.data.toList).1)).2.2.2.1, mk (lineF s.data.toList p.data.toList).2.1,
      errW2 (if (lineF s.data.toList p.data.toList).2.2 = true then e else 2) (parseWhoB (mk (lineF s.data.toList p.data.toList).1)).2.2.2.2) := by
  have hl := (lineF_len s.data.toList p.data.toList).1
  rw [size_of] at hl
  unfold commit_reader_who.f
  rw [line_eq s e p (by omega)]
  simp only [Option.bind_some]
  generalize lineF s.data.toList p.data.toList = L at *
  refine Ev.bind (ParseWho_ev _ (by rw [mk_size]; omega)) ?_
  generalize parseWhoB (mk L.1) = W
  generalize (if L.2.2 = true then e else 2) = f
  refine ev_ite (fun g => ev_eq (Ev.now _) ?_) (fun g => ?_)
  · unfold errW2; rw [if_pos g]
  · unfold errW2; rw [if_neg g]
    unfold commit_reader_fail.f
    by_cases h : f = 0
    · rw [if_pos h, if_pos h]; exact Ev.now _
    · rw [if_neg h, if_neg h]
      by_cases h2 : W.2.2.2.2 = 2
      · rw [if_pos h2, if_pos h2, h2]; exact Ev.now _
      · rw [if_neg h2, if_neg h2]; exact Ev.now _
def tL1 (s : ByteArray) := lineF s.data.toList [111, 98, 106, 101, 99, 116, 32]
def tL2 (s : ByteArray) := lineF (tL1 s).2.1 [116, 121, 112, 101, 32]
def tL3 (s : ByteArray) := lineF (tL2 s).2.1 [116, 97, 103, 32]
def tL4 (s : ByteArray) := lineF (tL3 s).2.1 [116, 97, 103, 103, 101, 114, 32]
def tL5 (s : ByteArray) := lineF (tL4 s).2.1 []
def tWho (s : ByteArray) := parseWhoB (mk (tL4 s).1)
def tKind (s : ByteArray) : Int := kindF (mk (tL2 s).1) 4 0
def tGood (s : ByteArray) : Prop := (tL1 s).2.2 = true ∧ idOk (mk (tL1 s).1) = true ∧ (tL2 s).2.2 = true ∧ tKind s ≠ 0 ∧ (tL3 s).2.2 = true ∧ (tL4 s).2.2 = true ∧ (tWho s).2.2.2.2 ≠ 2 ∧ (tL5 s).2.2 = true ∧ (tL5 s).1 = []
instance (s : ByteArray) : Decidable (tGood s) := by unfold tGood; infer_instance
abbrev TagR := ByteArray × Int × ByteArray × ByteArray × ByteArray × Int × Int × ByteArray × Int
def noTag (c : Int) : TagR := (⟨#[]⟩, 0, ⟨#[]⟩, ⟨#[]⟩, ⟨#[]⟩, 0, 0, ⟨#[]⟩, c)
def tCheck (s : ByteArray) : Int := checkTagB (mk (tL1 s).1) (tKind s) (mk (tL3 s).1) (tWho s).1 (tWho s).2.1 (tWho s).2.2.1 (tWho s).2.2.2.1 (mk (tL5 s).2.1)
def parseTagB (s : ByteArray) : TagR :=
  if tGood s then (if (tWho s).2.2.2.2 = 1 then noTag 1 else if tCheck s = 0 then (mk (tL1 s).1, tKind s, mk (tL3 s).1, (tWho s).1, (tWho s).2.1, (tWho s).2.2.1, (tWho s).2.2.2.1, mk (tL5 s).2.1, 0) else noTag (tCheck s)) else noTag 2
theorem who_len (s : ByteArray) : (parseWhoB s).1.size ≤ s.size ∧ (parseWhoB s).2.1.size ≤ s.size := by
  obtain ⟨l1, l2, l3⟩ := c_len s
  unfold parseWhoB finW
  repeat' split
  all_goals (try simp only [mk_size]); (try constructor) <;> (first | omega | exact Nat.zero_le _)
theorem t_len (s : ByteArray) : (tL1 s).1.length ≤ s.size ∧ (tL1 s).2.1.length ≤ s.size ∧ (tL2 s).1.length ≤ s.size ∧ (tL2 s).2.1.length ≤ s.size ∧ (tL3 s).1.length ≤ s.size ∧ (tL3 s).2.1.length ≤ s.size ∧ (tL4 s).1.length ≤ s.size ∧ (tL4 s).2.1.length ≤ s.size ∧ (tL5 s).1.length ≤ s.size ∧ (tL5 s).2.1.length ≤ s.size := by
  have h1 := lineF_len s.data.toList [111, 98, 106, 101, 99, 116, 32]
  have h2 := lineF_len (tL1 s).2.1 [116, 121, 112, 101, 32]
  have h3 := lineF_len (tL2 s).2.1 [116, 97, 103, 32]
  have h4 := lineF_len (tL3 s).2.1 [116, 97, 103, 103, 101, 114, 32]
  have h5 := lineF_len (tL4 s).2.1 []
  rw [size_of] at h1
  change (tL1 s).1.length ≤ _ ∧ (tL1 s).2.1.length ≤ _ at h1
  change (tL2 s).1.length ≤ _ ∧ (tL2 s).2.1.length ≤ _ at h2
  change (tL3 s).1.length ≤ _ ∧ (tL3 s).2.1.length ≤ _ at h3
  change (tL4 s).1.length ≤ _ ∧ (tL4 s).2.1.length ≤ _ at h4
  change (tL5 s).1.length ≤ _ ∧ (tL5 s).2.1.length ≤ _ at h5
  omega
theorem tag_j1 (s : ByteArray) (hs : s.size ≤ 4294967000) (e : Int) (x : ByteArray) (he : e = if tGood s then (tWho s).2.2.2.2 else 2) : Ev (fun k => commit_ParseTag.j1 k (mk (tL5 s).2.1) e (mk (tL1 s).1) (tKind s) (mk (tL3 s).1) (tWho s).1 (tWho s).2.1 (tWho s).2.2.1 (tWho s).2.2.2.1 x) (parseTagB s) := by
  obtain ⟨l1, l2, l3, l4, l5, l6, l7, l8, l9, l10⟩ := t_len s
  have hw := who_len (mk (tL4 s).1)
  rw [mk_size] at hw
  change (tWho s).1.size ≤ _ ∧ (tWho s).2.1.size ≤ _ at hw
  refine Ev.step (f := ?_) (fun k => by rw [commit_ParseTag.j1]) ?_
  unfold parseTagB
  by_cases hg : tGood s
  · rw [if_pos hg] at he ⊢
    rcases who_code (mk (tL4 s).1) with h | h | h
    · have h' : (tWho s).2.2.2.2 = 0 := h
      rw [h'] at he
      rw [h', if_neg (by decide)]
      refine ev_yes he (Ev.bind (CheckTag_ev _ _ _ _ _ _ _ _ (by rw [mk_size]; omega) (by omega) (by omega) (by rw [mk_size]; omega)) ?_)
      refine ev_ite (fun g => ?_) (fun g => ?_)
      · rw [if_pos (show tCheck s = 0 from g)]; exact Ev.now _
      · rw [if_neg (show ¬ tCheck s = 0 from g)]; exact Ev.now _
    · have h' : (tWho s).2.2.2.2 = 1 := h
      rw [h'] at he
      rw [h', if_pos rfl]
      refine ev_no (by omega) ?_
      rw [he]; exact Ev.now _
    · exact absurd h hg.2.2.2.2.2.2.1
  · rw [if_neg hg] at he ⊢
    refine ev_no (by omega) ?_
    rw [he]; exact Ev.now _
theorem tag_j0 (s : ByteArray) (hs : s.size ≤ 4294967000) (e : Int) (x y z w : ByteArray) (a b : Int) (he : e = if (tL1 s).2.2 = true ∧ idOk (mk (tL1 s).1) = true ∧ (tL2 s).2.2 = true ∧ tKind s ≠ 0 then 0 else 2) : Ev (fun k => commit_ParseTag.j0 k (mk (tL2 s).2.1) e (mk (tL1 s).1) (tKind s) x y z a b w) (parseTagB s) := by
  obtain ⟨l1, l2, l3, l4, l5, l6, l7, l8, l9, l10⟩ := t_len s
  refine Ev.step (f := ?_) (fun k => by rw [commit_ParseTag.j0]) ?_
  rw [line_eq _ _ _ (by rw [mk_size]; omega)]
  simp only [Option.bind_some]
  rw [mk_data]
  change Ev (fun k => (commit_reader_who.f k (mk (tL3 s).2.1) (if (tL3 s).2.2 = true then e else 2) ⟨#[116, 97, 103, 103, 101, 114, 32]⟩).bind _) _
  refine Ev.bind (who_ev _ _ _ (by rw [mk_size]; omega)) ?_
  rw [mk_data]
  change Ev (fun k => (commit_reader_line.f (mk (tL4 s).2.1) (errW2 (if (tL4 s).2.2 = true then (if (tL3 s).2.2 = true then e else 2) else 2) (tWho s).2.2.2.2) ⟨#[]⟩).bind _) _
  rw [line_eq _ _ _ (by rw [mk_size]; omega)]
  simp only [Option.bind_some]
  rw [mk_data]
  change Ev (fun k => if (mk (tL5 s).1).toList = ([] : List UInt8) then commit_ParseTag.j1 k (mk (tL5 s).2.1) (if (tL5 s).2.2 = true then errW2 (if (tL4 s).2.2 = true then (if (tL3 s).2.2 = true then e else 2) else 2) (tWho s).2.2.2.2 else 2) (mk (tL1 s).1) (tKind s) (mk (tL3 s).1) (tWho s).1 (tWho s).2.1 (tWho s).2.2.1 (tWho s).2.2.2.1 w else _) _
  have hwc := who_code (mk (tL4 s).1)
  change (tWho s).2.2.2.2 = 0 ∨ (tWho s).2.2.2.2 = 1 ∨ (tWho s).2.2.2.2 = 2 at hwc
  refine ev_ite (fun g => ?_) (fun g => ?_)
  · rw [mk_toList] at g
    refine tag_j1 s hs _ _ ?_
    by_cases hg : tGood s
    · rw [if_pos hg]
      obtain ⟨g1, g2, g3, g4, g5, g6, g7, g8, g9⟩ := hg
      rw [if_pos g8, if_pos g6, if_pos g5, he, if_pos ⟨g1, g2, g3, g4⟩]
      unfold errW2
      rcases hwc with h | h | h
      · rw [h]; rfl
      · rw [h]; rfl
      · exact absurd h g7
    · rw [if_neg hg]
      by_cases g8 : (tL5 s).2.2 = true
      · rw [if_pos g8]
        have : (if (tL4 s).2.2 = true then (if (tL3 s).2.2 = true then e else 2) else 2) = 0 → (tWho s).2.2.2.2 = 2 := fun h0 => by
          rcases hwc with h | h | h
          · exfalso
            refine hg ?_
            by_cases a4 : (tL4 s).2.2 = true
            · rw [if_pos a4] at h0
              by_cases a3 : (tL3 s).2.2 = true
              · rw [if_pos a3, he] at h0
                by_cases a1 : (tL1 s).2.2 = true ∧ idOk (mk (tL1 s).1) = true ∧ (tL2 s).2.2 = true ∧ tKind s ≠ 0
                · exact ⟨a1.1, a1.2.1, a1.2.2.1, a1.2.2.2, a3, a4, by rw [h]; decide, g8, g⟩
                · rw [if_neg a1] at h0; cases h0
              · rw [if_neg a3] at h0; cases h0
            · rw [if_neg a4] at h0; cases h0
          · exfalso
            refine hg ?_
            by_cases a4 : (tL4 s).2.2 = true
            · rw [if_pos a4] at h0
              by_cases a3 : (tL3 s).2.2 = true
              · rw [if_pos a3, he] at h0
                by_cases a1 : (tL1 s).2.2 = true ∧ idOk (mk (tL1 s).1) = true ∧ (tL2 s).2.2 = true ∧ tKind s ≠ 0
                · exact ⟨a1.1, a1.2.1, a1.2.2.1, a1.2.2.2, a3, a4, by rw [h]; decide, g8, g⟩
                · rw [if_neg a1] at h0; cases h0
              · rw [if_neg a3] at h0; cases h0
            · rw [if_neg a4] at h0; cases h0
          · exact h
        have two : (if (tL4 s).2.2 = true then (if (tL3 s).2.2 = true then e else 2) else 2) = 0 ∨ (if (tL4 s).2.2 = true then (if (tL3 s).2.2 = true then e else 2) else 2) = 2 := by
          rw [he]
          repeat' split
          all_goals simp
        generalize (if (tL4 s).2.2 = true then (if (tL3 s).2.2 = true then e else 2) else 2) = f at *
        unfold errW2
        rcases two with h | h
        · rw [this h, h]; rfl
        · subst h
          rcases hwc with h | h | h <;> rw [h] <;> rfl
      · rw [if_neg g8]
  · rw [fail_two]
    simp only [Option.bind_some]
    refine tag_j1 s hs 2 _ ?_
    rw [if_neg (fun hg => g (by rw [mk_toList]; exact hg.2.2.2.2.2.2.2.2))]
theorem ParseTag_ev (s : ByteArray) (hs : s.size ≤ 4294967000) : Ev (fun k => commit_ParseTag.f k s) (parseTagB s) := by
  obtain ⟨l1, l2, l3, l4, l5, l6, l7, l8, l9, l10⟩ := t_len s
  refine Ev.bind (id_ev s 0 _ (by omega)) ?_
  change Ev (fun k => (commit_reader_line.f (mk (tL1 s).2.1) (if (tL1 s).2.2 = true ∧ idOk (mk (tL1 s).1) = true then 0 else 2) ⟨#[116, 121, 112, 101, 32]⟩).bind _) _
  rw [line_eq _ _ _ (by rw [mk_size]; omega)]
  simp only [Option.bind_some]
  rw [mk_data]
  change Ev (fun k => (object_Kind.f (mk (tL2 s).1)).bind _) _
  unfold object_Kind.f
  simp only [Option.bind_some]
  refine ev_ite (fun g => ?_) (fun g => ?_)
  · rw [fail_two]
    simp only [Option.bind_some]
    exact tag_j0 s hs 2 _ _ _ _ _ _ (by rw [if_neg (fun h => h.2.2.2 g)])
  · refine tag_j0 s hs _ _ _ _ _ _ _ ?_
    change (if (tL2 s).2.2 = true then (if (tL1 s).2.2 = true ∧ idOk (mk (tL1 s).1) = true then (0 : Int) else 2) else 2) = if (tL1 s).2.2 = true ∧ idOk (mk (tL1 s).1) = true ∧ (tL2 s).2.2 = true ∧ tKind s ≠ 0 then 0 else 2
    have g' : tKind s ≠ 0 := g
    by_cases a1 : (tL1 s).2.2 = true <;> by_cases a2 : idOk (mk (tL1 s).1) = true <;> by_cases b : (tL2 s).2.2 = true <;> simp [a1, a2, b, g']
end Go.Proofs.YtbhfbbfjdklfgaaGreatDoor.Q


namespace Go.Proofs.YtbhfbbfjdklfgaaGreatDoor.Q
open Go.RowKit Go.Proofs.YtbhfbbfjdklfgaaGreatDoorW.PrintWords Go.Proofs.YtbhfbbfjdklfgaaGreatDoorW.PrintLast Go.Proofs.YtbhfbbfjdklfgaaGreatDoorW.PrintMore
attribute [local go_sem] max2_int min2_int max_two min_two max_three min_three max_four min_four   -- for this text's walks alone



def graftageref16_ParseTag.T6 : Bool × List (List Nat × List Nat) := (true, [([], []), ([], []), ([1], [1]), ([], []), ([], []), ([0, 2, 3, 4], [0, 2, 3, 4]), ([], []), ([6, 5, 2, 0, 1, 2, 3, 4, 5, 6], [5, 6])])
def graftageref16_ParseTag.B6 : List Nat := [0, 0, 2, 0, 0, 31, 0, 127]
theorem graftageref16_ParseTag.tab6 : rtab .any (opsOf Tryz.f24 6) = graftageref16_ParseTag.T6 := by kernel_rfl
theorem graftageref16_ParseTag.bits6 : waitsOk graftageref16_ParseTag.T6.2 graftageref16_ParseTag.B6 = true := by kernel_rfl
end Go.Proofs.YtbhfbbfjdklfgaaGreatDoor.Q


/- Tags: the reference's reading of a tag. -/
namespace Go.Proofs.YtbhfbbfjdklfgaaGreatDoor.Q
open Go.RowKit Go.Proofs.YtbhfbbfjdklfgaaGreatDoorW.PrintWords Go.Proofs.YtbhfbbfjdklfgaaGreatDoorW.PrintLast Go.Proofs.YtbhfbbfjdklfgaaGreatDoorW.PrintMore
theorem lineF_cons (r : List UInt8) : lineF (10 :: r) [] = ([], r, true) := by
  unfold lineF
  have : Lib.cut (10 :: r) [10] = ([], r, true) := cut_one 10 [] r (by simp)
  rw [this]; simp
end Go.Proofs.YtbhfbbfjdklfgaaGreatDoor.Q


/- Tags: the text of a tag, there and back. -/
namespace Go.Proofs.YtbhfbbfjdklfgaaGreatDoor.Q
open Go.RowKit Go.Proofs.YtbhfbbfjdklfgaaGreatDoorW.PrintWords Go.Proofs.YtbhfbbfjdklfgaaGreatDoorW.PrintLast Go.Proofs.YtbhfbbfjdklfgaaGreatDoorW.PrintMore
theorem idOk_no10 {o : ByteArray} (h : idOk o = true) : (10 : UInt8) ∉ o.data.toList := by
  unfold idOk at h
  rw [Bool.and_eq_true] at h
  intro hm
  obtain ⟨j, hj, e⟩ := List.getElem_of_mem hm
  have hj' : j < o.size := by rw [← size_of]; exact hj
  have h1 := hexF_at o o.size 0 h.2 j (Nat.zero_le _) (by omega)
  rw [bt_get o j hj', e] at h1
  exact absurd h1 (by decide)
theorem tagged_no10 {g : ByteArray} (h : taggedB g = true) : (10 : UInt8) ∉ g.data.toList := by
  unfold taggedB at h
  rw [Bool.and_eq_true] at h
  intro hm
  have := List.all_eq_true.1 h.1 _ hm
  exact absurd this (by decide)
theorem named_no10 {s : ByteArray} (h : namedB s = true) : (10 : UInt8) ∉ s.data.toList := by
  unfold namedB at h
  rw [Bool.and_eq_true] at h
  intro hm
  have := List.all_eq_true.1 h.2 _ hm
  exact absurd this (by decide)
theorem dec_no10 (u : Nat) : (10 : UInt8) ∉ Lib.decDigits u := by
  intro hm
  have := List.all_eq_true.1 (dec_all u) _ hm
  exact absurd this (by decide)
theorem dg_no10 {d : Nat} (h : d < 10) : (10 : UInt8) ≠ dg d := by
  intro e
  have := congrArg UInt8.toNat e
  rw [dg_val h] at this
  have e10 : (10 : UInt8).toNat = 10 := rfl
  omega
theorem zoneL_no10 (z : Int) : (10 : UInt8) ∉ zoneL z := by
  rw [zoneL_eq]
  simp only [List.mem_cons, List.not_mem_nil, or_false, not_or]
  refine ⟨?_, dg_no10 (by omega), dg_no10 (by omega), dg_no10 (by omega), dg_no10 (by omega)⟩
  unfold sgn
  split <;> decide
theorem who_no10 {n m : ByteArray} {t z : Int} (hp : personB n m t z = true) : (10 : UInt8) ∉ whoL n.data.toList m.data.toList t z := by
  unfold personB at hp
  simp only [Bool.and_eq_true, decide_eq_true_eq] at hp
  obtain ⟨hn, hm, h0, h1, h2, h3⟩ := hp
  unfold whoL
  rw [tailL_eq, itoa_dig t h0]
  simp only [List.mem_append, List.mem_cons, not_or]
  exact ⟨named_no10 hn, by decide, by decide, named_no10 hm, by decide, by decide, dec_no10 _, by decide, zoneL_no10 z⟩
theorem word_no10 (a : Int) : (10 : UInt8) ∉ (wordB a).data.toList := by
  unfold wordB
  repeat' split
  all_goals decide
theorem lineF_of (p a r : List UInt8) (hp : (10 : UInt8) ∉ p) (ha : (10 : UInt8) ∉ a) : lineF (p ++ (a ++ 10 :: r)) p = (a, r, true) := by
  unfold lineF
  have : Lib.cut (p ++ (a ++ 10 :: r)) [10] = (p ++ a, r, true) := by
    rw [← List.append_assoc]
    exact cut_one 10 (p ++ a) r (by rw [List.mem_append]; exact fun h => h.elim hp ha)
  rw [this]
  show (if true = true ∧ (p ++ a).take p.length = p then ((p ++ a).drop p.length, r, true) else _) = _
  rw [take_pre p a p.length rfl, drop_pre p a p.length rfl, if_pos ⟨rfl, rfl⟩]
def tagL (o : List UInt8) (a : Int) (g : List UInt8) (w x : List UInt8) : List UInt8 :=
  [111, 98, 106, 101, 99, 116, 32] ++ (o ++ 10 :: ([116, 121, 112, 101, 32] ++ ((wordB a).data.toList ++ 10 :: ([116, 97, 103, 32] ++ (g ++ 10 :: ([116, 97, 103, 103, 101, 114, 32] ++ (w ++ 10 :: (10 :: x))))))))
def tagB (o : ByteArray) (a : Int) (g n m : ByteArray) (t z : Int) (x : ByteArray) : ByteArray := mk (tagL o.data.toList a g.data.toList (whoL n.data.toList m.data.toList t z) x.data.toList)
def tagBodyB (o : ByteArray) (a : Int) (g n m : ByteArray) (t z : Int) (x : ByteArray) : ByteArray × Int := if checkTagB o a g n m t z x = 0 then (tagB o a g n m t z x, 0) else (⟨#[]⟩, checkTagB o a g n m t z x)
theorem check_zero {o : ByteArray} {a : Int} {g n m : ByteArray} {t z : Int} {x : ByteArray} (h : checkTagB o a g n m t z x = 0) : tagOk o a g n m t z x ∧ x.size ≤ 4096 := by
  unfold checkTagB at h
  split at h
  · rename_i k
    refine ⟨k, ?_⟩
    split at h
    · cases h
    · omega
  · cases h
theorem named_len {s : ByteArray} (h : namedB s = true) : s.size ≤ 64 := by
  unfold namedB edge at h
  simp only [Bool.and_eq_true, Bool.not_eq_true', Bool.or_eq_false_iff, decide_eq_false_iff_not] at h
  omega
theorem person_facts {n m : ByteArray} {t z : Int} (hp : personB n m t z = true) : n.size ≤ 64 ∧ m.size ≤ 64 ∧ 0 ≤ t ∧ t ≤ 1099511627776 ∧ -840 ≤ z ∧ z ≤ 840 := by
  unfold personB at hp
  simp only [Bool.and_eq_true, decide_eq_true_eq] at hp
  exact ⟨named_len hp.1, named_len hp.2.1, hp.2.2.1, hp.2.2.2.1, hp.2.2.2.2.1, hp.2.2.2.2.2⟩
theorem whoL_len {n m : ByteArray} {t z : Int} (hp : personB n m t z = true) : (whoL n.data.toList m.data.toList t z).length ≤ 200 := by
  obtain ⟨l1, l2, h0, h1, _, _⟩ := person_facts hp
  unfold whoL
  rw [tailL_eq]
  simp only [List.length_append, List.length_cons, size_of, zoneL_eq, List.length_nil]
  have := itoa_len t (by omega) (by omega)
  omega
theorem word_size (a : Int) : (wordB a).size ≤ 6 := by
  unfold wordB
  repeat' split
  all_goals decide
theorem id_size {o : ByteArray} (h : idOk o = true) : o.size = 40 := by
  unfold idOk at h
  rw [Bool.and_eq_true, decide_eq_true_eq] at h
  exact h.1
theorem tag_text (o w g h x : ByteArray) : (((((((((⟨#[111, 98, 106, 101, 99, 116, 32]⟩ : ByteArray) ++ o) ++ (⟨#[10, 116, 121, 112, 101, 32]⟩ : ByteArray)) ++ w) ++ (⟨#[10, 116, 97, 103, 32]⟩ : ByteArray)) ++ g) ++ (⟨#[10, 116, 97, 103, 103, 101, 114, 32]⟩ : ByteArray)) ++ h) ++ (⟨#[10, 10]⟩ : ByteArray)) ++ x
    = mk ([111, 98, 106, 101, 99, 116, 32] ++ (o.data.toList ++ 10 :: ([116, 121, 112, 101, 32] ++ (w.data.toList ++ 10 :: ([116, 97, 103, 32] ++ (g.data.toList ++ 10 :: ([116, 97, 103, 103, 101, 114, 32] ++ (h.data.toList ++ 10 :: (10 :: x.data.toList))))))))) := by
  refine ba_ext ?_
  simp only [append_data, mk_data]
  simp only [List.append_assoc, List.cons_append, List.nil_append]
theorem tag_sizes {o : ByteArray} {a : Int} {g n m : ByteArray} {t z : Int} {x : ByteArray} (h : checkTagB o a g n m t z x = 0) : o.size = 40 ∧ (wordB a).size ≤ 6 ∧ g.size ≤ 64 ∧ (whoB n m t z).size ≤ 200 ∧ x.size ≤ 4096 := by
  obtain ⟨⟨h1, h2, h3, h4, h5⟩, h6⟩ := check_zero h
  refine ⟨id_size h1, word_size a, ?_, ?_, h6⟩
  · unfold taggedB at h3
    simp only [Bool.and_eq_true, decide_eq_true_eq] at h3
    exact h3.2.2
  · unfold whoB
    rw [mk_size]
    exact whoL_len h4
theorem TagBody_ev (o : ByteArray) (a : Int) (g n m : ByteArray) (t z : Int) (x : ByteArray) (hg : g.size ≤ 140737488351232) (hn : n.size ≤ 140737488351232) (hm : m.size ≤ 140737488351232) (hx : x.size < 4294967281) : Ev (fun k => commit_TagBody.f k o a g n m t z x) (tagBodyB o a g n m t z x) := by
  refine Ev.bind (CheckTag_ev o a g n m t z x hg hn hm hx) ?_
  unfold tagBodyB
  refine ev_ite (fun h => ?_) (fun h => ?_)
  · obtain ⟨z1, z2, z3, z4, z5⟩ := tag_sizes h
    obtain ⟨l1, l2, h0, h1, h2, h3⟩ := person_facts (check_zero h).1.2.2.2.1
    rw [if_pos h, Word_eq, Who_eq n m t z (by omega) (by omega) (by omega) (by omega) (by omega) (by omega)]
    simp only [Option.bind_some, ByteArray.size_append]
    generalize hw : wordB a = w at *
    generalize hh : whoB n m t z = v at *
    have s1 : (⟨#[111, 98, 106, 101, 99, 116, 32]⟩ : ByteArray).size = 7 := rfl
    have s2 : (⟨#[10, 116, 121, 112, 101, 32]⟩ : ByteArray).size = 6 := rfl
    have s3 : (⟨#[10, 116, 97, 103, 32]⟩ : ByteArray).size = 5 := rfl
    have s4 : (⟨#[10, 116, 97, 103, 103, 101, 114, 32]⟩ : ByteArray).size = 8 := rfl
    have s5 : (⟨#[10, 10]⟩ : ByteArray).size = 2 := rfl
    rw [s1, s2, s3, s4, s5]
    refine ev_yes (by omega) (ev_yes (by omega) (ev_yes (by omega) (ev_yes (by omega) (ev_yes (by omega) (ev_yes (by omega) (ev_yes (by omega) (ev_yes (by omega) (ev_yes (by omega) ?_))))))))
    refine ev_eq (Ev.now _) ?_
    rw [tag_text]
    unfold tagB tagL
    rw [hw, ← hh]
    unfold whoB
    rw [mk_data]
  · rw [if_neg h]; exact Ev.now _
theorem refTagBody_ev (o : ByteArray) (a : Int) (g n m : ByteArray) (t z : Int) (x : ByteArray) (hg : g.size ≤ 140737488351232) (hn : n.size ≤ 140737488351232) (hm : m.size ≤ 140737488351232) (hx : x.size < 4294967281) : Ev (fun k => graftageref16_TagBody.f k o a g n m t z x) (tagBodyB o a g n m t z x) := by
  refine Ev.bind (refCheckTag_ev o a g n m t z x hg hn hm hx) ?_
  unfold tagBodyB
  refine ev_ite (fun h => ?_) (fun h => ?_)
  · obtain ⟨z1, z2, z3, z4, z5⟩ := tag_sizes h
    obtain ⟨l1, l2, h0, h1, h2, h3⟩ := person_facts (check_zero h).1.2.2.2.1
    rw [if_pos h, refWord_eq]
    simp only [Option.bind_some, ByteArray.size_append]
    have s1 : (⟨#[111, 98, 106, 101, 99, 116, 32]⟩ : ByteArray).size = 7 := rfl
    have s2 : (⟨#[10, 116, 121, 112, 101, 32]⟩ : ByteArray).size = 6 := rfl
    have s3 : (⟨#[10, 116, 97, 103, 32]⟩ : ByteArray).size = 5 := rfl
    have s4 : (⟨#[10, 116, 97, 103, 103, 101, 114, 32]⟩ : ByteArray).size = 8 := rfl
    have s5 : (⟨#[10, 10]⟩ : ByteArray).size = 2 := rfl
    rw [s1, s2, s3, s4, s5]
    refine ev_yes (by omega) (ev_yes (by omega) (ev_yes (by omega) (ev_yes (by omega) (ev_yes (by omega) (ev_yes (by omega) ?_)))))
    refine Ev.bind (refWho_ev n m t z (by omega) (by omega) h0 (by omega) h2 h3) ?_
    generalize hw : wordB a = w at *
    generalize hh : whoB n m t z = v at *
    refine ev_yes (by omega) (ev_yes (by omega) (ev_yes (by omega) ?_))
    refine ev_eq (Ev.now _) ?_
    rw [tag_text]
    unfold tagB tagL
    rw [hw, ← hh]
    unfold whoB
    rw [mk_data]
  · rw [if_neg h]; exact Ev.now _
theorem kind_word (a : Int) (h : 1 ≤ a ∧ a ≤ 4) : kindF (wordB a) 4 0 = a := by
  have : a = 1 ∨ a = 2 ∨ a = 3 ∨ a = 4 := by omega
  rcases this with rfl | rfl | rfl | rfl <;> decide +kernel
theorem tag_back (o : ByteArray) (a : Int) (g n m : ByteArray) (t z : Int) (x : ByteArray) (h : checkTagB o a g n m t z x = 0) : parseTagB (tagB o a g n m t z x) = (o, a, g, n, m, t, z, x, 0) := by
  obtain ⟨⟨h1, h2, h3, h4, h5⟩, h6⟩ := check_zero h
  have e1 : tL1 (tagB o a g n m t z x) = (o.data.toList, _, true) := (congrArg (fun q => lineF q [111, 98, 106, 101, 99, 116, 32]) (mk_data (tagL o.data.toList a g.data.toList (whoL n.data.toList m.data.toList t z) x.data.toList))).trans (lineF_of [111, 98, 106, 101, 99, 116, 32] o.data.toList _ (by decide) (idOk_no10 h1))
  have e2 : tL2 (tagB o a g n m t z x) = ((wordB a).data.toList, _, true) := (congrArg (fun q : List UInt8 × List UInt8 × Bool => lineF q.2.1 [116, 121, 112, 101, 32]) e1).trans (lineF_of [116, 121, 112, 101, 32] (wordB a).data.toList _ (by decide) (word_no10 a))
  have e3 : tL3 (tagB o a g n m t z x) = (g.data.toList, _, true) := (congrArg (fun q : List UInt8 × List UInt8 × Bool => lineF q.2.1 [116, 97, 103, 32]) e2).trans (lineF_of [116, 97, 103, 32] g.data.toList _ (by decide) (tagged_no10 h3))
  have e4 : tL4 (tagB o a g n m t z x) = (whoL n.data.toList m.data.toList t z, 10 :: x.data.toList, true) := (congrArg (fun q : List UInt8 × List UInt8 × Bool => lineF q.2.1 [116, 97, 103, 103, 101, 114, 32]) e3).trans (lineF_of [116, 97, 103, 103, 101, 114, 32] (whoL n.data.toList m.data.toList t z) (10 :: x.data.toList) (by decide) (who_no10 h4))
  have e5 : tL5 (tagB o a g n m t z x) = ([], x.data.toList, true) := by unfold tL5; rw [e4]; exact lineF_cons _
  have eW : tWho (tagB o a g n m t z x) = (n, m, t, z, 0) := by unfold tWho; rw [e4]; exact who_back n m t z h4
  have eK : tKind (tagB o a g n m t z x) = a := by unfold tKind; rw [e2]; show kindF (mk (wordB a).data.toList) 4 0 = a; rw [mk_of]; exact kind_word a h2
  have eC : tCheck (tagB o a g n m t z x) = 0 := by
    unfold tCheck
    rw [e1, e3, e5, eW, eK]
    show checkTagB (mk o.data.toList) a (mk g.data.toList) n m t z (mk x.data.toList) = 0
    rw [mk_of, mk_of, mk_of]; exact h
  have hg : tGood (tagB o a g n m t z x) := by
    unfold tGood
    rw [e1, e2, e3, e4, e5, eW, eK]
    refine ⟨rfl, ?_, rfl, by omega, rfl, rfl, show (0 : Int) ≠ 2 by decide, rfl, rfl⟩
    show idOk (mk o.data.toList) = true
    rw [mk_of]; exact h1
  unfold parseTagB
  rw [if_pos hg, eW]
  show (if (0 : Int) = 1 then _ else if tCheck _ = 0 then _ else _) = _
  rw [if_neg (by decide), if_pos eC, e1, e3, e5, eK]
  show (mk o.data.toList, a, mk g.data.toList, n, m, t, z, mk x.data.toList, (0 : Int)) = _
  rw [mk_of, mk_of, mk_of]
end Go.Proofs.YtbhfbbfjdklfgaaGreatDoor.Q


/- Tags, the plain law. -/
namespace Go.Proofs.YtbhfbbfjdklfgaaGreatDoor.Pure
open Go.RowKit Go.Proofs.YtbhfbbfjdklfgaaGreatDoor.Q Go.Proofs.YtbhfbbfjdklfgaaGreatDoorW.PrintWords Go.Proofs.YtbhfbbfjdklfgaaGreatDoorW.PrintLast Go.Proofs.YtbhfbbfjdklfgaaGreatDoorW.PrintMore
theorem tags_ev (o : ByteArray) (a : Int) (g n m : ByteArray) (t z : Int) (x : ByteArray) (ho : o.size ≤ 140737488351232) (hg : g.size ≤ 140737488351232) (hn : n.size ≤ 140737488351232) (hm : m.size ≤ 140737488351232) : Ev (fun k => graftagelaw16_CommitTags.f k o a g n m t z x) true := by
  refine ev_ite (fun _ => liveOr16) (fun g1 => ?_)
  have hx : x.size < 4294967281 := by omega
  refine Ev.bind (TagBody_ev o a g n m t z x hg hn hm hx) (Ev.bind (refTagBody_ev o a g n m t z x hg hn hm hx) (Ev.bind (CheckTag_ev o a g n m t z x hg hn hm hx) (Ev.bind (refCheckTag_ev o a g n m t z x hg hn hm hx) ?_)))
  refine ev_yes rfl (ev_yes rfl ?_)
  rw [show ((tagBodyB o a g n m t z x).2 != (tagBodyB o a g n m t z x).2) = false by simp]
  refine Ev.step (f := ?_) (fun k => by rw [graftagelaw16_CommitTags.j0, if_neg (by decide)]) ?_
  by_cases h : checkTagB o a g n m t z x = 0
  · have e : tagBodyB o a g n m t z x = (tagB o a g n m t z x, 0) := by unfold tagBodyB; rw [if_pos h]
    rw [e]
    refine ev_yes rfl ?_
    have hsz : (tagB o a g n m t z x).size ≤ 4294967000 := by
      obtain ⟨z1, z2, z3, z4, z5⟩ := tag_sizes h
      unfold whoB at z4
      rw [mk_size] at z4
      unfold tagB tagL
      rw [mk_size]
      simp only [List.length_append, List.length_cons, size_of, List.length_nil]
      omega
    refine Ev.bind (ParseTag_ev _ hsz) (Ev.bind lives16 (ev_yes rfl ?_))
    rw [tag_back o a g n m t z x h]
    refine ev_yes rfl (ev_eq (Ev.now _) ?_)
    simp
  · have e : (tagBodyB o a g n m t z x).2 = checkTagB o a g n m t z x := by unfold tagBodyB; rw [if_neg h]
    rw [e]
    exact ev_no h liveOr16
theorem CommitTags : ∀ (y0 : S37), (y0.f0.size ≤ 140737488351232 ∧ (Lit.int .i64 y0.f1).wf = true ∧ y0.f2.size ≤ 140737488351232 ∧ (y0.f3.f0.size ≤ 140737488351232 ∧ y0.f3.f1.size ≤ 140737488351232 ∧ (Lit.int .i64 y0.f3.f2).wf = true ∧ (Lit.int .i64 y0.f3.f3).wf = true) ∧ y0.f4.size ≤ 140737488351232) → ∃ k, graftagelaw16_CommitTags.f k y0.f0 y0.f1 y0.f2 y0.f3.f0 y0.f3.f1 y0.f3.f2 y0.f3.f3 y0.f4 = some true := by
  intro y0 h
  obtain ⟨h0, _, h2, ⟨h3, h4, _, _⟩, h5⟩ := h
  obtain ⟨k, hk⟩ := tags_ev y0.f0 y0.f1 y0.f2 y0.f3.f0 y0.f3.f1 y0.f3.f2 y0.f3.f3 y0.f4 h0 h2 h3 h4
  exact ⟨k, hk k (Nat.le_refl _)⟩
end Go.Proofs.YtbhfbbfjdklfgaaGreatDoor.Pure


/- What a law's argument reads as (numbers, bools, strings, structs, slices, nested) opens into the printed kinds, with the reach's bounds; for the rows of this seat. -/
namespace Go.Proofs.YtbhfbbfjdklfgaaGreatDoor.Ro
open Go.RowKit Go.Deep Go.Proofs.YtbhfbbfjdklfgaaGreatDoorW.PrintWords

/-- What a reading of type t by the form tells in the words of kind d; S: the bounds. -/
def Opens (P : Program) (t : TypeId) {α : Type} (d : Kd α) (S : α → Prop) : Prop :=
  ∀ {H : Type} (enc : TypeId × Value → H) (w : World) (fuel : Nat) (cs : List Value) (x : DataW H × List MemPlace),
    DataW.trod enc P w 0 (fun _ => true) true fuel t cs = some x → (∀ n ∈ DataW.weights P t x.1, n ≤ reachBytes) → ∃ y : α, d.K w y cs ∧ S y

section
variable {P : Program} {t e : TypeId}

theorem Opens.int {k : IntKind} (ht : P.underlying t = some (.int k)) : Opens P t (Kd.int k) (fun y => (Lit.int k y).wf = true) := by
  intro H enc w fuel cs x h _
  obtain ⟨n, rfl, rfl, hw⟩ := DataW.trod_int ht h
  exact ⟨n, rfl, hw⟩

theorem Opens.bool (ht : P.underlying t = some .bool) : Opens P t Kd.bool (fun _ => True) := by
  intro H enc w fuel cs x h _
  obtain ⟨b, rfl, rfl⟩ := DataW.trod_bool ht h
  exact ⟨b, rfl, trivial⟩

theorem Opens.string (ht : P.underlying t = some .string) : Opens P t Kd.string (fun y => y.size ≤ 140737488351232) := by
  intro H enc w fuel cs x h hn
  obtain ⟨s, rfl, rfl, _⟩ := DataW.trod_string ht h
  refine ⟨s, rfl, ?_⟩
  have := hn s.data.toList.length (by simp [DataW.weights])
  simpa [reachBytes] using this

theorem choose_list {α : Type} {n : Nat} {p : Nat → α → Prop} (h : ∀ i, i < n → ∃ y, p i y) : ∃ l : List α, l.length = n ∧ ∀ i y, l[i]? = some y → p i y := by
  induction n with
  | zero => exact ⟨[], rfl, fun i y hy => by simp at hy⟩
  | succ n ih =>
    obtain ⟨l, hl, hp⟩ := ih (fun i hi => h i (by omega))
    obtain ⟨y, hy⟩ := h n (by omega)
    refine ⟨l ++ [y], by simp [hl], fun i z hz => ?_⟩
    rcases Nat.lt_or_ge i l.length with hi | hi
    · rw [List.getElem?_append_left hi] at hz
      exact hp i z hz
    · rw [List.getElem?_append_right hi] at hz
      have : i - l.length = 0 := by
        have := (List.getElem?_eq_some_iff.1 hz).1
        simpa using this
      rw [this] at hz
      have h1 : i = n := by omega
      subst h1
      have : y = z := by simpa using hz
      subst this
      exact hy

theorem weightsAll_mem {H : Type} {e : TypeId} : ∀ {l : List (DataW H)} {d : DataW H}, d ∈ l → ∀ n ∈ d.weights P e, n ∈ DataW.weightsAll P e l
  | a :: l, d, hd, n, hn => by
    simp only [DataW.weightsAll, List.mem_append]
    rcases List.mem_cons.1 hd with rfl | hd
    · exact .inl hn
    · exact .inr (weightsAll_mem hd n hn)

theorem Opens.slice {α : Type} {d : Kd α} {S : α → Prop} {b : Nat} (ht : P.underlying t = some (.slice e)) (hc : P.cellsOf e = d.sz) (hb : P.bytesOf e = b) (h : Opens P e d S) :
    Opens P t (Kd.slice e d) (fun l => l.length * b ≤ 140737488351232 ∧ ∀ y ∈ l, S y) := by
  intro H enc w fuel cs x hx hn
  rcases open_slice ht hx with ⟨rfl, rfl⟩ | ⟨a, len, cap, m, n, D, Pl, rfl, _, hl, hm, hmm, rfl, hall⟩
  · exact ⟨[], ⟨none, 0, rfl, Nat.le_refl _, rfl, by simp, fun h => absurd h (by simp)⟩, by simp, by simp⟩
  · simp only [if_true] at hmm
    obtain rfl : m = cap := hmm
    have hel : ∀ i, i < len → ∃ y : α, (∃ cs', w.cells? 0 (a.add (i * P.cellsOf e)) (P.cellsOf e) = some cs' ∧ d.K w y cs') ∧ S y := by
      intro i hi
      obtain ⟨cs', h1, h2⟩ := hall i (by omega)
      obtain ⟨y, hy, hs⟩ := h enc w n cs' _ h2 (fun k hk => hn k (by
        simp only [DataW.weights, ht, List.mem_cons, List.mem_append]
        exact .inr (.inl (weightsAll_mem (List.mem_map.2 ⟨i, List.mem_range.2 hi, rfl⟩) k hk))))
      exact ⟨y, ⟨cs', h1, hy⟩, hs⟩
    obtain ⟨l, hll, hp⟩ := choose_list hel
    subst hll
    have hw : (l.length + (m - l.length)) * b ≤ reachBytes := by
      have := hn _ (by simp only [DataW.weights, ht, List.mem_cons]; exact .inl rfl)
      simpa [hb] using this
    refine ⟨l, ⟨some a, m, rfl, hl, rfl, by unfold maxLen at hm; omega, fun _ => ⟨a, rfl, fun j p hj => ?_⟩⟩, ?_, fun y hy => ?_⟩
    · obtain ⟨⟨cs', h1, hk⟩, _⟩ := hp j p hj
      obtain ⟨_, hlen, hcell⟩ := World.cells?_some h1
      refine ⟨cs', by rw [hlen, hc], hk, fun i u hu => ?_⟩
      have hi : i < P.cellsOf e := by
        have := (List.getElem?_eq_some_iff.1 hu).1
        omega
      have := hcell i hi
      rw [Go.Deep.add_add, hu, hc] at this
      exact this
    · have : l.length * b ≤ (l.length + (m - l.length)) * b := Nat.mul_le_mul_right _ (by omega)
      simp only [reachBytes] at hw
      omega
    · obtain ⟨j, hj⟩ := List.mem_iff_getElem?.1 hy
      exact (hp j y hj).2

/-- The fields from one on, in line. -/
def OpensF (P : Program) (fs : List Field) (o : Nat) {α : Type} (d : Kd α) (S : α → Prop) : Prop :=
  ∀ {H : Type} (enc : TypeId × Value → H) (w : World) (n : Nat) (cs : List Value) (ys : List (DataW H × List MemPlace)),
    (∀ (i : Nat) (f : Field), fs[i]? = some f → DataW.trod enc P w 0 (fun _ => true) true n f.type ((cs.drop f.offset).take (P.cellsOf f.type)) = ys[i]?) → ys.length = fs.length →
    (∀ k ∈ DataW.weightsEach P (fs.map (·.type)) (ys.map (·.1)), k ≤ reachBytes) → cs.length = o + d.sz → ∃ y : α, d.K w y (cs.drop o) ∧ S y

theorem OpensF.one {α : Type} {f : Field} {o : Nat} {d : Kd α} {S : α → Prop} (ho : f.offset = o) (hc : P.cellsOf f.type = d.sz) (h : Opens P f.type d S) : OpensF P [f] o d S := by
  intro H enc w n cs ys hf hl hw hlen
  match ys, hl with
  | [y], _ =>
    have h1 := hf 0 f rfl
    rw [ho, hc, List.take_of_length_le (by rw [List.length_drop]; omega)] at h1
    exact h enc w n _ y h1 (fun k hk => hw k (by simp [DataW.weightsEach, hk]))

theorem OpensF.cons {α β : Type} {f : Field} {fs : List Field} {o o' : Nat} {d : Kd α} {d' : Kd β} {S : α → Prop} {S' : β → Prop} (ho : f.offset = o) (hc : P.cellsOf f.type = d.sz) (ho' : o + d.sz = o')
    (h : Opens P f.type d S) (h' : OpensF P fs o' d' S') : OpensF P (f :: fs) o (Kd.pair d d') (fun z => S z.1 ∧ S' z.2) := by
  intro H enc w n cs ys hf hl hw hlen
  match ys, hl with
  | y :: ys, hl =>
    have h1 := hf 0 f rfl
    rw [ho, hc] at h1
    have hlen' : cs.length = o + (d.sz + d'.sz) := hlen
    obtain ⟨a, ha, hs⟩ := h enc w n _ y h1 (fun k hk => hw k (by simp only [List.map_cons, DataW.weightsEach, List.mem_append]; exact .inl hk))
    obtain ⟨b, hb, hs'⟩ := h' enc w n cs ys (fun i g hg => hf (i + 1) g (by simpa using hg)) (by simpa using hl) (fun k hk => hw k (by simp only [List.map_cons, DataW.weightsEach, List.mem_append]; exact .inr hk)) (by omega)
    refine ⟨(a, b), ⟨_, _, ?_, ha, hb⟩, hs, hs'⟩
    rw [← ho', ← List.drop_drop, List.take_append_drop]

theorem Opens.struct {α β : Type} {fs : Array Field} {d : Kd α} {S : α → Prop} {f : β → α} {g : α → β} (ht : P.underlying t = some (.struct fs)) (hc : P.cellsOf t = d.sz) (hfg : ∀ a, f (g a) = a) (h : OpensF P fs.toList 0 d S) :
    Opens P t (Kd.iso d f) (fun y => S (f y)) := by
  intro H enc w fuel cs x hx hn
  obtain ⟨xs, n, _, rfl, hl, hlen, hf⟩ := DataW.trod_struct ht hx
  obtain ⟨a, ha, hs⟩ := h enc w n cs xs (fun i q hq => hf i q (by simpa using hq)) (by simpa using hlen) (fun k hk => hn k (by simpa [DataW.weights, ht] using hk)) (by rw [hl, hc]; omega)
  refine ⟨g a, ?_, by show S (f (g a)); rw [hfg]; exact hs⟩
  show d.K w (f (g a)) cs
  rw [hfg]
  simpa using ha

theorem Opens.imp {α : Type} {d : Kd α} {S S' : α → Prop} (h : Opens P t d S) (hS : ∀ y, S y → S' y) : Opens P t d S' := by
  intro H enc w fuel cs x hx hn
  obtain ⟨y, hy, hs⟩ := h enc w fuel cs x hx hn
  exact ⟨y, hy, hS y hs⟩

/-- An argument: its cells, told. -/
theorem Opens.arg {H : Type} {enc : TypeId × Value → H} {α : Type} {d : Kd α} {S : α → Prop} {w : World} {ts : List TypeId} {ds : List (DataW H)} {j : Nat} {v : Value} {dd : DataW H} {ps : List MemPlace} (h : Opens P t d S)
    (hz : (DataW.weightsEach P ts ds).all (· ≤ reachBytes) = true) (ht : ts[j]? = some t) (hd : ds[j]? = some dd) (hv : DataW.Trod enc P w 0 (fun _ => true) true t v dd ps) : ∃ y : α, d.K w y v.cells.toList ∧ S y := by
  obtain ⟨fuel, hf⟩ := hv
  exact h enc w fuel _ (dd, ps) hf (fun n hn => by simpa using List.all_eq_true.1 hz n (DataW.weights_mem_each ht hd n hn))

theorem arg_lt {H : Type} {enc : TypeId × Value → H} {w : World} {v : Value} {dd : DataW H} {ps : List MemPlace} (hv : DataW.Trod enc P w 0 (fun _ => true) true t v dd ps) : ∀ x ∈ ps, x.block < w.heap.size := by
  obtain ⟨m, hm⟩ := hv
  exact DataW.trod_lt m _ _ _ hm
end
end Go.Proofs.YtbhfbbfjdklfgaaGreatDoor.Ro


/- The law CommitTags holds: for every input it returns true, and each argument reads afterwards as it read before. -/
namespace Go.Proofs.YtbhfbbfjdklfgaaGreatDoor.commitTags
open Go.ChangeShapes Go.WideShapes Go.ChangeAt Go.RowKit Go.Proofs.YtbhfbbfjdklfgaaGreatDoor.Ro Go.Proofs.YtbhfbbfjdklfgaaGreatDoor.Q Go.Proofs.YtbhfbbfjdklfgaaGreatDoorW.PrintWords
open Go.ChangeMaps (open_string shut_string)
theorem own : ownKnob Tryz.prog.godebug = none := by kernel_rfl
theorem laidOut : laidOutB Tryz.prog = true := by kernel_rfl
theorem opens37 : Opens Tryz.prog 37 k37 (fun y => (y.f0.size ≤ 140737488351232 ∧ (Lit.int .i64 y.f1).wf = true ∧ y.f2.size ≤ 140737488351232 ∧ (y.f3.f0.size ≤ 140737488351232 ∧ y.f3.f1.size ≤ 140737488351232 ∧ (Lit.int .i64 y.f3.f2).wf = true ∧ (Lit.int .i64 y.f3.f3).wf = true) ∧ y.f4.size ≤ 140737488351232)) := (Opens.struct (f := (fun x : S37 => (x.f0, x.f1, x.f2, x.f3, x.f4))) (g := (fun a => (⟨a.1, a.2.1, a.2.2.1, a.2.2.2.1, a.2.2.2.2⟩ : S37))) Tryz.underlying37 (by kernel_rfl) (fun _ => rfl) (OpensF.cons rfl (by kernel_rfl) rfl (Opens.string Tryz.underlying9) (OpensF.cons rfl (by kernel_rfl) rfl (Opens.int Tryz.underlying3) (OpensF.cons rfl (by kernel_rfl) rfl (Opens.string Tryz.underlying9) (OpensF.cons rfl (by kernel_rfl) rfl (Opens.struct (f := (fun x : S24 => (x.f0, x.f1, x.f2, x.f3))) (g := (fun a => (⟨a.1, a.2.1, a.2.2.1, a.2.2.2⟩ : S24))) Tryz.underlying24 (by kernel_rfl) (fun _ => rfl) (OpensF.cons rfl (by kernel_rfl) rfl (Opens.string Tryz.underlying9) (OpensF.cons rfl (by kernel_rfl) rfl (Opens.string Tryz.underlying9) (OpensF.cons rfl (by kernel_rfl) rfl (Opens.int Tryz.underlying3) (OpensF.one rfl (by kernel_rfl) (Opens.int Tryz.underlying3)))))) (OpensF.one rfl (by kernel_rfl) (Opens.string Tryz.underlying9)))))))
set_option maxRecDepth 100000 in
theorem lifted (os : Os) (started : os.Started) (H : Type) (enc : TypeId × Value → H) :
    ReturnsInHanded {} Tryz.checked os 5 .any (fun w args => (Rows.commitTagsSpec.pre enc Tryz.prog Tryz.f5 [] false w args ∧ laidMetH Tryz.prog Rows.commitTagsRow.laid w) ∧ sizedMet enc Tryz.prog Tryz.f5 (OpenSpec.ofChange Rows.commitTagsSpec) false w args) (Rows.commitTagsSpec.post enc Tryz.prog Tryz.f5 false true false false) := by
  refine returnsInHanded_and_shaped (C := Tryz.checked) (X := fun w _ => laidMetH Tryz.prog Rows.commitTagsRow.laid w) (fun _ _ _ hh h => h.of_heap hh) own started (by kernel_rfl) Tryz.func5
    (ChangeSpec.witness_shaped (enc := enc) (C := Tryz.checked) (os := os) (X := fun w _ => laidMetH Tryz.prog Rows.commitTagsRow.laid w) false (World.laidAll Tryz.prog os Rows.commitTagsRow.laid) #[.agg #[.string ByteArray.empty, .int .i64 0, .string ByteArray.empty, .string ByteArray.empty, .string ByteArray.empty, .int .i64 0, .int .i64 0, .string ByteArray.empty]] 8 (World.laidAll_os _ _ _)
      (World.shaped_of_ZipB (by kernel_rfl) (by kernel_rfl)) (by kernel_rfl) (by kernel_rfl) (by kernel_rfl)
      (by rw [MakeChecks.laidMetH_plain _ _ _ (by kernel_rfl)]; exact laidMet_laidAll _ (by kernel_rfl) (by kernel_rfl))) ?_
  intro W base args ds gs before hval0 hW hcnd hsz0 hlm0 hsh0
  have hsz : (DataW.weightsEach Tryz.prog (Tryz.f5.params.toList ++ Rows.commitTagsSpec.plain.varTypes Tryz.prog) (ds ++ gs)).all (· ≤ reachBytes) = true := hsz0
  have hval : ∀ (j : Nat) t v, Tryz.f5.params[j]? = some t → args[j]? = some v → Value.okWide Tryz.prog W .any base t v := hval0
  have hW' := hW
  obtain ⟨p, q, hA0, hV, rfl, hfz, hnd⟩ := hW
  have hA : DataW.TrodAll enc Tryz.prog W 0 (fun _ => true) true Tryz.f5.params.toList args.toList ds p := hA0
  rw [Tryz.params5] at hA hval hsz
  obtain ⟨v0, vs0, d0, ds0, p0, q0, hargs, rfl, rfl, h0, r0⟩ := trodAll_cons hA
  obtain ⟨rfl, rfl, rfl⟩ := trodAll_nil r0
  obtain rfl : args = #[v0] := by cases args; simp_all
  obtain ⟨rfl, rfl⟩ := trodVars_none hV
  have lt0 := arg_lt h0
  obtain ⟨y0, hk0, w0⟩ := opens37.arg hsz (j := 0) rfl rfl h0
  obtain ⟨cs0, rfl, _⟩ := okWide_struct Tryz.underlying37 (hval 0 37 v0 rfl rfl)
  have hk0' := k37_open hk0
  have e0 := hk0'
  obtain rfl : cs0 = #[.string y0.f0, .int .i64 y0.f1, .string y0.f2, .string y0.f3.f0, .string y0.f3.f1, .int .i64 y0.f3.f2, .int .i64 y0.f3.f3, .string y0.f4] := by cases cs0; simpa [Value.cells] using e0
  obtain ⟨k, hp⟩ := Pure.CommitTags _ w0
  clear hA0 hval0 hsz0 hsz
  refine (Q.graftagelaw16_CommitTags.calls k y0.f0 y0.f1 y0.f2 y0.f3.f0 y0.f3.f1 y0.f3.f2 y0.f3.f3 y0.f4 true W (GV.shaped hsh0 (l := Rows.commitTagsRow.laid) (by have h_ := hlm0; rw [MakeChecks.laidMetH_plain _ _ _ (by kernel_rfl)] at h_; exact h_) (.tail _ (.tail _ (.head _)))) hp).mono ?_
  rintro e W' ⟨rfl, bel0⟩
  have bel : Below W.heap.size W W' := bel0
  exact ⟨_, rfl, _, _, _, [], _, [], hW', trodAll_mk1 (shut_bool Tryz.underlying4 _), (trodAll_cons_mk (Below.trod laidOut (by kernel_rfl) (of_decide_eq_true (by kernel_rfl)) h0 bel lt0) trodAll_mk0), rfl, bel.frame _, fun h => by cases h⟩
theorem over : Rows.commitTagsRow.holds Tryz.pinned (OpenSpec.ofChange Rows.commitTagsSpec) :=
  OpenClaim.holds_of_wide 5 Tryz.f5 rfl rfl rfl rfl rfl rfl rfl ⟨rfl, rfl, rfl, rfl, rfl⟩ rfl rfl rfl rfl rfl (by kernel_rfl) Tryz.func5 joined
    (of_decide_eq_true (by kernel_rfl)) (by unfold Func.isWrapper; first | (rw [if_pos (by decide +kernel)]; kernel_rfl) | (rw [if_neg (by decide +kernel)]; exact ⟨rfl, rfl⟩))
    (fun os started H enc _ => lifted os started H enc)
theorem proved : Rows.CommitTagsSaid := over
theorem card_holds : Rows.CommitTagsCardSaid :=
  Claim7.holds_tied_plain_at .later [] [.data, .data, .data, .data, .sentinel, .sentinel, .pinned] true (true, "122aec7e533ec1bbbaac3b90e11b4338a89c93a5f0ce7185d6d93993e47251e7") true over (fun _ h => by cases h) jw (fun _ h => by cases h) commitTags_row_tie rfl ⟨rfl, rfl⟩ jm rfl
    (fun f fn hf hfn => by
      obtain rfl : f = 5 := Option.some.inj ((show Tryz.prog.funcNamed "graftage/graftagelaw16.CommitTags" = some 5 by kernel_rfl).symm.trans hf) |>.symm
      obtain rfl : fn = Tryz.f5 := (Option.some.inj (Tryz.func5.symm.trans hfn)).symm
      exact ⟨jl, fun j t ht => by
        rw [Tryz.params5] at ht
        have hm : t ∈ [37] := by simpa using Array.mem_of_getElem? ht
        have hall : ([37].all fun u => !Tryz.prog.wantsStandIn u) = true := by kernel_rfl
        exact (show Tryz.prog.wantsStandIn t = false by simpa using List.all_eq_true.1 hall t hm)⟩)
    jg
#print axioms card_holds
end Go.Proofs.YtbhfbbfjdklfgaaGreatDoor.commitTags
namespace Go.Proofs.YtbhfbbfjdklfgaaGreatDoor
/-- The statement, under a short name, for the claim. -/
theorem commitTags_holds : Rows.CommitTagsCardSaid := commitTags.card_holds
end Go.Proofs.YtbhfbbfjdklfgaaGreatDoor


