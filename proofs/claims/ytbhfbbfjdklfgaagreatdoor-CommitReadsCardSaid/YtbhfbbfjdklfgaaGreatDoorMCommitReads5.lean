/- The law CommitReads holds: for every input it returns true, and each argument reads afterwards as it read before. -/
import Derived.Test.YtbhfbbfjdklfgaaGreatDoorMCommitReads4
import Derived.Lib.IndexMore
import Derived.Lib.IndexLaws
import Derived.Lib.Atoi
import Derived.Lib.ItoaNum
import Derived.Lib.IndexAny
import Derived.Lib.LazyBuf
set_option linter.unusedVariables false
set_option linter.unusedSimpArgs false
set_option maxHeartbeats 8000000
set_option maxRecDepth 100000
namespace Go.Proofs.YtbhfbbfjdklfgaaGreatDoor.Q
open Go.Proofs.Tryz Go.RowKit Go.Proofs.YtbhfbbfjdklfgaaGreatDoorW.PrintWords Go.Proofs.YtbhfbbfjdklfgaaGreatDoorW.PrintLast Go.Proofs.YtbhfbbfjdklfgaaGreatDoorW.PrintMore
attribute [local go_sem] qec_ qef_ qen_ qeo_ qdt_ qdu_ qdz_ qee_
mutual
def qas_.l0 : Nat → List (S108) → List (S108) → Int → Int → MSI → Option (Int)
 | 0, _, _, _, _, _ => none
 | k + 1, x0, x10, x11, x12, x102000 => if x12 < x11 then (if 0 ≤ x12 then (if x12 < (x10.length : Int) then (if ((qo_ x10 x12).f1).size ≤ 9223372036854775807 then (if x102000.n < 4611686018427387904 then ((qdm_.f k ((qo_ x10 x12).f0) ((qo_ x10 x12).f1) ((qo_ x10 x12).f2)).bind fun t104 => (if t104 = true then (if x12 > 0 then (if 0 ≤ (wrap64 (x12 - 1)) then (if (wrap64 (x12 - 1)) < (x0.length : Int) then ((qfe_.f ((qo_ x0 (wrap64 (x12 - 1))).f0) ((qo_ x0 (wrap64 (x12 - 1))).f1) ((qo_ x0 (wrap64 (x12 - 1))).f2) ((qo_ x10 x12).f0) ((qo_ x10 x12).f1) ((qo_ x10 x12).f2)).bind fun t106 => (qas_.j1 k x0 x10 x11 x12 (!t106) (MSI.put x102000 ((qo_ x10 x12).f1) (wrap64 ((MSI.get x102000 ((qo_ x10 x12).f1)) + 1))) ((qo_ x10 x12).f0) ((qo_ x10 x12).f1) ((qo_ x10 x12).f2))) else (none)) else (none)) else (qas_.j1 k x0 x10 x11 x12 false (MSI.put x102000 ((qo_ x10 x12).f1) (wrap64 ((MSI.get x102000 ((qo_ x10 x12).f1)) + 1))) ((qo_ x10 x12).f0) ((qo_ x10 x12).f1) ((qo_ x10 x12).f2))) else (some 1))) else (none)) else (none)) else (none)) else (none)) else (some 0)
def qas_.j1 : Nat → List (S108) → List (S108) → Int → Int → Bool → MSI → Int → ByteArray → ByteArray → Option (Int)
 | 0, _, _, _, _, _, _, _, _, _ => none
 | k + 1, x0, x10, x11, x12, x26, x102000, x104000, x104001, x104002 => if x26 = true then (some 150) else (if x104001.size ≤ 9223372036854775807 then (if (MSI.get x102000 x104001) > 1 then (some 6) else (qas_.l0 k x0 x10 x11 (wrap64 (x12 + 1)) x102000)) else (none))
end
def qas_.f (k : Nat) (l0 : List (S108)) : Option (Int) := if (l0.length : Int) > 1024 then (some 4) else (qas_.l0 k l0 l0 (l0.length : Int) 0 MSI.nil)
theorem qas_.mono_l : ∀ k, (∀ y0 y1 y2 y3 y4, LeO (qas_.l0 k y0 y1 y2 y3 y4) (qas_.l0 (k + 1) y0 y1 y2 y3 y4)) ∧ (∀ y0 y1 y2 y3 y4 y5 y6 y7 y8, LeO (qas_.j1 k y0 y1 y2 y3 y4 y5 y6 y7 y8) (qas_.j1 (k + 1) y0 y1 y2 y3 y4 y5 y6 y7 y8))
 | 0 => ⟨fun _ _ _ _ _ r h => by simp [qas_.l0] at h, fun _ _ _ _ _ _ _ _ _ r h => by simp [qas_.j1] at h⟩
 | k + 1 => by
  obtain ⟨ih0, ih1⟩ := qas_.mono_l k
  refine ⟨?_, ?_⟩
  ·intro y0 y1 y2 y3 y4
   unfold qas_.l0
   have m0_ := @ih0
   have m1_ := @ih1
   have m2_ := @qdm_.mono
   exact mz_
  ·intro y0 y1 y2 y3 y4 y5 y6 y7 y8
   unfold qas_.j1
   have m0_ := @ih0
   have m1_ := @ih1
   have m2_ := @qdm_.mono
   exact mz_
theorem qas_.mono : ∀ a0 k, LeO (qas_.f k a0) (qas_.f (k + 1) a0) := by
 intro a0 k; obtain ⟨ih0, ih1⟩ := qas_.mono_l k; unfold qas_.f; have m0_ := @ih0; have m1_ := @ih1; have m2_ := @qdm_.mono; exact mz_
def qas_.T10 : Bool × List (List Nat × List Nat) := (true, [([], []), ([0], [0]), ([1], [1]), ([2], [2]), ([2], [2]), ([4, 2], [2, 4]), ([3, 5, 2], [2, 3, 5]), ([6, 2], [2, 6]), ([2], [2]), ([7, 8, 2, 2], [2, 7, 8]), ([9, 2], [2, 9]), ([2, 10], [2, 10]), ([11, 9], [11])])
def qas_.B10 : List Nat := [0, 1, 3, 7, 7, 23, 63, 127, 7, 511, 1023, 2047, 4095]
theorem qas_.tab10 : rtab .any (opsOf Tryz.f150 10) = qas_.T10 := by kernel_rfl
theorem qas_.bits10 : qdi_ qas_.T10.2 qas_.B10 = true := by kernel_rfl
theorem qas_.calls (k : Nat) (A0 : Option Addr) (c0 : Nat) (l0 : List (S108)) (r : Int) (w : World) (hr0 : Kd.C k108 w A0 l0.length l0) (hc0 : l0.length ≤ c0) (hgv : GV w) (h : qas_.f k l0 = some r) :
  Calls Tryz.prog 150 #[.slice A0 l0.length c0] w fun e w' => e = .returned (.int .i64 r) ∧ Below w.heap.size w w' := by
 have hu108 := underlying108; have HR0 := qa_.mk hr0; have HC0 := qa_.mk hc0; clear hr0 hc0; have HB := qa_.mk (Below.refl w.heap.size w); unfold qas_.f at h; have H := h; clear h; by_cases c2 : (l0.length : Int) > 1024
 ·rw [if_pos c2] at H; have c2b0 := dt_ c2; have c2b1 : decide (1024 < l0.length) = true := decide_eq_true (by omega); clear c2; obtain rfl := oi_ H; go_enter func150, ntmps150; go_wp2
  go_ret
  exact ⟨z3_, hb_ HB.out⟩
 rw [if_neg c2] at H; have c2b0 := df_ c2; have c2b1 : decide (1024 < l0.length) = false := decide_eq_false (by omega); clear c2; have H' := qa_.mk H; clear H; go_enter func150, ntmps150; go_wp2_with (first | ((with_reducible refine qk_ (N := 9) rfl ?_); refine mkmap_event rfl (N := 9) rfl rfl ?_; intro g101 hg w3 hbox hb; have HI101 := qa_.mk (qaq_.made hbox (gw_ hg HB.out)); replace HB := ah_ HB hb; clear hb hbox hg)); go_loopg [12] k (fun kq v12 w' => ∃ (x12_1 : Int) (x102000_1 : MSI), v12 = .int .i64 x12_1 ∧ qa_ (qas_.l0 kq l0 l0 (l0.length : Int) x12_1 x102000_1 = some r) ∧ qa_ (kq ≤ k) ∧ qa_ (qaq_ w w' g101 x102000_1) ∧ qa_ (Below w.heap.size w w'))
 case atStart => exact ⟨(0), (MSI.nil), z1_, H', ⟨Nat.le_refl _⟩, ⟨z19_⟩, ⟨z17_⟩⟩
 case round =>
  clear H'; try clear c1
  try clear c2
  try clear c2b0
  try clear c2b1
  try clear p2
  obtain ⟨x12_1, x102000_1, rfl, HA, HK1, HI101, HB⟩ := hrel
  cases gk with
  | zero => exact absurd HA.out (by simp [qas_.l0])
  | succ k1 =>
   have H := HA.out; clear HA; simp only [qas_.l0] at H; by_cases c4 : x12_1 < (l0.length : Int); rotate_left
   ·rw [if_neg c4] at H; have c4b0 := df_ c4; clear c4; obtain rfl := oi_ H; go_wp2
    go_ret
    exact ⟨z3_, z17_⟩
   rw [if_pos c4] at H; have c4b0 := dt_ c4; clear c4; by_cases c5 : 0 ≤ x12_1; rotate_left
   ·rw [if_neg c5] at H; exact no_ H
   rw [if_pos c5] at H; have c5b0 := dt_ c5; clear c5; by_cases c6 : x12_1 < (l0.length : Int); rotate_left
   ·rw [if_neg c6] at H; exact no_ H
   rw [if_pos c6] at H; have c6b0 := dt_ c6; clear c6; by_cases c7 : ((qo_ l0 x12_1).f1).size ≤ 9223372036854775807; rotate_left
   ·rw [if_neg c7] at H; exact no_ H
   rw [if_pos c7] at H; have c7b0 := eq_true c7; have c7b1 := dt_ c7; try have c7b2 := nl_ c7
   clear c7; have c8b0 := eq_true (y0_ : ((qo_ l0 x12_1).f1).size ≤ 9223372036854775807); by_cases c9 : x102000_1.n < 4611686018427387904; rotate_left
   ·rw [if_neg c9] at H; exact no_ H
   rw [if_pos c9] at H; have c9b0 := eq_true c9; have c9b1 := dt_ c9; clear c9; obtain ⟨t104, A10, H⟩ := bx_ H; by_cases c11 : t104 = true; rotate_left
   ·replace c11 := Bool.eq_false_iff.mpr c11; subst c11; rw [if_neg nft_] at H; obtain rfl := oi_ H; have p102 : 0 ≤ (x12_1 : Int) := y0_; have q102 : x12_1 < (l0.length : Int) := y0_; obtain ⟨ad102, e102, hx102_0, hx102_1, hx102_2⟩ := at_T108 HR0.out x12_1 p102 q102
    cases e102
    replace hx102_0 := (HB.out.cell (World.block_lt_of_cell? w _ hx102_0)).trans hx102_0; replace hx102_1 := (HB.out.cell (World.block_lt_of_cell? w _ hx102_1)).trans hx102_1; replace hx102_2 := (HB.out.cell (World.block_lt_of_cell? w _ hx102_2)).trans hx102_2; replace p102 := eq_true p102; replace q102 := eq_true q102; go_wp2_with (first | ((with_reducible refine qk_ (N := 5) rfl ?_); refine be_ (cs := #[.int .i64 0, .string ⟨#[]⟩, .string ⟨#[]⟩]) (t := 108) ?_; intro g103 hg w34 hbox hb; have K103 := qa_.mk (hbox); have W103 := qa_.mk ((by rw [hg]; exact (qn_ z17_) : w.heap.size ≤ g103)); have E103 := qa_.mk ((by rw [hg]; exact (qn_ z17_) : w.heap.size ≤ g103)); replace HB := qa_.mk (qc_ z17_ hb); have N101_103 := qa_.mk ((by rw [hg]; exact Nat.ne_of_lt (qaq_.lt (show qaq_ w _ g101 x102000_1 from z19_)) : g101 ≠ g103)); have N103_101 := qa_.mk ((by rw [hg]; exact Nat.ne_of_gt (qaq_.lt (show qaq_ w _ g101 x102000_1 from z19_)) : g103 ≠ g101)); replace HI101 := qa_.mk (qaq_.below z19_ hb); clear hb hbox hg; have hnb35 := N103_101.out; have hnc35 := N101_103.out; obtain ⟨Z36_0, Z36_1, Z36_2, F36⟩ := bc3 K103.out) | ((with_reducible refine qk_ (N := 20) rfl ?_); refine qaq_.look (show qaq_ w _ g101 x102000_1 from z12_) rfl rfl rfl rfl (y0_ : ((qo_ l0 x12_1).f1).size ≤ 9223372036854775807) ?_) | (at_mapUpdate; refine qaq_.put_ (k := ((qo_ l0 x12_1).f1)) (n := (wrap64 ((MSI.get x102000_1 ((qo_ l0 x12_1).f1)) + 1))) (show qaq_ w _ g101 x102000_1 from z12_) rfl rfl rfl rfl rfl (y0_ : ((qo_ l0 x12_1).f1).size ≤ 9223372036854775807) (y0_ : x102000_1.n < 4611686018427387904) (wrap64_wf _) ?_; intro w37 hi hg; replace K103 := qa_.mk (qdc_ (g := g103) (o := .cells #[.int .i64 ((qo_ l0 x12_1).f0), .string ((qo_ l0 x12_1).f1), .string ((qo_ l0 x12_1).f2)] 108 (0, 0)) (by have b_ := K103; exact zb_) hg (fun e_ => N103_101.out (Option.some.inj e_))); replace HB := qa_.mk (Below.grown z9_ hg ((qn_ z9_)) (fun k_ e_ => (Option.some.inj e_) ▸ (qaq_.ge hi))); replace HI101 := qa_.mk (hi); clear hi hg; obtain ⟨Z38_0, Z38_1, Z38_2, F38⟩ := bc3 K103.out) | ((with_reducible refine qb_ (f := 192) rfl ?_); refine gl_ (some 24) func192 #[.agg #[.int .i64 ((qo_ l0 x12_1).f0), .string ((qo_ l0 x12_1).f1), .string ((qo_ l0 x12_1).f2)]] ?_; (with_reducible refine (qdm_.calls k1 ((qo_ l0 x12_1).f0) ((qo_ l0 x12_1).f1) ((qo_ l0 x12_1).f2) false _ ?side1 A10.out).mono ?_); (case side1 => exact GV.below hgv z9_); rintro e w39 ⟨rfl, hb⟩; refine ⟨_, rfl, ?_⟩; replace K103 := ab_ K103 hb; replace HB := qa_.mk (qc_ z9_ hb); replace HI101 := qa_.mk (qaq_.below z12_ hb); (try clear hb); (try clear hb2); (try clear hk); (try clear hi)))
    go_ret
    exact ⟨z3_, z9_⟩
   subst c11; rw [if_pos rfl] at H; have HC12 := qa_.mk H; clear H; have p102 : 0 ≤ (x12_1 : Int) := y0_; have q102 : x12_1 < (l0.length : Int) := y0_; obtain ⟨ad102, e102, hx102_0, hx102_1, hx102_2⟩ := at_T108 HR0.out x12_1 p102 q102
   cases e102
   replace hx102_0 := (HB.out.cell (World.block_lt_of_cell? w _ hx102_0)).trans hx102_0; replace hx102_1 := (HB.out.cell (World.block_lt_of_cell? w _ hx102_1)).trans hx102_1; replace hx102_2 := (HB.out.cell (World.block_lt_of_cell? w _ hx102_2)).trans hx102_2; replace p102 := eq_true p102; replace q102 := eq_true q102; go_upto_region 10 with (first | ((with_reducible refine qk_ (N := 5) rfl ?_); refine be_ (cs := #[.int .i64 0, .string ⟨#[]⟩, .string ⟨#[]⟩]) (t := 108) ?_; intro g103 hg w13 hbox hb; have K103 := qa_.mk (hbox); have W103 := qa_.mk ((by rw [hg]; exact (qn_ z17_) : w.heap.size ≤ g103)); have E103 := qa_.mk ((by rw [hg]; exact (qn_ z17_) : w.heap.size ≤ g103)); replace HB := qa_.mk (qc_ z17_ hb); have N101_103 := qa_.mk ((by rw [hg]; exact Nat.ne_of_lt (qaq_.lt (show qaq_ w _ g101 x102000_1 from z19_)) : g101 ≠ g103)); have N103_101 := qa_.mk ((by rw [hg]; exact Nat.ne_of_gt (qaq_.lt (show qaq_ w _ g101 x102000_1 from z19_)) : g103 ≠ g101)); replace HI101 := qa_.mk (qaq_.below z19_ hb); clear hb hbox hg; have hnb14 := N103_101.out; have hnc14 := N101_103.out; obtain ⟨Z15_0, Z15_1, Z15_2, F15⟩ := bc3 K103.out) | ((with_reducible refine qk_ (N := 20) rfl ?_); refine qaq_.look (show qaq_ w _ g101 x102000_1 from z12_) rfl rfl rfl rfl (y0_ : ((qo_ l0 x12_1).f1).size ≤ 9223372036854775807) ?_) | (at_mapUpdate; refine qaq_.put_ (k := ((qo_ l0 x12_1).f1)) (n := (wrap64 ((MSI.get x102000_1 ((qo_ l0 x12_1).f1)) + 1))) (show qaq_ w _ g101 x102000_1 from z12_) rfl rfl rfl rfl rfl (y0_ : ((qo_ l0 x12_1).f1).size ≤ 9223372036854775807) (y0_ : x102000_1.n < 4611686018427387904) (wrap64_wf _) ?_; intro w16 hi hg; replace K103 := qa_.mk (qdc_ (g := g103) (o := .cells #[.int .i64 ((qo_ l0 x12_1).f0), .string ((qo_ l0 x12_1).f1), .string ((qo_ l0 x12_1).f2)] 108 (0, 0)) (by have b_ := K103; exact zb_) hg (fun e_ => N103_101.out (Option.some.inj e_))); replace HB := qa_.mk (Below.grown z9_ hg ((qn_ z9_)) (fun k_ e_ => (Option.some.inj e_) ▸ (qaq_.ge hi))); replace HI101 := qa_.mk (hi); clear hi hg; obtain ⟨Z17_0, Z17_1, Z17_2, F17⟩ := bc3 K103.out) | ((with_reducible refine qb_ (f := 192) rfl ?_); refine gl_ (some 24) func192 #[.agg #[.int .i64 ((qo_ l0 x12_1).f0), .string ((qo_ l0 x12_1).f1), .string ((qo_ l0 x12_1).f2)]] ?_; (with_reducible refine (qdm_.calls k1 ((qo_ l0 x12_1).f0) ((qo_ l0 x12_1).f1) ((qo_ l0 x12_1).f2) true _ ?side1 A10.out).mono ?_); (case side1 => exact GV.below hgv z9_); rintro e w18 ⟨rfl, hb⟩; refine ⟨_, rfl, ?_⟩; replace K103 := ab_ K103 hb; replace HB := qa_.mk (qc_ z9_ hb); replace HI101 := qa_.mk (qaq_.below z12_ hb); (try clear hb); (try clear hb2); (try clear hk); (try clear hi)))
   (try simp only [Act.put, List.setIfInBounds_toArray, List.set_cons_zero, List.set_cons_succ])
   go_cut [26] (fun v26 wc => ∃ (kq : Nat) (x26_11 : Bool), v26 = .bool x26_11 ∧ qa_ (qas_.j1 kq l0 l0 (l0.length : Int) x12_1 x26_11 (MSI.put x102000_1 ((qo_ l0 x12_1).f1) (wrap64 ((MSI.get x102000_1 ((qo_ l0 x12_1).f1)) + 1))) ((qo_ l0 x12_1).f0) ((qo_ l0 x12_1).f1) ((qo_ l0 x12_1).f2) = some r) ∧ qa_ (kq ≤ k1) ∧ qa_ (wc.heap[g103]? = some (.cells #[.int .i64 ((qo_ l0 x12_1).f0), .string ((qo_ l0 x12_1).f1), .string ((qo_ l0 x12_1).f2)] 108 (0, 0))) ∧ qa_ (qaq_ w wc g101 (MSI.put x102000_1 ((qo_ l0 x12_1).f1) (wrap64 ((MSI.get x102000_1 ((qo_ l0 x12_1).f1)) + 1)))) ∧ qa_ (Below w.heap.size w wc))
   case first =>
    have H := HC12.out; clear HC12; by_cases c19 : x12_1 > 0; rotate_left
    ·rw [if_neg c19] at H; have c19b0 := df_ c19; clear c19; (first | rw [c19b0] | (simp only [i64_w, i32_w]; rw [c19b0]) | skip); have H' := qa_.mk H; clear H; try go_wp2
     replace K103 := ad_ K103; replace HI101 := qa_.mk (qaq_.drew HI101.out); replace HB := hd_ HB; refine qdl_ (n := 13) (S := fun w' => True) (ds := []) (bs 13 0) (by kernel_rfl) rfl rfl trivial (fun qal_ => ?_); refine qds_ qas_.tab10 qas_.bits10 (fun HT_ HW_ => ?_); generalize w18.drew = w26 at K103 HI101 HB qal_ ⊢; refine pun_ 0 27 13 1 ?_; refine pun_ 1 28 13 3 ?_; refine pun_ 2 29 13 7 ?_; refine pnn_ 3 30 13 15 ?_; refine pnn_ 4 31 13 31 ?_; refine pnn_ 5 32 13 63 ?_; refine pnn_ 6 33 13 127 ?_; refine pnn_ 7 34 13 255 ?_; refine pnn_ 8 35 13 511 ?_; refine pnn_ 9 36 13 1023 ?_; refine pnn_ 10 37 13 2047 ?_; refine pun_ 11 38 13 4095 ?_; refine pun_ 12 26 13 8191 ?_; refine dn_ ?_; try go_wp2
     go_meet
     case rel => exact ⟨_, (false), z1_, H', ⟨by have := HK1.out; first | omega | exact Nat.le_refl _⟩, ⟨bk_ K103.out⟩, ⟨z12_⟩, ⟨z9_⟩⟩
    rw [if_pos c19] at H; have c19b0 := dt_ c19; clear c19; (first | rw [c19b0] | (simp only [i64_w, i32_w]; rw [c19b0]) | skip); obtain ⟨ji20, hji20⟩ : ∃ j_ : Int, (wrap64 (x12_1 - 1)) = j_ := ⟨_, rfl⟩; replace H : (if 0 ≤ (ji20) then (if (ji20) < (l0.length : Int) then ((qfe_.f ((qo_ l0 (ji20)).f0) ((qo_ l0 (ji20)).f1) ((qo_ l0 (ji20)).f2) ((qo_ l0 x12_1).f0) ((qo_ l0 x12_1).f1) ((qo_ l0 x12_1).f2)).bind fun t106 => (qas_.j1 k1 l0 l0 (l0.length : Int) x12_1 (!t106) (MSI.put x102000_1 ((qo_ l0 x12_1).f1) (wrap64 ((MSI.get x102000_1 ((qo_ l0 x12_1).f1)) + 1))) ((qo_ l0 x12_1).f0) ((qo_ l0 x12_1).f1) ((qo_ l0 x12_1).f2))) else (none)) else (none)) = some r := by first | (rw [hji20] at H; exact H) | (simp only [hji20] at H ⊢; exact H)
    have hji20w : (IntKind.i64.wrap (x12_1 - 1)) = ji20 := (i64_w _).trans hji20; by_cases c21 : 0 ≤ (ji20); rotate_left
    ·rw [if_neg c21] at H; exact no_ H
    rw [if_pos c21] at H; have c21b0 := dt_ c21; clear c21; by_cases c22 : (ji20) < (l0.length : Int); rotate_left
    ·rw [if_neg c22] at H; exact no_ H
    rw [if_pos c22] at H; have c22b0 := dt_ c22; clear c22; obtain ⟨t106, A23, H⟩ := bx_ H; have H' := qa_.mk H; clear H; try go_wp2
    replace K103 := ad_ K103; replace HI101 := qa_.mk (qaq_.drew HI101.out); replace HB := hd_ HB; have p105 : 0 ≤ ((ji20) : Int) := y0_; have q105 : (ji20) < (l0.length : Int) := y0_; obtain ⟨ad105, e105, hx105_0, hx105_1, hx105_2⟩ := at_T108 HR0.out (ji20) p105 q105; have hw105_2 := hx105_2; have hw105_1 := hx105_1; have hw105_0 := hx105_0; obtain rfl : ad102 = ad105 := (by injection e105); replace hx105_0 := (HB.out.cell (World.block_lt_of_cell? w _ hx105_0)).trans hx105_0; replace hx105_1 := (HB.out.cell (World.block_lt_of_cell? w _ hx105_1)).trans hx105_1; replace hx105_2 := (HB.out.cell (World.block_lt_of_cell? w _ hx105_2)).trans hx105_2; replace p105 := eq_true p105; replace q105 := eq_true q105; refine qdl_ (n := 13) (S := fun w' => w'.cell? ⟨g103, 0, none⟩ = some (.int .i64 ((qo_ l0 x12_1).f0)) ∧ w'.cell? ⟨g103, 1, none⟩ = some (.string ((qo_ l0 x12_1).f1)) ∧ w'.cell? ⟨g103, 2, none⟩ = some (.string ((qo_ l0 x12_1).f2)) ∧ w'.cell? (ad102.add (((ji20)).toNat * 3)) = some (.int .i64 ((qo_ l0 (ji20)).f0)) ∧ w'.cell? ⟨(ad102.add (((ji20)).toNat * 3)).block, (ad102.add (((ji20)).toNat * 3)).off + 1, none⟩ = some (.string ((qo_ l0 (ji20)).f1)) ∧ w'.cell? ⟨(ad102.add (((ji20)).toNat * 3)).block, (ad102.add (((ji20)).toNat * 3)).off + 2, none⟩ = some (.string ((qo_ l0 (ji20)).f2))) (ds := []) (bs 13 0) (by kernel_rfl) rfl rfl ⟨(qd_ K103.out 0).trans rfl, (qd_ K103.out 1).trans rfl, (qd_ K103.out 2).trans rfl, ((HB.out.cell (World.block_lt_of_cell? w _ hw105_0)).trans hw105_0), ((HB.out.cell (World.block_lt_of_cell? w _ hw105_1)).trans hw105_1), ((HB.out.cell (World.block_lt_of_cell? w _ hw105_2)).trans hw105_2)⟩ (fun qal_ => ?_); refine qds_ qas_.tab10 qas_.bits10 (fun HT_ HW_ => ?_); generalize w18.drew = w24 at K103 HI101 HB hx105_0 hx105_1 hx105_2 qal_ ⊢; refine pun_ 0 27 13 1 ?_; refine pun_ 1 28 13 3 ?_; refine pun_ 2 29 13 7 ?_; refine pun_ 3 30 13 15 ?_; refine pun_ 4 31 13 31 ?_; refine pun_ 5 32 13 63 ?_; refine pun_ 6 33 13 127 ?_; refine tkW6n_ 7 34 13 255 qal_ ?_; refine tkW6n_ 8 35 13 511 qal_ ?_; refine on_ 9 36 13 1023 (fun K hK => ?_); refine goes_ func193 (by kernel_rfl) rfl #[.agg #[.int .i64 ((qo_ l0 (ji20)).f0), .string ((qo_ l0 (ji20)).f1), .string ((qo_ l0 (ji20)).f2)], .agg #[.int .i64 ((qo_ l0 x12_1).f0), .string ((qo_ l0 x12_1).f1), .string ((qo_ l0 x12_1).f2)]] (by rfl) rfl rfl (by (try simp only [List.map_toArray, List.map_cons, List.map_nil]); first | done | (simp only [hji20]; rfl) | rfl | (simp only [List.length_drop, List.length_take]; rfl)) ?_
    with_reducible refine (qfe_.calls ((qo_ l0 (ji20)).f0) ((qo_ l0 (ji20)).f1) ((qo_ l0 (ji20)).f2) ((qo_ l0 x12_1).f0) ((qo_ l0 x12_1).f1) ((qo_ l0 x12_1).f2) t106 _ A23.out).mono ?_
    rintro e w25 ⟨rfl, hb⟩; refine ⟨_, rfl, ?_⟩; replace K103 := ab_ K103 hb; replace HB := qa_.mk (qc_ z9_ hb); replace HI101 := qa_.mk (qaq_.below z12_ hb); (try clear hb)
    (try clear hb2)
    (try clear hk)
    (try clear hi)
    refine hK.out _ _ ⟨(qd_ K103.out 0).trans rfl, (qd_ K103.out 1).trans rfl, (qd_ K103.out 2).trans rfl, ((HB.out.cell (World.block_lt_of_cell? w _ hw105_0)).trans hw105_0), ((HB.out.cell (World.block_lt_of_cell? w _ hw105_1)).trans hw105_1), ((HB.out.cell (World.block_lt_of_cell? w _ hw105_2)).trans hw105_2)⟩ (fun qal_ => ?_); clear hK K; refine norm_ (a' := ?_) ?_ ?_; rotate_left
    ·show Act.put _ (some 36) _ = _
     simp only [Act.put, List.setIfInBounds_toArray, List.set_cons_zero, List.set_cons_succ, i64_w, i32_w]; rfl
    refine pun_ 10 37 13 2047 ?_; refine pun_ 11 38 13 4095 ?_; refine pun_ 12 26 13 8191 ?_; refine dn_ ?_; try go_wp2
    (try subst hji20)
    go_meet
    case rel => exact ⟨_, (!t106), z1_, H', ⟨by have := HK1.out; first | omega | exact Nat.le_refl _⟩, ⟨bk_ K103.out⟩, ⟨z12_⟩, ⟨z9_⟩⟩
   case rest =>
    clear HC12; try clear c1
    try clear p1
    try clear q1
    try clear hx1
    try clear c2
    try clear c2b0
    try clear c2b1
    try clear p2
    try clear c4
    try clear c4b0
    try clear c5
    try clear c5b0
    try clear c6
    try clear c6b0
    try clear p6
    try clear c7
    try clear c7b0
    try clear c7b1
    try clear c7b2
    try clear c8
    try clear c8b0
    try clear c9
    try clear c9b0
    try clear c9b1
    try clear p10
    try clear q10
    try clear hx10
    try clear c11
    try clear c14
    try clear c15
    try clear c19
    try clear c19b0
    try clear c21
    try clear c21b0
    try clear c22
    try clear c22b0
    try clear Z15_0 Z15_1 Z15_2
    try clear Z17_0 Z17_1 Z17_2
    try clear F15
    try clear F17
    try clear hx102_0
    try clear hx102_1
    try clear hx102_2
    try clear hx105_0
    try clear hx105_1
    try clear hx105_2
    try clear p102
    try clear p105
    try clear p2
    try clear q102
    try clear q105
    obtain ⟨kq, x26_11, rfl, HA, HJ11, K103, HI101, HB⟩ := hcut
    cases kq with
    | zero => exact absurd HA.out (by simp [qas_.j1])
    | succ kj11 =>
     have H := HA.out; clear HA; simp only [qas_.j1] at H; by_cases c27 : x26_11 = true
     ·subst c27; rw [if_pos rfl] at H; obtain rfl := oi_ H; go_wp2
      go_ret
      exact ⟨z3_, z9_⟩
     replace c27 := Bool.eq_false_iff.mpr c27; subst c27; rw [if_neg nft_] at H; by_cases c28 : ((qo_ l0 x12_1).f1).size ≤ 9223372036854775807; rotate_left
     ·rw [if_neg c28] at H; exact no_ H
     rw [if_pos c28] at H; have c28b0 := eq_true c28; have c28b1 := dt_ c28; try have c28b2 := nl_ c28
     clear c28; by_cases c29 : (MSI.get (MSI.put x102000_1 ((qo_ l0 x12_1).f1) (wrap64 ((MSI.get x102000_1 ((qo_ l0 x12_1).f1)) + 1))) ((qo_ l0 x12_1).f1)) > 1
     ·rw [if_pos c29] at H; have c29b0 := dt_ c29; clear c29; obtain rfl := oi_ H; have hnb30 := N103_101.out; have hnc30 := N101_103.out; obtain ⟨Z31_0, Z31_1, Z31_2, F31⟩ := bc3 K103.out; go_wp2_with (first | ((with_reducible refine qk_ (N := 43) rfl ?_); refine qaq_.look (show qaq_ w _ g101 (MSI.put x102000_1 ((qo_ l0 x12_1).f1) (wrap64 ((MSI.get x102000_1 ((qo_ l0 x12_1).f1)) + 1))) from z12_) rfl rfl rfl rfl (y0_ : ((qo_ l0 x12_1).f1).size ≤ 9223372036854775807) ?_)); go_ret
      exact ⟨z3_, z9_⟩
     rw [if_neg c29] at H; have c29b0 := df_ c29; clear c29; have H' := qa_.mk H; clear H; have hnb32 := N103_101.out; have hnc32 := N101_103.out; obtain ⟨Z33_0, Z33_1, Z33_2, F33⟩ := bc3 K103.out; go_wp2_with (first | ((with_reducible refine qk_ (N := 43) rfl ?_); refine qaq_.look (show qaq_ w _ g101 (MSI.put x102000_1 ((qo_ l0 x12_1).f1) (wrap64 ((MSI.get x102000_1 ((qo_ l0 x12_1).f1)) + 1))) from z12_) rfl rfl rfl rfl (y0_ : ((qo_ l0 x12_1).f1).size ≤ 9223372036854775807) ?_)); go_roundg kj11
     case measure => have := HK1.out; have := HJ11.out; omega
     case rel => exact ⟨(wrap64 (x12_1 + 1)), ((MSI.put x102000_1 ((qo_ l0 x12_1).f1) (wrap64 ((MSI.get x102000_1 ((qo_ l0 x12_1).f1)) + 1)))), z1_, H', ⟨by have := HK1.out; have := HJ11.out; omega⟩, ⟨z12_⟩, ⟨z9_⟩⟩
def qbs_.l0 : Nat → ByteArray → List (S108) → Option ((List (S108)) × Int)
 | 0, _, _ => none
 | k + 1, x0, x4 => if x0.toList = ([] : List UInt8) then ((qas_.f k x4).bind fun t101 => (if t101 = 0 then (some (x4, 0)) else (some (([] : List (S108)), t101)))) else ((qcc_.f k x0).bind fun bt102 => (if bt102.2.2 = 0 then ((qbx_.f bt102.2.1 ⟨#[0]⟩).bind fun bt105 => (if bt105.2.2 = true then (if (bt105.2.1.size : Int) < 20 then (some (([] : List (S108)), 3)) else (if 0 ≤ 20 then (if 20 ≤ (bt105.2.1.size : Int) then ((qbn_.f k (bt105.2.1.extract 0 20)).bind fun t108 => (if x4.length < 3518437208883 then (qbs_.l0 k (bt105.2.1.extract 20 bt105.2.1.size) (x4 ++ [(⟨bt102.1, bt105.1, t108⟩ : S108)])) else (none))) else (none)) else (none))) else (some (([] : List (S108)), 3)))) else (some (([] : List (S108)), bt102.2.2))))
def qbs_.f (k : Nat) (a0 : ByteArray) : Option ((List (S108)) × Int) := qbs_.l0 k a0 ([] : List (S108))
theorem qbs_.mono_l : ∀ k, (∀ y0 y1, LeO (qbs_.l0 k y0 y1) (qbs_.l0 (k + 1) y0 y1))
 | 0 => fun _ _ r h => by simp [qbs_.l0] at h
 | k + 1 => by
  have ih0 := qbs_.mono_l k
  ·intro y0 y1
   unfold qbs_.l0
   have m0_ := @ih0
   have m1_ := @qbn_.mono
   have m2_ := @qas_.mono
   have m3_ := @qcc_.mono
   exact mz_
theorem qbs_.mono : ∀ a0 k, LeO (qbs_.f k a0) (qbs_.f (k + 1) a0) := by
 intro a0 k; have ih0 := qbs_.mono_l k; unfold qbs_.f; have m0_ := @ih0; have m1_ := @qbn_.mono; have m2_ := @qas_.mono; have m3_ := @qcc_.mono; exact mz_
theorem qbs_.calls (k : Nat) (a0 : ByteArray) (r1 : List (S108)) (r2 : Int) (w : World) (hgv : GV w) (h : qbs_.f k a0 = some (r1, r2)) :
  Calls Tryz.prog 94 #[.string a0] w fun e w' => ∃ v0_ : Value, e = .returned (.tuple #[v0_, .int .i64 r2]) ∧ Kd.R k108 108 w' w.heap.size (fun _ => True) v0_ r1 ∧ Below w.heap.size w w' := by
 have hu108 := underlying108; have HB := qa_.mk (Below.refl w.heap.size w); unfold qbs_.f at h; have H := h; clear h; have H' := qa_.mk H; clear H; go_enter func94, ntmps94; go_wp2
 go_loopg [0, 4] k (fun kq v0 v4 w' => ∃ (x0_1 : ByteArray) (x4_1 : List (S108)), v0 = .string x0_1 ∧ qa_ (qbs_.l0 kq x0_1 x4_1 = some (r1, r2)) ∧ qa_ (kq ≤ k) ∧ qa_ (Kd.R k108 108 w' w.heap.size (fun _ => True) v4 x4_1) ∧ qa_ (Below w.heap.size w w'))
 case atStart => exact ⟨(a0), (([] : List (S108))), z1_, H', ⟨Nat.le_refl _⟩, ⟨z6_⟩, ⟨hb_ HB.out⟩⟩
 case round =>
  clear H'; obtain ⟨x0_1, x4_1, rfl, HA, HK1, HO_4, HB⟩ := hrel
  cases gk with
  | zero => exact absurd HA.out (by simp [qbs_.l0])
  | succ k1 =>
   have H := HA.out; clear HA; simp only [qbs_.l0] at H; by_cases c2 : x0_1.toList = ([] : List UInt8)
   ·rw [if_pos c2] at H; have c2b0 := et_ c2; have c2b1 := nf_ c2; clear c2; obtain ⟨t101, A3, H⟩ := bx_ H; by_cases c4 : t101 = 0
    ·rw [if_pos c4] at H; have c4b0 := et_ c4; have c4b1 := nf_ c4; clear c4; obtain ⟨rfl, rfl⟩ := pj2_ H; obtain ⟨Ao5, co5, eo5⟩ := Kd.R_slice HO_4.out; subst eo5; go_wp2_with (first | ((with_reducible refine qb_ (f := 150) rfl ?_); refine gl_ (some 48) func150 #[.slice Ao5 x4_1.length co5] ?_; (with_reducible refine (qas_.calls k1 _ _ x4_1 t101 _ ?side1 ?side2 ?side3 A3.out).mono ?_); (case side1 => repeat (first | exact (Kd.R_reads' HO_4.out).2.2 | (with_reducible refine Kd.C_alloc ?_ _) | (with_reducible refine Kd.C_drewN ?_ _) | (with_reducible refine Kd.C_drew ?_))); (case side2 => exact (Kd.R_reads' HO_4.out).2.1); (case side3 => exact GV.below hgv (hb_ HB.out)); rintro e w6 ⟨rfl, hb⟩; refine ⟨_, rfl, ?_⟩; replace HO_4 := qa_.mk (Kd.R_below (rk_ HO_4.out) hb); replace HB := ah_ HB hb; (try clear hb); (try clear hb2); (try clear hk); (try clear hi)))
     go_ret2
     exact ⟨_, z3_, rk_ HO_4.out, hb_ HB.out⟩
    rw [if_neg c4] at H; have c4b0 := ef_ c4; have c4b1 := nt_ c4; obtain ⟨rfl, rfl⟩ := pj2_ H; obtain ⟨Ao7, co7, eo7⟩ := Kd.R_slice HO_4.out; subst eo7; go_wp2_with (first | ((with_reducible refine qb_ (f := 150) rfl ?_); refine gl_ (some 48) func150 #[.slice Ao7 x4_1.length co7] ?_; (with_reducible refine (qas_.calls k1 _ _ x4_1 t101 _ ?side1 ?side2 ?side3 A3.out).mono ?_); (case side1 => repeat (first | exact (Kd.R_reads' HO_4.out).2.2 | (with_reducible refine Kd.C_alloc ?_ _) | (with_reducible refine Kd.C_drewN ?_ _) | (with_reducible refine Kd.C_drew ?_))); (case side2 => exact (Kd.R_reads' HO_4.out).2.1); (case side3 => exact GV.below hgv (hb_ HB.out)); rintro e w8 ⟨rfl, hb⟩; refine ⟨_, rfl, ?_⟩; replace HO_4 := qa_.mk (Kd.R_below (rk_ HO_4.out) hb); replace HB := ah_ HB hb; (try clear hb); (try clear hb2); (try clear hk); (try clear hi)))
    go_ret2
    exact ⟨_, z3_, z6_, hb_ HB.out⟩
   rw [if_neg c2] at H; have c2b0 := ef_ c2; have c2b1 := nt_ c2; obtain ⟨⟨t102, t103, t104⟩, A9, H⟩ := bx_ H; dsimp only at H; by_cases c10 : t104 = 0; rotate_left
   ·rw [if_neg c10] at H; have c10b0 := ef_ c10; have c10b1 := nt_ c10; obtain ⟨rfl, rfl⟩ := pj2_ H; go_wp2_with (first | ((with_reducible refine qb_ (f := 148) rfl ?_); refine gl_ (some 16) func148 #[.string x0_1] ?_; refine cm_ (qcc_.calls k1 x0_1 t102 t103 t104 _ A9.out) ?_; rintro w' ⟨nd, rfl⟩)); go_ret2
    exact ⟨_, z3_, z6_, hb_ HB.out⟩
   rw [if_pos c10] at H; have c10b0 := et_ c10; have c10b1 := nf_ c10; clear c10; obtain ⟨⟨t105, t106, t107⟩, A11, H⟩ := bx_ H; dsimp only at H; by_cases c12 : t107 = true; rotate_left
   ·replace c12 := Bool.eq_false_iff.mpr c12; subst c12; rw [if_neg nft_] at H; obtain ⟨rfl, rfl⟩ := pj2_ H; go_wp2_with (first | ((with_reducible refine qb_ (f := 148) rfl ?_); refine gl_ (some 16) func148 #[.string x0_1] ?_; refine cm_ (qcc_.calls k1 x0_1 t102 t103 t104 _ A9.out) ?_; rintro w' ⟨nd, rfl⟩) | ((with_reducible refine qb_ (f := 82) rfl ?_); refine gl_ (some 25) func82 #[.string t103, .string ⟨#[0]⟩] ?_; (with_reducible refine (qbx_.calls t103 ⟨#[0]⟩ t105 t106 false _ ?side1 A11.out).mono ?_); (case side1 => exact GV.below hgv (hb_ HB.out)); rintro e w' ⟨rfl, ⟨nd, rfl⟩⟩; refine ⟨_, rfl, ?_⟩)); go_ret2
    exact ⟨_, z3_, z6_, hb_ HB.out⟩
   subst c12; rw [if_pos rfl] at H; by_cases c13 : (t106.size : Int) < 20
   ·rw [if_pos c13] at H; have c13b0 := dt_ c13; have c13b1 : decide (t106.size < 20) = true := decide_eq_true (by omega); clear c13; obtain ⟨rfl, rfl⟩ := pj2_ H; go_wp2_with (first | ((with_reducible refine qb_ (f := 148) rfl ?_); refine gl_ (some 16) func148 #[.string x0_1] ?_; refine cm_ (qcc_.calls k1 x0_1 t102 t103 t104 _ A9.out) ?_; rintro w' ⟨nd, rfl⟩) | ((with_reducible refine qb_ (f := 82) rfl ?_); refine gl_ (some 25) func82 #[.string t103, .string ⟨#[0]⟩] ?_; (with_reducible refine (qbx_.calls t103 ⟨#[0]⟩ t105 t106 true _ ?side1 A11.out).mono ?_); (case side1 => exact GV.below hgv (hb_ HB.out)); rintro e w' ⟨rfl, ⟨nd, rfl⟩⟩; refine ⟨_, rfl, ?_⟩)); go_ret2
    exact ⟨_, z3_, z6_, hb_ HB.out⟩
   rw [if_neg c13] at H; have c13b0 := df_ c13; have c13b1 : decide (t106.size < 20) = false := decide_eq_false (by omega); clear c13; by_cases c14 : 0 ≤ 20; rotate_left
   ·rw [if_neg c14] at H; exact no_ H
   rw [if_pos c14] at H; have c14b0 := eq_true c14; have c14b1 := dt_ c14; clear c14; by_cases c15 : 20 ≤ (t106.size : Int); rotate_left
   ·rw [if_neg c15] at H; exact no_ H
   rw [if_pos c15] at H; have c15b0 := eq_true c15; have c15b1 := dt_ c15; clear c15; obtain ⟨t108, A16, H⟩ := bx_ H; by_cases c17 : x4_1.length < 3518437208883; rotate_left
   ·rw [if_neg c17] at H; exact no_ H
   rw [if_pos c17] at H; have LMc17 := qa_.mk c17; clear c17; obtain ⟨y109, hy109⟩ : ∃ y_ : List (S108), y_ = (x4_1 ++ [(⟨t102, t105, t108⟩ : S108)]) := ⟨_, rfl⟩; replace H : (qbs_.l0 k1 (t106.extract 20 t106.size) y109) = some (r1, r2) := by first | (rw [hy109]; with_reducible exact H) | (have H2_ := (Option.bind_some _ _).symm.trans H; rw [hy109]; with_reducible exact H2_) | (have H2_ := (Option.bind_some _ _).symm.trans H; with_reducible exact H2_) | with_reducible exact H | (rw [hy109]; exact H) | exact H
   have Ny109 := qa_.mk hy109; clear hy109; have c18b0 := eq_true (y0_ : 20 ≤ (t106.size : Int)); have H' := qa_.mk H; clear H; go_wp2_with (first | ((with_reducible refine qb_ (f := 148) rfl ?_); refine gl_ (some 16) func148 #[.string x0_1] ?_; refine cm_ (qcc_.calls k1 x0_1 t102 t103 t104 _ A9.out) ?_; rintro w' ⟨nd, rfl⟩) | ((with_reducible refine qb_ (f := 82) rfl ?_); refine gl_ (some 25) func82 #[.string t103, .string ⟨#[0]⟩] ?_; (with_reducible refine (qbx_.calls t103 ⟨#[0]⟩ t105 t106 true _ ?side1 A11.out).mono ?_); (case side1 => exact GV.below hgv (hb_ HB.out)); rintro e w' ⟨rfl, ⟨nd, rfl⟩⟩; refine ⟨_, rfl, ?_⟩) | ((with_reducible refine qb_ (f := 149) rfl ?_); refine gl_ (some 41) func149 #[.string (t106.extract 0 20)] ?_; refine cm_ (qbn_.calls k1 (t106.extract 0 20) t108 _ A16.out) fun w19 hb => ?_; replace HO_4 := qa_.mk (Kd.R_below (rk_ HO_4.out) hb); replace HB := ah_ HB hb; (try clear hb); (try clear hb2); (try clear hk); (try clear hi)) | ((with_reducible refine qey_ (b := .append) (xs := #[.tmp 36, .tmp 43]) rfl ?_); (try (refine qcp_ (by rfl) ?_; dsimp only)); at_builtin; refine Kd.R_append k108 (w0 := w) w.heap.size rfl (.tmp 36) (.tmp 43) 104 108 (.agg #[(.int .i64 0), (.string ⟨#[]⟩), (.string ⟨#[]⟩)]) 40 rfl underlying104 info108 rfl (by decide) (by omega) u4 x4_1 (⟨t102, t105, t108⟩ : S108) [.int .i64 t102, .string t105, .string t108] (fun _ => True) (fun _ => False) rfl rfl ?aP (fun _ hk => hk.elim) ?aF ?aO ?aB ?aS ?aL ?_; (case aP => exact k108_mkM _ _ _ (⟨t102, t105, t108⟩ : S108)); (case aB => exact (hb_ HB.out)); (case aF => exact (fun _ _ => trivial)); (case aO => exact (rk_ HO_4.out)); (case aS => exact (qn_ (hb_ HB.out))); (case aL => have := LMc17.out; omega); intro v110 w20 ho hb hg hat; rw [← Ny109.out] at ho; have n0_ := qa_.mk (hb); have n1_ := qa_.mk (ho); clear HB; clear HO_4; have HB := n0_; have HO111 := n1_; clear n0_ n1_; clear ho hb hg hat)); go_roundg k1
   case measure => have := HK1.out; omega
   case rel => exact ⟨(t106.extract 20 t106.size), (y109), z1_, H', ⟨by have := HK1.out; omega⟩, ⟨by (with_reducible repeat (first | apply Kd.R_alloc | apply Kd.R_drewN | apply Kd.R_drew)); exact HO111.out⟩, ⟨hb_ HB.out⟩⟩
def qcl_.f (k : Nat) (a0_0 : Int) (a0_1 : ByteArray) : Option (Int) := (qch_.f a0_0 a0_1).bind fun bt102 => (if bt102.2 = 0 then (if a0_0 = 2 then ((qbs_.f k a0_1).bind fun bt104 => (some bt104.2)) else (if a0_0 = 3 then ((qh_.f k a0_1).bind fun bt108 => (some bt108.2.2.2.2.2.2.2.2.2.2.2)) else (if a0_0 = 4 then ((qu_.f k a0_1).bind fun bt122 => (some bt122.2.2.2.2.2.2.2.2)) else (some bt102.2)))) else (some bt102.2))
theorem qcl_.mono : ∀ a0 a1 k, LeO (qcl_.f k a0 a1) (qcl_.f (k + 1) a0 a1) := by
 intro a0 a1 k; unfold qcl_.f; have m0_ := @qh_.mono; have m1_ := @qu_.mono; have m2_ := @qbs_.mono; exact mz_
theorem qcl_.calls (k : Nat) (a0_0 : Int) (a0_1 : ByteArray) (r : Int) (w : World) (hgv : GV w) (h : qcl_.f k a0_0 a0_1 = some r) :
  Calls Tryz.prog 36 #[.agg #[.int .i64 a0_0, .string a0_1]] w fun e w' => e = .returned (.int .i64 r) ∧ Below w.heap.size w w' := by
 have hu50 := underlying50; have HB := qa_.mk (Below.refl w.heap.size w); unfold qcl_.f at h; have H := h; clear h; obtain ⟨⟨t102, t103⟩, A2, H⟩ := bx_ H; dsimp only at H; by_cases c3 : t103 = 0; rotate_left
 ·rw [if_neg c3] at H; have c3b0 := ef_ c3; have c3b1 := nt_ c3; obtain rfl := oi_ H; go_enter func36, ntmps36; go_wp2_with (first | ((with_reducible refine qk_ (N := 1) rfl ?_); refine be_ (cs := #[.int .i64 a0_0, .string a0_1]) (t := 50) ?_; intro g101 hg w29 hbox hb; have K101 := qa_.mk (hbox); have W101 := ag_ hg HB; have E101 := ag_ hg HB; replace HB := ah_ HB hb; clear hb hbox hg; obtain ⟨Z30_0, Z30_1, F30⟩ := bc2 K101.out) | ((with_reducible refine qb_ (f := 97) rfl ?_); refine gl_ (some 7) func97 #[.agg #[.int .i64 a0_0, .string a0_1]] ?_; (with_reducible refine (qch_.calls a0_0 a0_1 t102 t103 _ ?side1 A2.out).mono ?_); (case side1 => exact GV.below hgv (hs_)); rintro e w31 ⟨rfl, hb⟩; refine ⟨_, rfl, ?_⟩; replace K101 := ab_ K101 hb; replace HB := qa_.mk (qc_ (hs_) hb); (try clear hb); (try clear hb2); (try clear hk); (try clear hi)))
  go_ret
  exact ⟨z3_, hs_⟩
 rw [if_pos c3] at H; have c3b0 := et_ c3; have c3b1 := nf_ c3; clear c3; by_cases c4 : a0_0 = 2
 ·rw [if_pos c4] at H; have c4b0 := et_ c4; have c4b1 := nf_ c4; clear c4; obtain ⟨⟨t104, t105⟩, A5, H⟩ := bx_ H; dsimp only at H; obtain rfl := oi_ H; go_enter func36, ntmps36; go_wp2_with (first | ((with_reducible refine qk_ (N := 1) rfl ?_); refine be_ (cs := #[.int .i64 a0_0, .string a0_1]) (t := 50) ?_; intro g101 hg w6 hbox hb; have K101 := qa_.mk (hbox); have W101 := ag_ hg HB; have E101 := ag_ hg HB; replace HB := ah_ HB hb; clear hb hbox hg; obtain ⟨Z7_0, Z7_1, F7⟩ := bc2 K101.out) | ((with_reducible refine qb_ (f := 97) rfl ?_); refine gl_ (some 7) func97 #[.agg #[.int .i64 a0_0, .string a0_1]] ?_; (with_reducible refine (qch_.calls a0_0 a0_1 t102 t103 _ ?side1 A2.out).mono ?_); (case side1 => exact GV.below hgv (hs_)); rintro e w8 ⟨rfl, hb⟩; refine ⟨_, rfl, ?_⟩; replace K101 := ab_ K101 hb; replace HB := qa_.mk (qc_ (hs_) hb); (try clear hb); (try clear hb2); (try clear hk); (try clear hi); obtain ⟨Z9_0, Z9_1, F9⟩ := bc2 K101.out) | ((with_reducible refine qb_ (f := 94) rfl ?_); refine gl_ (some 20) func94 #[.string a0_1] ?_; (with_reducible refine (qbs_.calls k a0_1 t104 t105 _ ?side1 A5.out).mono ?_); (case side1 => exact GV.below hgv (hs_)); rintro e w10 ⟨v106, rfl, ho0, hb⟩; refine ⟨_, rfl, ?_⟩; have HO107 := qa_.mk (Kd.R_lower ho0 (qn_ (hs_))); replace K101 := ab_ K101 hb; replace HB := qa_.mk (qc_ (hs_) hb); (try clear hb); (try clear hb2); (try clear hk); (try clear hi); (try clear ho0)))
  go_ret
  exact ⟨z3_, hs_⟩
 rw [if_neg c4] at H; have c4b0 := ef_ c4; have c4b1 := nt_ c4; by_cases c11 : a0_0 = 3
 ·rw [if_pos c11] at H; have c11b0 := et_ c11; have c11b1 := nf_ c11; clear c11; obtain ⟨⟨t108, t109, t112, t113, t114, t115, t116, t117, t118, t119, t120, t121⟩, A12, H⟩ := bx_ H; dsimp only at H; obtain rfl := oi_ H; go_enter func36, ntmps36; go_wp2_with (first | ((with_reducible refine qk_ (N := 1) rfl ?_); refine be_ (cs := #[.int .i64 a0_0, .string a0_1]) (t := 50) ?_; intro g101 hg w13 hbox hb; have K101 := qa_.mk (hbox); have W101 := ag_ hg HB; have E101 := ag_ hg HB; replace HB := ah_ HB hb; clear hb hbox hg; obtain ⟨Z14_0, Z14_1, F14⟩ := bc2 K101.out) | ((with_reducible refine qb_ (f := 97) rfl ?_); refine gl_ (some 7) func97 #[.agg #[.int .i64 a0_0, .string a0_1]] ?_; (with_reducible refine (qch_.calls a0_0 a0_1 t102 t103 _ ?side1 A2.out).mono ?_); (case side1 => exact GV.below hgv (hs_)); rintro e w15 ⟨rfl, hb⟩; refine ⟨_, rfl, ?_⟩; replace K101 := ab_ K101 hb; replace HB := qa_.mk (qc_ (hs_) hb); (try clear hb); (try clear hb2); (try clear hk); (try clear hi); obtain ⟨Z16_0, Z16_1, F16⟩ := bc2 K101.out) | ((with_reducible refine qb_ (f := 20) rfl ?_); refine gl_ (some 28) func20 #[.string a0_1] ?_; (with_reducible refine (qh_.calls k a0_1 t108 t109 t112 t113 t114 t115 t116 t117 t118 t119 t120 t121 _ ?side1 A12.out).mono ?_); (case side1 => exact GV.below hgv (hs_)); rintro e w17 ⟨v110, rfl, ho0, hb⟩; refine ⟨_, rfl, ?_⟩; have HO111 := qa_.mk (Kd.R_lower ho0 (qn_ (hs_))); replace K101 := ab_ K101 hb; replace HB := qa_.mk (qc_ (hs_) hb); (try clear hb); (try clear hb2); (try clear hk); (try clear hi); (try clear ho0)))
  go_ret
  exact ⟨z3_, hs_⟩
 rw [if_neg c11] at H; have c11b0 := ef_ c11; have c11b1 := nt_ c11; by_cases c18 : a0_0 = 4; rotate_left
 ·rw [if_neg c18] at H; have c18b0 := ef_ c18; have c18b1 := nt_ c18; obtain rfl := oi_ H; go_enter func36, ntmps36; go_wp2_with (first | ((with_reducible refine qk_ (N := 1) rfl ?_); refine be_ (cs := #[.int .i64 a0_0, .string a0_1]) (t := 50) ?_; intro g101 hg w25 hbox hb; have K101 := qa_.mk (hbox); have W101 := ag_ hg HB; have E101 := ag_ hg HB; replace HB := ah_ HB hb; clear hb hbox hg; obtain ⟨Z26_0, Z26_1, F26⟩ := bc2 K101.out) | ((with_reducible refine qb_ (f := 97) rfl ?_); refine gl_ (some 7) func97 #[.agg #[.int .i64 a0_0, .string a0_1]] ?_; (with_reducible refine (qch_.calls a0_0 a0_1 t102 t103 _ ?side1 A2.out).mono ?_); (case side1 => exact GV.below hgv (hs_)); rintro e w27 ⟨rfl, hb⟩; refine ⟨_, rfl, ?_⟩; replace K101 := ab_ K101 hb; replace HB := qa_.mk (qc_ (hs_) hb); (try clear hb); (try clear hb2); (try clear hk); (try clear hi); obtain ⟨Z28_0, Z28_1, F28⟩ := bc2 K101.out)); go_ret
  exact ⟨z3_, hs_⟩
 rw [if_pos c18] at H; have c18b0 := et_ c18; have c18b1 := nf_ c18; clear c18; obtain ⟨⟨t122, t123, t124, t125, t126, t127, t128, t129, t130⟩, A19, H⟩ := bx_ H; dsimp only at H; obtain rfl := oi_ H; go_enter func36, ntmps36; go_wp2_with (first | ((with_reducible refine qk_ (N := 1) rfl ?_); refine be_ (cs := #[.int .i64 a0_0, .string a0_1]) (t := 50) ?_; intro g101 hg w20 hbox hb; have K101 := qa_.mk (hbox); have W101 := ag_ hg HB; have E101 := ag_ hg HB; replace HB := ah_ HB hb; clear hb hbox hg; obtain ⟨Z21_0, Z21_1, F21⟩ := bc2 K101.out) | ((with_reducible refine qb_ (f := 97) rfl ?_); refine gl_ (some 7) func97 #[.agg #[.int .i64 a0_0, .string a0_1]] ?_; (with_reducible refine (qch_.calls a0_0 a0_1 t102 t103 _ ?side1 A2.out).mono ?_); (case side1 => exact GV.below hgv (hs_)); rintro e w22 ⟨rfl, hb⟩; refine ⟨_, rfl, ?_⟩; replace K101 := ab_ K101 hb; replace HB := qa_.mk (qc_ (hs_) hb); (try clear hb); (try clear hb2); (try clear hk); (try clear hi); obtain ⟨Z23_0, Z23_1, F23⟩ := bc2 K101.out) | ((with_reducible refine qb_ (f := 23) rfl ?_); refine gl_ (some 36) func23 #[.string a0_1] ?_; (with_reducible refine (qu_.calls k a0_1 t122 t123 t124 t125 t126 t127 t128 t129 t130 _ ?side1 A19.out).mono ?_); (case side1 => exact GV.below hgv (hs_)); rintro e w24 ⟨rfl, hb⟩; refine ⟨_, rfl, ?_⟩; replace K101 := ab_ K101 hb; replace HB := qa_.mk (qc_ (hs_) hb); (try clear hb); (try clear hb2); (try clear hk); (try clear hi)))
 go_ret
 exact ⟨z3_, hs_⟩
def qz_.l0 : Nat → List ByteArray → ByteArray → Int → Int → Option (Int)
 | 0, _, _, _, _ => none
 | k + 1, x0, x1, x7, x8 => if x8 < x7 then (if 0 ≤ x8 then (if x8 < (x0.length : Int) then (if x1.toList = (rdOf ByteArray.empty x0 x8).toList then (some x8) else (qz_.l0 k x0 x1 x7 (wrap64 (x8 + 1)))) else (none)) else (none)) else (some (-1))
def qz_.f (k : Nat) (l0 : List ByteArray) (a1 : ByteArray) : Option (Int) := qz_.l0 k l0 a1 (l0.length : Int) 0
theorem qz_.mono_l : ∀ k, (∀ y0 y1 y2 y3, LeO (qz_.l0 k y0 y1 y2 y3) (qz_.l0 (k + 1) y0 y1 y2 y3))
 | 0 => fun _ _ _ _ r h => by simp [qz_.l0] at h
 | k + 1 => by
  have ih0 := qz_.mono_l k
  ·intro y0 y1 y2 y3
   unfold qz_.l0
   have m0_ := @ih0
   exact mz_
theorem qz_.mono : ∀ a0 a1 k, LeO (qz_.f k a0 a1) (qz_.f (k + 1) a0 a1) := by
 intro a0 a1 k; have ih0 := qz_.mono_l k; unfold qz_.f; have m0_ := @ih0; exact mz_
theorem qz_.calls (k : Nat) (A0 : Option Addr) (c0 : Nat) (l0 : List ByteArray) (a1 : ByteArray) (r : Int) (w : World) (hr0 : Kd.C Kd.string w A0 l0.length l0) (hc0 : l0.length ≤ c0) (h : qz_.f k l0 a1 = some r) :
  Calls Tryz.prog 151 #[.slice A0 l0.length c0, .string a1] w fun e w' => e = .returned (.int .i64 r) ∧ Drawn0 w w' := by
 have HR0 := qa_.mk hr0; have HC0 := qa_.mk hc0; clear hr0 hc0; unfold qz_.f at h; have H := h; clear h; have H' := qa_.mk H; clear H; go_enter func151, ntmps151; go_wp2
 go_loopg [8] k (fun kq v8 w' => ∃ (x8_1 : Int), v8 = .int .i64 x8_1 ∧ qa_ (qz_.l0 kq l0 a1 (l0.length : Int) x8_1 = some r) ∧ qa_ (kq ≤ k) ∧ Drawn0 w w')
 case atStart => exact ⟨(0), z1_, H', ⟨Nat.le_refl _⟩, z2_⟩
 case round =>
  clear H'; try clear c1
  try clear p2
  obtain ⟨x8_1, rfl, HA, HK1, ⟨m1, rfl⟩⟩ := hrel
  cases gk with
  | zero => exact absurd HA.out (by simp [qz_.l0])
  | succ k1 =>
   have H := HA.out; clear HA; simp only [qz_.l0] at H; by_cases c3 : x8_1 < (l0.length : Int); rotate_left
   ·rw [if_neg c3] at H; have c3b0 := df_ c3; clear c3; obtain rfl := oi_ H; go_wp2
    go_ret
    exact ⟨z1_, z2_⟩
   rw [if_pos c3] at H; have c3b0 := dt_ c3; clear c3; by_cases c4 : 0 ≤ x8_1; rotate_left
   ·rw [if_neg c4] at H; exact no_ H
   rw [if_pos c4] at H; have c4b0 := dt_ c4; clear c4; by_cases c5 : x8_1 < (l0.length : Int); rotate_left
   ·rw [if_neg c5] at H; exact no_ H
   rw [if_pos c5] at H; have c5b0 := dt_ c5; clear c5; by_cases c6 : a1.toList = (rdOf ByteArray.empty l0 x8_1).toList
   ·rw [if_pos c6] at H; have c6b0 := et_ c6; have c6b1 := nf_ c6; clear c6; obtain rfl := oi_ H; have p190 : 0 ≤ (x8_1 : Int) := y0_; have q190 : x8_1 < (l0.length : Int) := y0_; obtain ⟨ad190, e190, hx190_0⟩ := Kd.at_string HR0.out x8_1 p190 q190
    cases e190
    replace p190 := eq_true p190; replace q190 := eq_true q190; go_wp2
    go_ret
    exact ⟨z1_, z2_⟩
   rw [if_neg c6] at H; have c6b0 := ef_ c6; have c6b1 := nt_ c6; have H' := qa_.mk H; clear H; have p190 : 0 ≤ (x8_1 : Int) := y0_; have q190 : x8_1 < (l0.length : Int) := y0_; obtain ⟨ad190, e190, hx190_0⟩ := Kd.at_string HR0.out x8_1 p190 q190
   cases e190
   replace p190 := eq_true p190; replace q190 := eq_true q190; go_wp2
   go_roundg k1
   case measure => have := HK1.out; omega
   case rel => exact ⟨(wrap64 (x8_1 + 1)), z1_, H', ⟨by have := HK1.out; omega⟩, z2_⟩
def qaz_.f (k : Nat) (l0 : List ByteArray) (a1 : ByteArray) : Option (Bool) := (qz_.f k l0 a1).bind fun t191 => (some (decide (t191 ≥ 0)))
theorem qaz_.mono : ∀ a0 a1 k, LeO (qaz_.f k a0 a1) (qaz_.f (k + 1) a0 a1) := by
 intro a0 a1 k; unfold qaz_.f; have m0_ := @qz_.mono; exact mz_
theorem qaz_.calls (k : Nat) (A0 : Option Addr) (c0 : Nat) (l0 : List ByteArray) (a1 : ByteArray) (r : Bool) (w : World) (hr0 : Kd.C Kd.string w A0 l0.length l0) (hc0 : l0.length ≤ c0) (h : qaz_.f k l0 a1 = some r) :
  Calls Tryz.prog 95 #[.slice A0 l0.length c0, .string a1] w fun e w' => e = .returned (.bool r) ∧ Drawn0 w w' := by
 have HR0 := qa_.mk hr0; have HC0 := qa_.mk hc0; clear hr0 hc0; unfold qaz_.f at h; have H := h; clear h; obtain ⟨t191, A3, H⟩ := bx_ H; obtain rfl := oi_ H; go_enter func95, ntmps95; go_wp2_with (first | ((with_reducible refine qb_ (f := 151) rfl ?_); refine gl_ (some 7) func151 #[.slice A0 l0.length c0, .string a1] ?_; (with_reducible refine (qz_.calls k _ _ l0 a1 t191 _ ?side1 ?side2 A3.out).mono ?_); (case side1 => repeat (first | exact HR0.out | (with_reducible refine Kd.C_alloc ?_ _) | (with_reducible refine Kd.C_drewN ?_ _) | (with_reducible refine Kd.C_drew ?_))); (case side2 => exact HC0.out); rintro e w' ⟨rfl, ⟨nd, rfl⟩⟩; refine ⟨_, rfl, ?_⟩)); go_ret
 exact ⟨z1_, z2_⟩
mutual
def qaa_.j1 : Nat → List ByteArray → Option (List ByteArray × Int)
 | 0, _ => none
 | k + 1, x5 => qaa_.l1 k ([] : List ByteArray) x5 (x5.length : Int) 0
def qaa_.l1 : Nat → List ByteArray → List ByteArray → Int → Int → Option (List ByteArray × Int)
 | 0, _, _, _, _ => none
 | k + 1, x14, x69, x70, x71 => if x71 < x70 then (if 0 ≤ x71 then (if x71 < (x69.length : Int) then ((qaz_.f k x14 (rdOf ByteArray.empty x69 x71)).bind fun t147 => (if t147 = true then (qaa_.l1 k x14 x69 x70 (wrap64 (x71 + 1))) else (if x14.length < 8796093022208 then (qaa_.l1 k (x14 ++ [rdOf ByteArray.empty x69 x71]) x69 x70 (wrap64 (x71 + 1))) else (none)))) else (none)) else (none)) else (some (x14, 0))
def qaa_.l0 : Nat → List ByteArray → List (S108) → Int → Int → Option (List ByteArray × Int)
 | 0, _, _, _, _ => none
 | k + 1, x5, x32, x33, x34 => if x34 < x33 then (if 0 ≤ x34 then (if x34 < (x32.length : Int) then (if x5.length < 8796093022208 then (qaa_.l0 k (x5 ++ [(qo_ x32 x34).f2]) x32 x33 (wrap64 (x34 + 1))) else (none)) else (none)) else (none)) else (qaa_.j1 k x5)
end
def qaa_.f (k : Nat) (a0_0 : Int) (a0_1 : ByteArray) : Option (List ByteArray × Int) := (qcl_.f k a0_0 a0_1).bind fun t102 => (if t102 = 0 then (if a0_0 = 2 then ((qbs_.f k a0_1).bind fun bt103 => (qaa_.l0 k ([] : List ByteArray) bt103.1 (bt103.1.length : Int) 0)) else (if a0_0 = 3 then ((qh_.f k a0_1).bind fun bt112 => ((some (([bt112.1] : List ByteArray) : List ByteArray)).bind fun y127 => (if y127.length + bt112.2.1.length < 8796093022208 then (qaa_.j1 k (y127 ++ bt112.2.1)) else (none)))) else (if a0_0 = 4 then ((qu_.f k a0_1).bind fun bt133 => (qaa_.j1 k (([bt133.1] : List ByteArray)))) else (qaa_.j1 k ([] : List ByteArray))))) else (some (([] : List ByteArray), t102)))
theorem qaa_.mono_l : ∀ k, (∀ y0, LeO (qaa_.j1 k y0) (qaa_.j1 (k + 1) y0)) ∧ (∀ y0 y1 y2 y3, LeO (qaa_.l1 k y0 y1 y2 y3) (qaa_.l1 (k + 1) y0 y1 y2 y3)) ∧ (∀ y0 y1 y2 y3, LeO (qaa_.l0 k y0 y1 y2 y3) (qaa_.l0 (k + 1) y0 y1 y2 y3))
 | 0 => ⟨fun _ r h => by simp [qaa_.j1] at h, fun _ _ _ _ r h => by simp [qaa_.l1] at h, fun _ _ _ _ r h => by simp [qaa_.l0] at h⟩
 | k + 1 => by
  obtain ⟨ih0, ih1, ih2⟩ := qaa_.mono_l k
  refine ⟨?_, ?_, ?_⟩
  ·intro y0
   unfold qaa_.j1
   have m0_ := @ih0
   have m1_ := @ih1
   have m2_ := @ih2
   have m3_ := @qh_.mono
   have m4_ := @qu_.mono
   have m5_ := @qcl_.mono
   have m6_ := @qaz_.mono
   have m7_ := @qbs_.mono
   exact mz_
  ·intro y0 y1 y2 y3
   unfold qaa_.l1
   have m0_ := @ih0
   have m1_ := @ih1
   have m2_ := @ih2
   have m3_ := @qh_.mono
   have m4_ := @qu_.mono
   have m5_ := @qcl_.mono
   have m6_ := @qaz_.mono
   have m7_ := @qbs_.mono
   exact mz_
  ·intro y0 y1 y2 y3
   unfold qaa_.l0
   have m0_ := @ih0
   have m1_ := @ih1
   have m2_ := @ih2
   have m3_ := @qh_.mono
   have m4_ := @qu_.mono
   have m5_ := @qcl_.mono
   have m6_ := @qaz_.mono
   have m7_ := @qbs_.mono
   exact mz_
theorem qaa_.mono : ∀ a0 a1 k, LeO (qaa_.f k a0 a1) (qaa_.f (k + 1) a0 a1) := by
 intro a0 a1 k; obtain ⟨ih0, ih1, ih2⟩ := qaa_.mono_l k; unfold qaa_.f; have m0_ := @ih0; have m1_ := @ih1; have m2_ := @ih2; have m3_ := @qh_.mono; have m4_ := @qu_.mono; have m5_ := @qcl_.mono; have m6_ := @qaz_.mono; have m7_ := @qbs_.mono; exact mz_
theorem qaa_.calls (k : Nat) (a0_0 : Int) (a0_1 : ByteArray) (r1 : List ByteArray) (r2 : Int) (w : World) (hgv : GV w) (h : qaa_.f k a0_0 a0_1 = some (r1, r2)) :
  Calls Tryz.prog 34 #[.agg #[.int .i64 a0_0, .string a0_1]] w fun e w' => ∃ v0_ : Value, e = .returned (.tuple #[v0_, .int .i64 r2]) ∧ Kd.R Kd.string 9 w' w.heap.size (fun _ => True) v0_ r1 ∧ Below w.heap.size w w' := by
 have hu50 := underlying50; have hu108 := underlying108; have hu26 := underlying26; have hu37 := underlying37; have HB := qa_.mk (Below.refl w.heap.size w); unfold qaa_.f at h; have H := h; clear h; obtain ⟨t102, A2, H⟩ := bx_ H; by_cases c3 : t102 = 0; rotate_left
 ·rw [if_neg c3] at H; have c3b0 := ef_ c3; have c3b1 := nt_ c3; obtain ⟨rfl, rfl⟩ := pj2_ H; go_enter func34, ntmps34; go_wp2_with (first | ((with_reducible refine qk_ (N := 1) rfl ?_); refine be_ (cs := #[.int .i64 a0_0, .string a0_1]) (t := 50) ?_; intro g101 hg w54 hbox hb; have K101 := qa_.mk (hbox); have W101 := ag_ hg HB; have E101 := ag_ hg HB; replace HB := ah_ HB hb; clear hb hbox hg; obtain ⟨Z55_0, Z55_1, F55⟩ := bc2 K101.out) | ((with_reducible refine qb_ (f := 36) rfl ?_); refine gl_ (some 18) func36 #[.agg #[.int .i64 a0_0, .string a0_1]] ?_; (with_reducible refine (qcl_.calls k a0_0 a0_1 t102 _ ?side1 A2.out).mono ?_); (case side1 => exact GV.below hgv (hs_)); rintro e w56 ⟨rfl, hb⟩; refine ⟨_, rfl, ?_⟩; replace K101 := ab_ K101 hb; replace HB := qa_.mk (qc_ (hs_) hb); (try clear hb); (try clear hb2); (try clear hk); (try clear hi)))
  go_ret2
  exact ⟨_, z3_, z6_, hs_⟩
 rw [if_pos c3] at H; have c3b0 := et_ c3; have c3b1 := nf_ c3; clear c3; have HC4 := qa_.mk H; clear H; go_enter func34, ntmps34; go_upto_block 0 with (first | ((with_reducible refine qk_ (N := 1) rfl ?_); refine be_ (cs := #[.int .i64 a0_0, .string a0_1]) (t := 50) ?_; intro g101 hg w5 hbox hb; have K101 := qa_.mk (hbox); have W101 := ag_ hg HB; have E101 := ag_ hg HB; replace HB := ah_ HB hb; clear hb hbox hg; obtain ⟨Z6_0, Z6_1, F6⟩ := bc2 K101.out) | ((with_reducible refine qb_ (f := 36) rfl ?_); refine gl_ (some 18) func36 #[.agg #[.int .i64 a0_0, .string a0_1]] ?_; (with_reducible refine (qcl_.calls k a0_0 a0_1 t102 _ ?side1 A2.out).mono ?_); (case side1 => exact GV.below hgv (hs_)); rintro e w7 ⟨rfl, hb⟩; refine ⟨_, rfl, ?_⟩; replace K101 := ab_ K101 hb; replace HB := qa_.mk (qc_ (hs_) hb); (try clear hb); (try clear hb2); (try clear hk); (try clear hi); obtain ⟨Z8_0, Z8_1, F8⟩ := bc2 K101.out)); (try simp only [Act.put, List.setIfInBounds_toArray, List.set_cons_zero, List.set_cons_succ])
 go_cut [5] (fun v5 wc => ∃ (kq : Nat) (x5_3 : List ByteArray), qa_ (qaa_.j1 kq x5_3 = some (r1, r2)) ∧ qa_ (kq ≤ k) ∧ qa_ (Kd.R Kd.string 9 wc w.heap.size (fun _ => True) v5 x5_3) ∧ qa_ (wc.heap[g101]? = some (.cells #[.int .i64 a0_0, .string a0_1] 50 (0, 0))) ∧ qa_ (Below w.heap.size w wc))
 case first =>
  have H := HC4.out; clear HC4; by_cases c9 : a0_0 = 2
  ·rw [if_pos c9] at H; have c9b0 := et_ c9; have c9b1 := nf_ c9; clear c9; (first | rw [c9b0] | (simp only [i64_w, i32_w]; rw [c9b0]) | skip); (try rw [c9b8])
   obtain ⟨⟨t103, t104⟩, A10, H⟩ := bx_ H; dsimp only at H; have H' := qa_.mk H; clear H; obtain ⟨Z11_0, Z11_1, F11⟩ := bc2 K101.out; go_wp2_with (first | ((with_reducible refine qb_ (f := 94) rfl ?_); refine gl_ (some 29) func94 #[.string a0_1] ?_; (with_reducible refine (qbs_.calls k a0_1 t103 t104 _ ?side1 A10.out).mono ?_); (case side1 => exact GV.below hgv (hs_)); rintro e w12 ⟨v105, rfl, ho0, hb⟩; refine ⟨_, rfl, ?_⟩; have HO106 := qa_.mk (Kd.R_lower ho0 (qn_ (hs_))); replace K101 := ab_ K101 hb; replace HB := qa_.mk (qc_ (hs_) hb); (try clear hb); (try clear hb2); (try clear hk); (try clear hi); (try clear ho0); obtain ⟨Ao13, co13, eo13⟩ := Kd.R_slice HO106.out; subst eo13)); go_loopg [5, 34] k (fun kq v5 v34 w' => ∃ (x5_1 : List ByteArray) (x34_1 : Int), v34 = .int .i64 x34_1 ∧ qa_ (qaa_.l0 kq x5_1 t103 (t103.length : Int) x34_1 = some (r1, r2)) ∧ qa_ (kq ≤ k) ∧ qa_ (Kd.R Kd.string 9 w' w.heap.size (fun _ => True) v5 x5_1) ∧ qa_ (Kd.R k108 108 w' w.heap.size (fun _ => True) (.slice Ao13 t103.length co13) t103) ∧ qa_ (w'.heap[g101]? = some (.cells #[.int .i64 a0_0, .string a0_1] 50 (0, 0))) ∧ qa_ (Below w.heap.size w w'))
   case atStart => exact ⟨(([] : List ByteArray)), (0), z1_, H', ⟨Nat.le_refl _⟩, ⟨z6_⟩, ⟨by (with_reducible repeat (first | apply Kd.R_alloc | apply Kd.R_drewN | apply Kd.R_drew)); exact HO106.out⟩, ⟨bk_ K101.out⟩, ⟨hs_⟩⟩
   case round =>
    clear H'; try clear p2
    try clear c3
    try clear c3b0
    try clear c3b1
    try clear c9
    try clear c9b0
    try clear c9b1
    try clear Z11_0 Z11_1
    try clear Z6_0 Z6_1
    try clear Z8_0 Z8_1
    try clear F11
    try clear F6
    try clear F8
    obtain ⟨x5_1, x34_1, rfl, HA, HK1, HO_5, HO_32, K101, HB⟩ := hrel
    cases gk with
    | zero => exact absurd HA.out (by simp [qaa_.l0])
    | succ k1 =>
     have H := HA.out; clear HA; simp only [qaa_.l0] at H; by_cases c14 : x34_1 < (t103.length : Int); rotate_left
     ·rw [if_neg c14] at H; have c14b0 := df_ c14; clear c14; have H' := qa_.mk H; clear H; go_wp2
      go_meet
      case rel => exact ⟨_, (x5_1), H', ⟨by have := HK1.out; first | omega | exact Nat.le_refl _⟩, ⟨z20_⟩, ⟨bk_ K101.out⟩, ⟨hs_⟩⟩
     rw [if_pos c14] at H; have c14b0 := dt_ c14; clear c14; by_cases c15 : 0 ≤ x34_1; rotate_left
     ·rw [if_neg c15] at H; exact no_ H
     rw [if_pos c15] at H; have c15b0 := dt_ c15; clear c15; by_cases c16 : x34_1 < (t103.length : Int); rotate_left
     ·rw [if_neg c16] at H; exact no_ H
     rw [if_pos c16] at H; have c16b0 := dt_ c16; clear c16; by_cases c17 : x5_1.length < 8796093022208; rotate_left
     ·rw [if_neg c17] at H; exact no_ H
     rw [if_pos c17] at H; have LMc17 := qa_.mk c17; clear c17; obtain ⟨y109, hy109⟩ : ∃ y_ : List ByteArray, y_ = (x5_1 ++ [(qo_ t103 x34_1).f2]) := ⟨_, rfl⟩; replace H : (qaa_.l0 k1 y109 t103 (t103.length : Int) (wrap64 (x34_1 + 1))) = some (r1, r2) := by first | (rw [hy109]; with_reducible exact H) | (have H2_ := (Option.bind_some _ _).symm.trans H; rw [hy109]; with_reducible exact H2_) | (have H2_ := (Option.bind_some _ _).symm.trans H; with_reducible exact H2_) | with_reducible exact H | (rw [hy109]; exact H) | exact H
     have Ny109 := qa_.mk hy109; clear hy109; have H' := qa_.mk H; clear H; have p107 : 0 ≤ (x34_1 : Int) := y0_; have q107 : x34_1 < (t103.length : Int) := y0_; obtain ⟨ad107, e107, hx107_0, hx107_1, hx107_2⟩ := at_T108 (Kd.R_reads' HO_32.out).2.2 x34_1 p107 q107
     cases e107
     replace p107 := eq_true p107; replace q107 := eq_true q107; go_wp2_with (first | ((with_reducible refine qk_ (N := 9) rfl ?_); refine be_ (cs := #[.int .i64 0, .string ⟨#[]⟩, .string ⟨#[]⟩]) (t := 108) ?_; intro g108 hg w18 hbox hb; replace HO_5 := qa_.mk (Kd.R_below (rk_ HO_5.out) hb); replace HO_32 := qa_.mk (Kd.R_below (Kd.R_elderB (rk_ HO_32.out) g108 (Nat.le_of_eq hg.symm)) hb); have K108 := qa_.mk (hbox); have W108 := qa_.mk ((by rw [hg]; exact (qn_ (hs_)) : w.heap.size ≤ g108)); have E108 := qa_.mk ((by rw [hg]; exact (qn_ (hs_)) : w.heap.size ≤ g108)); replace HB := qa_.mk (qc_ (hs_) hb); have N101_108 := qa_.mk (nl2_ hg K101.out); have N108_101 := qa_.mk (ng2_ hg K101.out); replace K101 := ab_ K101 hb; clear hb hbox hg; have hnb19 := N108_101.out; have hnc19 := N101_108.out; obtain ⟨Z20_0, Z20_1, Z20_2, F20⟩ := bc3 K108.out) | ((with_reducible refine qey_ (b := .append) (xs := #[.tmp 38, .tmp 41]) rfl ?_); at_builtin; refine Kd.R_append Kd.string (w0 := w) w.heap.size rfl (.tmp 38) (.tmp 41) 22 9 (.string ⟨#[]⟩) 16 rfl underlying22 info9 rfl (by decide) (by omega) u5 x5_1 ((qo_ t103 x34_1).f2) [.string ((qo_ t103 x34_1).f2)] (fun _ => True) (fun _ => False) rfl z27_ ?aP (fun _ hk => hk.elim) ?aF ?aO ?aB ?aS ?aL ?_; (case aP => exact rfl); (case aB => exact (hs_)); (case aF => exact (fun _ _ => trivial)); (case aO => exact (by (with_reducible repeat (first | apply Kd.R_alloc | apply Kd.R_drewN | apply Kd.R_drew)); exact Kd.R_mono (Kd.R_far (p := ⟨g108, 2, none⟩) (Kd.R_far (p := ⟨g108, 1, none⟩) (Kd.R_far (p := ⟨g108, 0, none⟩) (Kd.R_types HO_5.out K108.out (by decide)) (fun _ hk => hk.2) (.int .i64 ((qo_ t103 x34_1).f0))) (fun _ hk => hk.2) (.string ((qo_ t103 x34_1).f1))) (fun _ hk => hk.2) (.string ((qo_ t103 x34_1).f2))) (fun _ hk => trivial))); (case aS => exact (qn_ (hs_))); (case aL => have := LMc17.out; omega); intro v110 w21 ho hb hg hat; rw [← Ny109.out] at ho; have n0_ := qa_.mk (Kd.R_over' (by (with_reducible repeat (first | apply Kd.R_alloc | apply Kd.R_drewN | apply Kd.R_drew)); exact (Kd.R_mono (Kd.R_far (p := ⟨g108, 2, none⟩) (Kd.R_far (p := ⟨g108, 1, none⟩) (Kd.R_far (p := ⟨g108, 0, none⟩) (Kd.R_mono HO_32.out (fun k_ hk => (⟨hk, hk.2⟩ : _ ∧ k_ ≠ g108))) (fun _ hk => hk.2) (.int .i64 ((qo_ t103 x34_1).f0))) (fun _ hk => hk.2) (.string ((qo_ t103 x34_1).f1))) (fun _ hk => hk.2) (.string ((qo_ t103 x34_1).f2))) (fun _ h_ => h_.1))) (Kd.R_typed (by (with_reducible repeat (first | apply Kd.R_alloc | apply Kd.R_drewN | apply Kd.R_drew)); exact (Kd.R_mono (Kd.R_far (p := ⟨g108, 2, none⟩) (Kd.R_far (p := ⟨g108, 1, none⟩) (Kd.R_far (p := ⟨g108, 0, none⟩) (Kd.R_types HO_5.out K108.out (by decide)) (fun _ hk => hk.2) (.int .i64 ((qo_ t103 x34_1).f0))) (fun _ hk => hk.2) (.string ((qo_ t103 x34_1).f1))) (fun _ hk => hk.2) (.string ((qo_ t103 x34_1).f2))) (fun _ h_ => h_.1)))) (by decide) hg); have n1_ := qa_.mk (qdc_ (g := g101) (o := .cells #[.int .i64 a0_0, .string a0_1] 50 (0, 0)) (by have b_ := K101; have f_ := N101_108; exact zb_) hg (Kd.R_ne HO_5.out K101.out (by decide))); have n2_ := qa_.mk (qdc_ (g := g108) (o := .cells #[.int .i64 ((qo_ t103 x34_1).f0), .string ((qo_ t103 x34_1).f1), .string ((qo_ t103 x34_1).f2)] 108 (0, 0)) (by have b_ := K108; exact zb_) hg (Kd.R_ne HO_5.out K108.out (by decide))); have n3_ := qa_.mk (hb); have n4_ := qa_.mk (ho); clear HO_32; clear K101; clear K108; clear HB; clear HO_5; have HO_32 := n0_; have K101 := n1_; have K108 := n2_; have HB := n3_; have HO111 := n4_; clear n0_ n1_ n2_ n3_ n4_; clear ho hb hg hat))
     go_roundg k1
     case measure => have := HK1.out; omega
     case rel => exact ⟨(y109), (wrap64 (x34_1 + 1)), z1_, H', ⟨by have := HK1.out; omega⟩, ⟨by (with_reducible repeat (first | apply Kd.R_alloc | apply Kd.R_drewN | apply Kd.R_drew)); exact HO111.out⟩, ⟨by (with_reducible repeat (first | apply Kd.R_alloc | apply Kd.R_drewN | apply Kd.R_drew)); exact Kd.R_mono HO_32.out (fun _ hk => trivial)⟩, ⟨bk_ K101.out⟩, ⟨hs_⟩⟩
  rw [if_neg c9] at H; have c9b0 := ef_ c9; have c9b1 := nt_ c9; (first | rw [c9b0] | (simp only [i64_w, i32_w]; rw [c9b0]) | skip); (try rw [c9b8])
  by_cases c22 : a0_0 = 3; rotate_left
  ·rw [if_neg c22] at H; have c22b0 := ef_ c22; have c22b1 := nt_ c22; by_cases c35 : a0_0 = 4; rotate_left
   ·rw [if_neg c35] at H; have c35b0 := ef_ c35; have c35b1 := nt_ c35; have H' := qa_.mk H; clear H; go_wp2
    go_meet
    case rel => exact ⟨_, (([] : List ByteArray)), H', ⟨z4_⟩, ⟨z6_⟩, ⟨bk_ K101.out⟩, ⟨hs_⟩⟩
   rw [if_pos c35] at H; have c35b0 := et_ c35; have c35b1 := nf_ c35; clear c35; obtain ⟨⟨t133, t134, t135, t136, t137, t138, t139, t140, t141⟩, A36, H⟩ := bx_ H; dsimp only at H; obtain ⟨y143, hy143⟩ : ∃ y_ : List ByteArray, y_ = (([t133] : List ByteArray)) := ⟨_, rfl⟩; replace H : (qaa_.j1 k y143) = some (r1, r2) := by first | (rw [hy143]; with_reducible exact H) | (have H2_ := (Option.bind_some _ _).symm.trans H; rw [hy143]; with_reducible exact H2_) | (have H2_ := (Option.bind_some _ _).symm.trans H; with_reducible exact H2_) | with_reducible exact H | (rw [hy143]; exact H) | exact H
   have Ny143 := qa_.mk hy143; clear hy143; have H' := qa_.mk H; clear H; obtain ⟨Z37_0, Z37_1, F37⟩ := bc2 K101.out; go_wp2_with (first | ((with_reducible refine qb_ (f := 23) rfl ?_); refine gl_ (some 63) func23 #[.string a0_1] ?_; (with_reducible refine (qu_.calls k a0_1 t133 t134 t135 t136 t137 t138 t139 t140 t141 _ ?side1 A36.out).mono ?_); (case side1 => exact GV.below hgv (hs_)); rintro e w38 ⟨rfl, hb⟩; refine ⟨_, rfl, ?_⟩; replace K101 := ab_ K101 hb; replace HB := qa_.mk (qc_ (hs_) hb); (try clear hb); (try clear hb2); (try clear hk); (try clear hi)) | ((with_reducible refine qk_ (N := 12) rfl ?_); refine be_ (cs := #[.string ⟨#[]⟩, .int .i64 0, .string ⟨#[]⟩, .string ⟨#[]⟩, .string ⟨#[]⟩, .int .i64 0, .int .i64 0, .string ⟨#[]⟩]) (t := 37) ?_; intro g142 hg w39 hbox hb; have K142 := qa_.mk (hbox); have W142 := qa_.mk ((by rw [hg]; exact (qn_ (hs_)) : w.heap.size ≤ g142)); have E142 := qa_.mk ((by rw [hg]; exact (qn_ (hs_)) : w.heap.size ≤ g142)); replace HB := qa_.mk (qc_ (hs_) hb); have N101_142 := qa_.mk (nl2_ hg K101.out); have N142_101 := qa_.mk (ng2_ hg K101.out); replace K101 := ab_ K101 hb; clear hb hbox hg; have hnb40 := N142_101.out; have hnc40 := N101_142.out; obtain ⟨Z41_0, Z41_1, Z41_2, Z41_3, Z41_4, Z41_5, Z41_6, Z41_7, F41⟩ := bc8 K142.out) | ((with_reducible refine qk_ (N := 68) rfl ?_); refine Kd.R_lit Kd.string _ 9 ?hg (N := 68) ?hd (xs := ([t133] : List ByteArray)) (inner := [.string t133]) (ok := fun _ => True) (okp := fun _ => True) ?hr ?hp (fun _ hk => hk) trivial (Below.refl _ _) (Nat.le_refl _) (by simp) ?_; (case hd => rfl); (case hg => rfl); (case hr => first | (go_simp; done) | (go_simp; rfl)); (case hp => exact (Reps.one (show Kd.M Kd.string _ _ _ t133 [.string t133] from rfl) (Reps.none _ _))); intro v144 w42 ho43 hb hg_ hnew_; clear hg_ hnew_; (first | rw [← Ny143.out] at ho43 | (simp only [Int.reduceToNat] at ho43; rw [← Ny143.out] at ho43)); have HO145 := qa_.mk (Kd.R_lower ho43 (qn_ (hs_))); replace K101 := qa_.mk (qab_ (g := g101) (o := .cells #[.int .i64 a0_0, .string a0_1] 50 (0, 0)) (by have b_ := K101; have f_ := N101_142; exact zb_) hb); replace K142 := qa_.mk (qab_ (g := g142) (o := .cells #[.string t133, .int .i64 t134, .string t135, .string t136, .string t137, .int .i64 t138, .int .i64 t139, .string t140] 37 (0, 0)) (by have b_ := K142; exact zb_) hb); replace HB := qa_.mk (qc_ (hs_) hb); clear hb ho43)); go_meet
   case rel => exact ⟨_, (y143), H', ⟨z4_⟩, ⟨by (with_reducible repeat (first | apply Kd.R_alloc | apply Kd.R_drewN | apply Kd.R_drew)); exact HO145.out⟩, ⟨bk_ K101.out⟩, ⟨hs_⟩⟩
  rw [if_pos c22] at H; have c22b0 := et_ c22; have c22b1 := nf_ c22; clear c22; obtain ⟨⟨t112, t113, t116, t117, t118, t119, t120, t121, t122, t123, t124, t125⟩, A23, H⟩ := bx_ H; dsimp only at H; obtain ⟨y127, hy127⟩ : ∃ y_ : List ByteArray, y_ = (([t112] : List ByteArray)) := ⟨_, rfl⟩; replace H : (if y127.length + t113.length < 8796093022208 then (qaa_.j1 k (y127 ++ t113)) else (none)) = some (r1, r2) := by first | (rw [hy127]; with_reducible exact H) | (have H2_ := (Option.bind_some _ _).symm.trans H; rw [hy127]; with_reducible exact H2_) | (have H2_ := (Option.bind_some _ _).symm.trans H; with_reducible exact H2_) | with_reducible exact H | (rw [hy127]; exact H) | exact H
  have Ny127 := qa_.mk hy127; clear hy127; by_cases c24 : y127.length + t113.length < 8796093022208; rotate_left
  ·rw [if_neg c24] at H; exact no_ H
  rw [if_pos c24] at H; have LMc24 := qa_.mk c24; clear c24; obtain ⟨y130, hy130⟩ : ∃ y_ : List ByteArray, y_ = (y127 ++ t113) := ⟨_, rfl⟩; replace H : (qaa_.j1 k y130) = some (r1, r2) := by first | (rw [hy130]; with_reducible exact H) | (have H2_ := (Option.bind_some _ _).symm.trans H; rw [hy130]; with_reducible exact H2_) | (have H2_ := (Option.bind_some _ _).symm.trans H; with_reducible exact H2_) | with_reducible exact H | (rw [hy130]; exact H) | exact H
  have Ny130 := qa_.mk hy130; clear hy130; have H' := qa_.mk H; clear H; obtain ⟨Z25_0, Z25_1, F25⟩ := bc2 K101.out; go_wp2_with (first | ((with_reducible refine qb_ (f := 20) rfl ?_); refine gl_ (some 49) func20 #[.string a0_1] ?_; (with_reducible refine (qh_.calls k a0_1 t112 t113 t116 t117 t118 t119 t120 t121 t122 t123 t124 t125 _ ?side1 A23.out).mono ?_); (case side1 => exact GV.below hgv (hs_)); rintro e w26 ⟨v114, rfl, ho0, hb⟩; refine ⟨_, rfl, ?_⟩; have HO115 := qa_.mk (Kd.R_lower ho0 (qn_ (hs_))); replace K101 := ab_ K101 hb; replace HB := qa_.mk (qc_ (hs_) hb); (try clear hb); (try clear hb2); (try clear hk); (try clear hi); (try clear ho0)) | ((with_reducible refine qk_ (N := 10) rfl ?_); refine be_ (cs := #[.string ⟨#[]⟩, .slice none 0 0, .string ⟨#[]⟩, .string ⟨#[]⟩, .int .i64 0, .int .i64 0, .string ⟨#[]⟩, .string ⟨#[]⟩, .int .i64 0, .int .i64 0, .string ⟨#[]⟩]) (t := 26) ?_; intro g126 hg w27 hbox hb; replace HO115 := qa_.mk (Kd.R_below (rk_ HO115.out) hb); have K126 := qa_.mk (hbox); have W126 := qa_.mk ((by rw [hg]; exact (qn_ (hs_)) : w.heap.size ≤ g126)); have E126 := qa_.mk ((by rw [hg]; exact (qn_ (hs_)) : w.heap.size ≤ g126)); replace HB := qa_.mk (qc_ (hs_) hb); have N101_126 := qa_.mk (nl2_ hg K101.out); have N126_101 := qa_.mk (ng2_ hg K101.out); replace K101 := ab_ K101 hb; clear hb hbox hg; have hnb28 := N126_101.out; have hnc28 := N101_126.out; obtain ⟨Z29_0, Z29_1, Z29_2, Z29_3, Z29_4, Z29_5, Z29_6, Z29_7, Z29_8, Z29_9, Z29_10, F29⟩ := bc11 K126.out; obtain ⟨Ao30, co30, eo30⟩ := Kd.R_slice HO115.out; subst eo30) | ((with_reducible refine qk_ (N := 54) rfl ?_); refine Kd.R_lit Kd.string _ 9 ?hg (N := 54) ?hd (xs := ([t112] : List ByteArray)) (inner := [.string t112]) (ok := fun _ => True) (okp := fun _ => True) ?hr ?hp (fun _ hk => hk) trivial (Below.refl _ _) (Nat.le_refl _) (by simp) ?_; (case hd => rfl); (case hg => rfl); (case hr => first | (go_simp; done) | (go_simp; rfl)); (case hp => exact (Reps.one (show Kd.M Kd.string _ _ _ t112 [.string t112] from rfl) (Reps.none _ _))); intro v128 w31 ho32 hb hg_ hnew_; clear hg_ hnew_; (first | rw [← Ny127.out] at ho32 | (simp only [Int.reduceToNat] at ho32; rw [← Ny127.out] at ho32)); have HO129 := qa_.mk (Kd.R_lower (Kd.R_new' ho32 (Kd.R_lt (by (with_reducible repeat (first | apply Kd.R_alloc | apply Kd.R_drewN | apply Kd.R_drew)); exact (Kd.R_mono (Kd.R_far (p := ⟨g126, 10, none⟩) (Kd.R_far (p := ⟨g126, 9, none⟩) (Kd.R_far (p := ⟨g126, 8, none⟩) (Kd.R_far (p := ⟨g126, 7, none⟩) (Kd.R_far (p := ⟨g126, 6, none⟩) (Kd.R_far (p := ⟨g126, 5, none⟩) (Kd.R_far (p := ⟨g126, 4, none⟩) (Kd.R_far (p := ⟨g126, 3, none⟩) (Kd.R_far (p := ⟨g126, 2, none⟩) (Kd.R_far (p := ⟨g126, 1, none⟩) (Kd.R_far (p := ⟨g126, 0, none⟩) (Kd.R_types HO115.out K126.out (by decide)) (fun _ hk => hk.2) (.string t112)) (fun _ hk => hk.2) (.slice Ao30 t113.length co30)) (fun _ hk => hk.2) (.string t116)) (fun _ hk => hk.2) (.string t117)) (fun _ hk => hk.2) (.int .i64 t118)) (fun _ hk => hk.2) (.int .i64 t119)) (fun _ hk => hk.2) (.string t120)) (fun _ hk => hk.2) (.string t121)) (fun _ hk => hk.2) (.int .i64 t122)) (fun _ hk => hk.2) (.int .i64 t123)) (fun _ hk => hk.2) (.string t124)) (fun _ h_ => h_.1))))) (qn_ (hs_))); replace HO115 := qa_.mk (Kd.R_elder' (by (with_reducible repeat (first | apply Kd.R_alloc | apply Kd.R_drewN | apply Kd.R_drew)); exact (Kd.R_mono (Kd.R_far (p := ⟨g126, 10, none⟩) (Kd.R_far (p := ⟨g126, 9, none⟩) (Kd.R_far (p := ⟨g126, 8, none⟩) (Kd.R_far (p := ⟨g126, 7, none⟩) (Kd.R_far (p := ⟨g126, 6, none⟩) (Kd.R_far (p := ⟨g126, 5, none⟩) (Kd.R_far (p := ⟨g126, 4, none⟩) (Kd.R_far (p := ⟨g126, 3, none⟩) (Kd.R_far (p := ⟨g126, 2, none⟩) (Kd.R_far (p := ⟨g126, 1, none⟩) (Kd.R_far (p := ⟨g126, 0, none⟩) (Kd.R_types HO115.out K126.out (by decide)) (fun _ hk => hk.2) (.string t112)) (fun _ hk => hk.2) (.slice Ao30 t113.length co30)) (fun _ hk => hk.2) (.string t116)) (fun _ hk => hk.2) (.string t117)) (fun _ hk => hk.2) (.int .i64 t118)) (fun _ hk => hk.2) (.int .i64 t119)) (fun _ hk => hk.2) (.string t120)) (fun _ hk => hk.2) (.string t121)) (fun _ hk => hk.2) (.int .i64 t122)) (fun _ hk => hk.2) (.int .i64 t123)) (fun _ hk => hk.2) (.string t124)) (fun _ h_ => h_.1))) (Kd.R_base ho32) hb); replace K101 := qa_.mk (qab_ (g := g101) (o := .cells #[.int .i64 a0_0, .string a0_1] 50 (0, 0)) (by have b_ := K101; have f_ := N101_126; exact zb_) hb); replace K126 := qa_.mk (qab_ (g := g126) (o := .cells #[.string t112, .slice Ao30 t113.length co30, .string t116, .string t117, .int .i64 t118, .int .i64 t119, .string t120, .string t121, .int .i64 t122, .int .i64 t123, .string t124] 26 (0, 0)) (by have b_ := K126; exact zb_) hb); replace HB := qa_.mk (qc_ (hs_) hb); clear hb ho32; obtain ⟨Z33_0, Z33_1, Z33_2, Z33_3, Z33_4, Z33_5, Z33_6, Z33_7, Z33_8, Z33_9, Z33_10, F33⟩ := bc11 K126.out) | ((with_reducible refine qey_ (b := .append) (xs := #[.tmp 54, .tmp 56]) rfl ?_); at_builtin; refine Kd.R_append_rows Kd.string (w0 := w) w.heap.size rfl (.tmp 54) (.tmp 56) 22 9 (.string ⟨#[]⟩) 16 rfl underlying22 info9 rfl (by decide) (by omega) v128 y127 t113 _ _ _ (fun k_ => some k_ ≠ (.slice Ao30 t113.length co30 : Value).ownBlock) (fun _ => False) rfl rfl ?aO ?aR (fun _ _ h => h) (fun _ h => h.elim) ?aF ?aB ?aS ?aL ?_; (case aR => repeat (first | exact (Kd.R_reads' HO115.out).2.2 | (with_reducible refine Kd.C_alloc ?_ _) | (with_reducible refine Kd.C_drewN ?_ _) | (with_reducible refine Kd.C_drew ?_))); (case aB => exact (hs_)); (case aF => exact (fun k_ hk => Kd.fresh' (Kd.R_lt (rk_ HO115.out)) k_ hk)); (case aO => exact (by (with_reducible repeat (first | apply Kd.R_alloc | apply Kd.R_drewN | apply Kd.R_drew)); exact Kd.R_mono HO129.out (fun _ hk => hk.2))); (case aS => exact (qn_ (hs_))); (case aL => have := LMc24.out; omega); intro v131 w34 ho hb hg hat; rw [← Ny130.out] at ho; have n0_ := qa_.mk (qdc_ (g := g101) (o := .cells #[.int .i64 a0_0, .string a0_1] 50 (0, 0)) (bk_ K101.out) hg (Kd.R_ne HO129.out K101.out (by decide))); have n1_ := qa_.mk (Kd.R_after (ok := (fun _ => True)) (rk_ HO115.out) hg hat); have n2_ := qa_.mk (qdc_ (g := g126) (o := .cells #[.string t112, .slice Ao30 t113.length co30, .string t116, .string t117, .int .i64 t118, .int .i64 t119, .string t120, .string t121, .int .i64 t122, .int .i64 t123, .string t124] 26 (0, 0)) (bk_ K126.out) hg (Kd.R_ne HO129.out K126.out (by decide))); have n3_ := qa_.mk (hb); have n4_ := qa_.mk (ho); clear K101; clear HO115; clear K126; clear HB; clear HO129; have K101 := n0_; have HO115 := n1_; have K126 := n2_; have HB := n3_; have HO132 := n4_; clear n0_ n1_ n2_ n3_ n4_; clear ho hb hg hat))
  go_meet
  case rel => exact ⟨_, (y130), H', ⟨z4_⟩, ⟨by (with_reducible repeat (first | apply Kd.R_alloc | apply Kd.R_drewN | apply Kd.R_drew)); exact Kd.R_mono HO132.out (fun _ hk => trivial)⟩, ⟨bk_ K101.out⟩, ⟨hs_⟩⟩
 case rest =>
  clear HC4; try clear c1
  try clear p1
  try clear q1
  try clear hx1
  try clear c2
  try clear p2
  try clear c3
  try clear c3b0
  try clear c3b1
  try clear c4
  try clear p6
  try clear c9
  try clear c9b0
  try clear c9b1
  try clear p10
  try clear q10
  try clear hx10
  try clear c14
  try clear c14b0
  try clear c15
  try clear c15b0
  try clear c16
  try clear c16b0
  try clear c17
  try clear c19
  try clear c20
  try clear c22
  try clear c22b0
  try clear c22b1
  try clear c23
  try clear c24
  try clear c28
  try clear c34
  try clear c35
  try clear c35b0
  try clear c35b1
  try clear c36
  try clear c40
  try clear Z11_0 Z11_1
  try clear Z20_0 Z20_1 Z20_2
  try clear Z25_0 Z25_1
  try clear Z29_0 Z29_1 Z29_10 Z29_2 Z29_3 Z29_4 Z29_5 Z29_6 Z29_7 Z29_8 Z29_9
  try clear Z33_0 Z33_1 Z33_10 Z33_2 Z33_3 Z33_4 Z33_5 Z33_6 Z33_7 Z33_8 Z33_9
  try clear Z37_0 Z37_1
  try clear Z41_0 Z41_1 Z41_2 Z41_3 Z41_4 Z41_5 Z41_6 Z41_7
  try clear Z6_0 Z6_1
  try clear Z8_0 Z8_1
  try clear F11
  try clear F20
  try clear F25
  try clear F29
  try clear F33
  try clear F37
  try clear F41
  try clear F6
  try clear F8
  try clear hx107_0
  try clear hx107_1
  try clear hx107_2
  try clear p107
  try clear p2
  try clear q107
  obtain ⟨kq, x5_3, HA, HJ3, HO_5, K101, HB⟩ := hcut
  cases kq with
  | zero => exact absurd HA.out (by simp [qaa_.j1])
  | succ kj3 =>
   have H := HA.out; clear HA; simp only [qaa_.j1] at H; have H' := qa_.mk H; clear H; obtain ⟨Ao44, co44, eo44⟩ := Kd.R_slice HO_5.out; subst eo44; go_wp2
   go_loopg [14, 71] kj3 (fun kq v14 v71 w' => ∃ (x14_2 : List ByteArray) (x71_2 : Int), v71 = .int .i64 x71_2 ∧ qa_ (qaa_.l1 kq x14_2 x5_3 (x5_3.length : Int) x71_2 = some (r1, r2)) ∧ qa_ (kq ≤ kj3) ∧ qa_ (Kd.R Kd.string 9 w' w.heap.size (fun k_ => some k_ ≠ ((.slice Ao44 x5_3.length co44) : Value).ownBlock) v14 x14_2) ∧ qa_ (Kd.R Kd.string 9 w' w.heap.size (fun k_ => some k_ ≠ (v14 : Value).ownBlock) (.slice Ao44 x5_3.length co44) x5_3) ∧ qa_ (w'.heap[g101]? = some (.cells #[.int .i64 a0_0, .string a0_1] 50 (0, 0))) ∧ qa_ (Below w.heap.size w w'))
   case atStart => exact ⟨(([] : List ByteArray)), (0), z1_, H', ⟨Nat.le_refl _⟩, ⟨z6_⟩, ⟨by (with_reducible repeat (first | apply Kd.R_alloc | apply Kd.R_drewN | apply Kd.R_drew)); exact Kd.R_mono HO_5.out (fun _ hk => (by simp [Value.ownBlock]))⟩, ⟨bk_ K101.out⟩, ⟨hs_⟩⟩
   case round =>
    clear H'; try clear c1
    try clear p1
    try clear q1
    try clear hx1
    try clear c2
    try clear p2
    try clear c3
    try clear c3b0
    try clear c3b1
    try clear c4
    try clear p6
    try clear c9
    try clear c9b0
    try clear c9b1
    try clear p10
    try clear q10
    try clear hx10
    try clear c14
    try clear c14b0
    try clear c15
    try clear c15b0
    try clear c16
    try clear c16b0
    try clear c17
    try clear c19
    try clear c20
    try clear c22
    try clear c22b0
    try clear c22b1
    try clear c23
    try clear c24
    try clear c28
    try clear c34
    try clear c35
    try clear c35b0
    try clear c35b1
    try clear c36
    try clear c40
    try clear Z11_0 Z11_1
    try clear Z20_0 Z20_1 Z20_2
    try clear Z25_0 Z25_1
    try clear Z29_0 Z29_1 Z29_10 Z29_2 Z29_3 Z29_4 Z29_5 Z29_6 Z29_7 Z29_8 Z29_9
    try clear Z33_0 Z33_1 Z33_10 Z33_2 Z33_3 Z33_4 Z33_5 Z33_6 Z33_7 Z33_8 Z33_9
    try clear Z37_0 Z37_1
    try clear Z41_0 Z41_1 Z41_2 Z41_3 Z41_4 Z41_5 Z41_6 Z41_7
    try clear Z6_0 Z6_1
    try clear Z8_0 Z8_1
    try clear F11
    try clear F20
    try clear F25
    try clear F29
    try clear F33
    try clear F37
    try clear F41
    try clear F6
    try clear F8
    try clear hx107_0
    try clear hx107_1
    try clear hx107_2
    try clear p1
    try clear p10
    try clear p107
    try clear p2
    try clear p6
    try clear q1
    try clear q10
    try clear q107
    obtain ⟨x14_2, x71_2, rfl, HA, HK2, HO_14, HO_69, K101, HB⟩ := hrel
    cases gk with
    | zero => exact absurd HA.out (by simp [qaa_.l1])
    | succ k2 =>
     have H := HA.out; clear HA; simp only [qaa_.l1] at H; by_cases c45 : x71_2 < (x5_3.length : Int); rotate_left
     ·rw [if_neg c45] at H; have c45b0 := df_ c45; clear c45; obtain ⟨rfl, rfl⟩ := pj2_ H; go_wp2
      go_ret2
      exact ⟨_, z3_, by (with_reducible repeat (first | apply Kd.R_alloc | apply Kd.R_drewN | apply Kd.R_drew)); exact Kd.R_mono HO_14.out (fun _ hk => trivial), hs_⟩
     rw [if_pos c45] at H; have c45b0 := dt_ c45; clear c45; by_cases c46 : 0 ≤ x71_2; rotate_left
     ·rw [if_neg c46] at H; exact no_ H
     rw [if_pos c46] at H; have c46b0 := dt_ c46; clear c46; by_cases c47 : x71_2 < (x5_3.length : Int); rotate_left
     ·rw [if_neg c47] at H; exact no_ H
     rw [if_pos c47] at H; have c47b0 := dt_ c47; clear c47; obtain ⟨t147, A48, H⟩ := bx_ H; by_cases c49 : t147 = true
     ·subst c49; rw [if_pos rfl] at H; have H' := qa_.mk H; clear H; have p146 : 0 ≤ (x71_2 : Int) := y0_; have q146 : x71_2 < (x5_3.length : Int) := y0_; obtain ⟨ad146, e146, hx146_0⟩ := Kd.at_string (Kd.R_reads' HO_69.out).2.2 x71_2 p146 q146
      cases e146
      replace p146 := eq_true p146; replace q146 := eq_true q146; obtain ⟨Ao50, co50, eo50⟩ := Kd.R_slice HO_14.out; subst eo50; go_wp2_with (first | ((with_reducible refine qb_ (f := 95) rfl ?_); refine gl_ (some 77) func95 #[.slice Ao50 x14_2.length co50, .string (rdOf ByteArray.empty x5_3 x71_2)] ?_; (with_reducible refine (qaz_.calls k2 _ _ x14_2 (rdOf ByteArray.empty x5_3 x71_2) true _ ?side1 ?side2 A48.out).mono ?_); (case side1 => repeat (first | exact (Kd.R_reads' HO_14.out).2.2 | (with_reducible refine Kd.C_alloc ?_ _) | (with_reducible refine Kd.C_drewN ?_ _) | (with_reducible refine Kd.C_drew ?_))); (case side2 => exact (Kd.R_reads' HO_14.out).2.1); rintro e w' ⟨rfl, ⟨nd, rfl⟩⟩; refine ⟨_, rfl, ?_⟩)); go_roundg k2
      case measure => have := HJ3.out; have := HK2.out; omega
      case rel => exact ⟨(x14_2), (wrap64 (x71_2 + 1)), z1_, H', ⟨by have := HJ3.out; have := HK2.out; omega⟩, ⟨by (with_reducible repeat (first | apply Kd.R_alloc | apply Kd.R_drewN | apply Kd.R_drew)); exact HO_14.out⟩, ⟨by (with_reducible repeat (first | apply Kd.R_alloc | apply Kd.R_drewN | apply Kd.R_drew)); exact HO_69.out⟩, ⟨bk_ K101.out⟩, ⟨hs_⟩⟩
     replace c49 := Bool.eq_false_iff.mpr c49; subst c49; rw [if_neg nft_] at H; by_cases c51 : x14_2.length < 8796093022208; rotate_left
     ·rw [if_neg c51] at H; exact no_ H
     rw [if_pos c51] at H; have LMc51 := qa_.mk c51; clear c51; obtain ⟨y148, hy148⟩ : ∃ y_ : List ByteArray, y_ = (x14_2 ++ [rdOf ByteArray.empty x5_3 x71_2]) := ⟨_, rfl⟩; replace H : (qaa_.l1 k2 y148 x5_3 (x5_3.length : Int) (wrap64 (x71_2 + 1))) = some (r1, r2) := by first | (rw [hy148]; with_reducible exact H) | (have H2_ := (Option.bind_some _ _).symm.trans H; rw [hy148]; with_reducible exact H2_) | (have H2_ := (Option.bind_some _ _).symm.trans H; with_reducible exact H2_) | with_reducible exact H | (rw [hy148]; exact H) | exact H
     have Ny148 := qa_.mk hy148; clear hy148; have H' := qa_.mk H; clear H; have p146 : 0 ≤ (x71_2 : Int) := y0_; have q146 : x71_2 < (x5_3.length : Int) := y0_; obtain ⟨ad146, e146, hx146_0⟩ := Kd.at_string (Kd.R_reads' HO_69.out).2.2 x71_2 p146 q146
     cases e146
     replace p146 := eq_true p146; replace q146 := eq_true q146; obtain ⟨Ao52, co52, eo52⟩ := Kd.R_slice HO_14.out; subst eo52; go_wp2_with (first | ((with_reducible refine qb_ (f := 95) rfl ?_); refine gl_ (some 77) func95 #[.slice Ao52 x14_2.length co52, .string (rdOf ByteArray.empty x5_3 x71_2)] ?_; (with_reducible refine (qaz_.calls k2 _ _ x14_2 (rdOf ByteArray.empty x5_3 x71_2) false _ ?side1 ?side2 A48.out).mono ?_); (case side1 => repeat (first | exact (Kd.R_reads' HO_14.out).2.2 | (with_reducible refine Kd.C_alloc ?_ _) | (with_reducible refine Kd.C_drewN ?_ _) | (with_reducible refine Kd.C_drew ?_))); (case side2 => exact (Kd.R_reads' HO_14.out).2.1); rintro e w' ⟨rfl, ⟨nd, rfl⟩⟩; refine ⟨_, rfl, ?_⟩) | ((with_reducible refine qey_ (b := .append) (xs := #[.tmp 79, .tmp 81]) rfl ?_); at_builtin; refine Kd.R_append Kd.string (w0 := w) w.heap.size rfl (.tmp 79) (.tmp 81) 22 9 (.string ⟨#[]⟩) 16 rfl underlying22 info9 rfl (by decide) (by omega) (.slice Ao52 x14_2.length co52) x14_2 (rdOf ByteArray.empty x5_3 x71_2) [.string (rdOf ByteArray.empty x5_3 x71_2)] (fun k_ => some k_ ≠ (.slice (some ad146) x5_3.length co44 : Value).ownBlock) (fun _ => False) rfl rfl ?aP (fun _ hk => hk.elim) ?aF ?aO ?aB ?aS ?aL ?_; (case aP => exact rfl); (case aB => exact (hs_)); (case aF => exact (fun k_ hk => Kd.fresh' (Kd.R_lt (rk_ HO_69.out)) k_ hk)); (case aO => exact (rk_ HO_14.out)); (case aS => exact (qn_ (hs_))); (case aL => have := LMc51.out; omega); intro v149 w53 ho hb hg hat; rw [← Ny148.out] at ho; have n0_ := qa_.mk (Kd.R_after (ok := (fun _ => True)) (by (with_reducible repeat (first | apply Kd.R_alloc | apply Kd.R_drewN | apply Kd.R_drew)); exact Kd.R_mono HO_69.out (fun _ hk => ⟨trivial, hk⟩)) hg hat); have n1_ := qa_.mk (qdc_ (g := g101) (o := .cells #[.int .i64 a0_0, .string a0_1] 50 (0, 0)) (bk_ K101.out) hg (Kd.R_ne HO_14.out K101.out (by decide))); have n2_ := qa_.mk (hb); have n3_ := qa_.mk (ho); clear HO_69; clear K101; clear HB; clear HO_14; have HO_69 := n0_; have K101 := n1_; have HB := n2_; have HO150 := n3_; clear n0_ n1_ n2_ n3_; clear ho hb hg hat)); go_roundg k2
     case measure => have := HJ3.out; have := HK2.out; omega
     case rel => exact ⟨(y148), (wrap64 (x71_2 + 1)), z1_, H', ⟨by have := HJ3.out; have := HK2.out; omega⟩, ⟨by (with_reducible repeat (first | apply Kd.R_alloc | apply Kd.R_drewN | apply Kd.R_drew)); exact HO150.out⟩, ⟨by (with_reducible repeat (first | apply Kd.R_alloc | apply Kd.R_drewN | apply Kd.R_drew)); exact Kd.R_mono HO_69.out (fun _ hk => hk.2)⟩, ⟨bk_ K101.out⟩, ⟨hs_⟩⟩
def qbd_.f (k : Nat)  : Option (Bool) := (qah_.f k ⟨#[97, 32, 60, 97, 64, 98, 62, 32, 53, 32, 45, 48, 49, 51, 48]⟩).bind fun bt101 => ((qah_.f k ⟨#[97, 32, 60, 98, 62, 32, 48, 53, 32, 43, 48, 48, 48, 48]⟩).bind fun bt107 => ((qcm_.f).bind fun bt113 => ((qcm_.f).bind fun bt117 => ((qaw_.f k ⟨#[48, 49, 50, 51, 52, 53, 54, 55, 56, 57, 97, 98, 99, 100, 101, 102, 48, 49, 50, 51, 52, 53, 54, 55, 56, 57, 97, 98, 99, 100, 101, 102, 48, 49, 50, 51, 52, 53, 54, 55]⟩ ([] : List ByteArray) bt113.1 bt113.2.1 bt113.2.2.1 bt113.2.2.2 bt117.1 bt117.2.1 bt117.2.2.1 bt117.2.2.2 ⟨#[120, 10]⟩).bind fun bt121 => ((qaa_.f k 3 bt121.1).bind fun bt123 => ((qcm_.f).bind fun bt127 => ((qbo_.f k ⟨#[48, 49, 50, 51, 52, 53, 54, 55, 56, 57, 97, 98, 99, 100, 101, 102, 48, 49, 50, 51, 52, 53, 54, 55, 56, 57, 97, 98, 99, 100, 101, 102, 48, 49, 50, 51, 52, 53, 54, 55]⟩ 5 ⟨#[118]⟩ bt127.1 bt127.2.1 bt127.2.2.1 bt127.2.2.2 ⟨#[]⟩).bind fun bt131 => ((qcm_.f).bind fun bt133 => ((qcf_.f bt133.1 bt133.2.1 bt133.2.2.1 bt133.2.2.2).bind fun t137 => (if t137.toList = ([97, 32, 60, 97, 64, 98, 62, 32, 53, 32, 43, 48, 49, 48, 48] : List UInt8) then (if bt101.2.2.2.1 = (-90) then (if bt101.2.2.2.2 = 0 then (if bt107.2.2.2.2 = 2 then (if bt121.1.toList = ([116, 114, 101, 101, 32, 48, 49, 50, 51, 52, 53, 54, 55, 56, 57, 97, 98, 99, 100, 101, 102, 48, 49, 50, 51, 52, 53, 54, 55, 56, 57, 97, 98, 99, 100, 101, 102, 48, 49, 50, 51, 52, 53, 54, 55, 10, 97, 117, 116, 104, 111, 114, 32, 97, 32, 60, 97, 64, 98, 62, 32, 53, 32, 43, 48, 49, 48, 48, 10, 99, 111, 109, 109, 105, 116, 116, 101, 114, 32, 97, 32, 60, 97, 64, 98, 62, 32, 53, 32, 43, 48, 49, 48, 48, 10, 10, 120, 10] : List UInt8) then (if bt121.2 = 0 then (if (bt123.1.length : Int) = 1 then (if 0 < (bt123.1.length : Int) then (if (rdOf ByteArray.empty bt123.1 0).toList = ([48, 49, 50, 51, 52, 53, 54, 55, 56, 57, 97, 98, 99, 100, 101, 102, 48, 49, 50, 51, 52, 53, 54, 55, 56, 57, 97, 98, 99, 100, 101, 102, 48, 49, 50, 51, 52, 53, 54, 55] : List UInt8) then (if bt123.2 = 0 then (if bt131.2 = 1 then ((qcl_.f k 3 ⟨#[120]⟩).bind fun t139 => (some (t139 == 2))) else (some false)) else (some false)) else (some false)) else (none)) else (some false)) else (some false)) else (some false)) else (some false)) else (some false)) else (some false)) else (some false)))))))))))
theorem qbd_.mono : ∀ k, LeO (qbd_.f k ) (qbd_.f (k + 1) ) := by
 intro  k; unfold qbd_.f; have m0_ := @qaw_.mono; have m1_ := @qaa_.mono; have m2_ := @qah_.mono; have m3_ := @qbo_.mono; have m4_ := @qcl_.mono; exact mz_
theorem qbd_.callsT (k : Nat)  (r : Bool) (w : World) (hgv : GV w) (hr_ : r = true) (h : qbd_.f k  = some r) :
  Calls Tryz.prog 15 #[] w fun e w' => e = .returned (.bool r) ∧ Below w.heap.size w w' := by
 have hu24 := underlying24; have hu26 := underlying26; have hu50 := underlying50; have hu37 := underlying37; have HB := qa_.mk (Below.refl w.heap.size w); unfold qbd_.f at h; have H := h; clear h; obtain ⟨⟨t101, t102, t103, t104, t105⟩, A1, H⟩ := bx_ H; dsimp only at H; obtain ⟨⟨t107, t108, t109, t110, t111⟩, A2, H⟩ := bx_ H; dsimp only at H; obtain ⟨⟨t113, t114, t115, t116⟩, A3, H⟩ := bx_ H; dsimp only at H; obtain ⟨⟨t117, t118, t119, t120⟩, A4, H⟩ := bx_ H; dsimp only at H; obtain ⟨⟨t121, t122⟩, A5, H⟩ := bx_ H; dsimp only at H; obtain ⟨⟨t123, t126⟩, A6, H⟩ := bx_ H; dsimp only at H; obtain ⟨⟨t127, t128, t129, t130⟩, A7, H⟩ := bx_ H; dsimp only at H; obtain ⟨⟨t131, t132⟩, A8, H⟩ := bx_ H; dsimp only at H; obtain ⟨⟨t133, t134, t135, t136⟩, A9, H⟩ := bx_ H; dsimp only at H; obtain ⟨t137, A10, H⟩ := bx_ H; by_cases c11 : t137.toList = ([97, 32, 60, 97, 64, 98, 62, 32, 53, 32, 43, 48, 49, 48, 48] : List UInt8); rotate_left
 ·rw [if_neg c11] at H; have c11b0 := ef_ c11; have c11b1 := nt_ c11; exact absurd ((Option.some.inj H).trans hr_) (by simp)
 rw [if_pos c11] at H; have c11b0 := et_ c11; have c11b1 := nf_ c11; clear c11; by_cases c12 : t104 = (-90); rotate_left
 ·rw [if_neg c12] at H; have c12b0 := ef_ c12; have c12b1 := nt_ c12; exact absurd ((Option.some.inj H).trans hr_) (by simp)
 rw [if_pos c12] at H; have c12b0 := et_ c12; have c12b1 := nf_ c12; clear c12; by_cases c13 : t105 = 0; rotate_left
 ·rw [if_neg c13] at H; have c13b0 := ef_ c13; have c13b1 := nt_ c13; exact absurd ((Option.some.inj H).trans hr_) (by simp)
 rw [if_pos c13] at H; have c13b0 := et_ c13; have c13b1 := nf_ c13; clear c13; by_cases c14 : t111 = 2; rotate_left
 ·rw [if_neg c14] at H; have c14b0 := ef_ c14; have c14b1 := nt_ c14; exact absurd ((Option.some.inj H).trans hr_) (by simp)
 rw [if_pos c14] at H; have c14b0 := et_ c14; have c14b1 := nf_ c14; clear c14; by_cases c15 : t121.toList = ([116, 114, 101, 101, 32, 48, 49, 50, 51, 52, 53, 54, 55, 56, 57, 97, 98, 99, 100, 101, 102, 48, 49, 50, 51, 52, 53, 54, 55, 56, 57, 97, 98, 99, 100, 101, 102, 48, 49, 50, 51, 52, 53, 54, 55, 10, 97, 117, 116, 104, 111, 114, 32, 97, 32, 60, 97, 64, 98, 62, 32, 53, 32, 43, 48, 49, 48, 48, 10, 99, 111, 109, 109, 105, 116, 116, 101, 114, 32, 97, 32, 60, 97, 64, 98, 62, 32, 53, 32, 43, 48, 49, 48, 48, 10, 10, 120, 10] : List UInt8); rotate_left
 ·rw [if_neg c15] at H; have c15b0 := ef_ c15; have c15b1 := nt_ c15; exact absurd ((Option.some.inj H).trans hr_) (by simp)
 rw [if_pos c15] at H; have c15b0 := et_ c15; have c15b1 := nf_ c15; clear c15; by_cases c16 : t122 = 0; rotate_left
 ·rw [if_neg c16] at H; have c16b0 := ef_ c16; have c16b1 := nt_ c16; exact absurd ((Option.some.inj H).trans hr_) (by simp)
 rw [if_pos c16] at H; have c16b0 := et_ c16; have c16b1 := nf_ c16; clear c16; by_cases c17 : (t123.length : Int) = 1; rotate_left
 ·rw [if_neg c17] at H; have c17b0 := ef_ c17; have c17b1 := nt_ c17; exact absurd ((Option.some.inj H).trans hr_) (by simp)
 rw [if_pos c17] at H; have c17b0 := et_ c17; have c17b1 := nf_ c17; clear c17; by_cases c18 : 0 < (t123.length : Int); rotate_left
 ·rw [if_neg c18] at H; exact no_ H
 rw [if_pos c18] at H; have c18b0 := dt_ c18; have c18b1 : decide (0 < t123.length) = true := decide_eq_true (by omega); clear c18; by_cases c19 : (rdOf ByteArray.empty t123 0).toList = ([48, 49, 50, 51, 52, 53, 54, 55, 56, 57, 97, 98, 99, 100, 101, 102, 48, 49, 50, 51, 52, 53, 54, 55, 56, 57, 97, 98, 99, 100, 101, 102, 48, 49, 50, 51, 52, 53, 54, 55] : List UInt8); rotate_left
 ·rw [if_neg c19] at H; have c19b0 := ef_ c19; have c19b1 := nt_ c19; exact absurd ((Option.some.inj H).trans hr_) (by simp)
 rw [if_pos c19] at H; have c19b0 := et_ c19; have c19b1 := nf_ c19; clear c19; by_cases c20 : t126 = 0; rotate_left
 ·rw [if_neg c20] at H; have c20b0 := ef_ c20; have c20b1 := nt_ c20; exact absurd ((Option.some.inj H).trans hr_) (by simp)
 rw [if_pos c20] at H; have c20b0 := et_ c20; have c20b1 := nf_ c20; clear c20; by_cases c21 : t132 = 1; rotate_left
 ·rw [if_neg c21] at H; have c21b0 := ef_ c21; have c21b1 := nt_ c21; exact absurd ((Option.some.inj H).trans hr_) (by simp)
 rw [if_pos c21] at H; have c21b0 := et_ c21; have c21b1 := nf_ c21; clear c21; obtain ⟨t139, A22, H⟩ := bx_ H; obtain rfl := oi_ H; go_enter func15, ntmps15; have tk1_ : True := trivial; have tk2_ : True := trivial; have tk3_ : True := trivial; have tk4_ : True := trivial; have tk5_ : True := trivial; have tk6_ : True := trivial; go_wp2_with (first | (have _t := tk1_; (with_reducible refine qb_ (f := 29) rfl ?_); refine gl_ (some 12) func29 #[.string ⟨#[97, 32, 60, 97, 64, 98, 62, 32, 53, 32, 45, 48, 49, 51, 48]⟩] ?_; (with_reducible refine (qah_.calls k ⟨#[97, 32, 60, 97, 64, 98, 62, 32, 53, 32, 45, 48, 49, 51, 48]⟩ t101 t102 t103 t104 t105 _ ?side1 A1.out).mono ?_); (case side1 => exact GV.below hgv (hb_ HB.out)); rintro e w23 ⟨rfl, hb⟩; refine ⟨_, rfl, ?_⟩; replace HB := ah_ HB hb; (try clear hb); (try clear hb2); (try clear hk); (try clear hi); clear tk1_) | ((with_reducible refine qk_ (N := 1) rfl ?_); (try (refine qcp_ (by rfl) ?_; dsimp only)); refine be_ (cs := #[.string ⟨#[]⟩, .string ⟨#[]⟩, .int .i64 0, .int .i64 0]) (t := 24) ?_; intro g106 hg w24 hbox hb; have K106 := qa_.mk (hbox); have W106 := ag_ hg HB; have E106 := ag_ hg HB; replace HB := ah_ HB hb; clear hb hbox hg; obtain ⟨Z25_0, Z25_1, Z25_2, Z25_3, F25⟩ := bc4 K106.out) | (have _t := tk2_; (with_reducible refine qb_ (f := 29) rfl ?_); refine gl_ (some 16) func29 #[.string ⟨#[97, 32, 60, 98, 62, 32, 48, 53, 32, 43, 48, 48, 48, 48]⟩] ?_; (with_reducible refine (qah_.calls k ⟨#[97, 32, 60, 98, 62, 32, 48, 53, 32, 43, 48, 48, 48, 48]⟩ t107 t108 t109 t110 t111 _ ?side1 A2.out).mono ?_); (case side1 => exact GV.below hgv (hs_)); rintro e w26 ⟨rfl, hb⟩; refine ⟨_, rfl, ?_⟩; replace K106 := qa_.mk (qab_ (g := g106) (o := .cells #[.string t101, .string t102, .int .i64 t103, .int .i64 t104] 24 (0, 0)) (by have b_ := K106; exact zb_) hb); replace HB := qa_.mk (qc_ (hs_) hb); (try clear hb); (try clear hb2); (try clear hk); (try clear hi); clear tk2_) | ((with_reducible refine qk_ (N := 3) rfl ?_); (try (refine qcp_ (by rfl) ?_; dsimp only)); refine be_ (cs := #[.string ⟨#[]⟩, .string ⟨#[]⟩, .int .i64 0, .int .i64 0]) (t := 24) ?_; intro g112 hg w27 hbox hb; have K112 := qa_.mk (hbox); have W112 := qa_.mk ((by rw [hg]; exact (qn_ (hs_)) : w.heap.size ≤ g112)); have E112 := qa_.mk ((by rw [hg]; exact (qn_ (hs_)) : w.heap.size ≤ g112)); replace HB := qa_.mk (qc_ (hs_) hb); have N106_112 := qa_.mk (nl2_ hg K106.out); have N112_106 := qa_.mk (ng2_ hg K106.out); replace K106 := ab_ K106 hb; clear hb hbox hg; have hnb28 := N112_106.out; have hnc28 := N106_112.out; obtain ⟨Z29_0, Z29_1, Z29_2, Z29_3, F29⟩ := bc4 K112.out) | (have _t := tk3_; (with_reducible refine qb_ (f := 63) rfl ?_); refine gl_ (some 20) func63 #[] ?_; refine cm_ (qcm_.calls  t113 t114 t115 t116 _ A3.out) fun w30 hb => ?_; replace K106 := qa_.mk (qab_ (g := g106) (o := .cells #[.string t101, .string t102, .int .i64 t103, .int .i64 t104] 24 (0, 0)) (by have b_ := K106; have f_ := N106_112; exact zb_) hb); replace K112 := qa_.mk (qab_ (g := g112) (o := .cells #[.string t107, .string t108, .int .i64 t109, .int .i64 t110] 24 (0, 0)) (by have b_ := K112; exact zb_) hb); replace HB := qa_.mk (qc_ (hs_) hb); (try clear hb); (try clear hb2); (try clear hk); (try clear hi); clear tk3_) | (have _t := tk4_; (with_reducible refine qb_ (f := 63) rfl ?_); refine gl_ (some 21) func63 #[] ?_; refine cm_ (qcm_.calls  t117 t118 t119 t120 _ A4.out) fun w31 hb => ?_; replace K106 := ab_ K106 hb; replace K112 := ab_ K112 hb; replace HB := qa_.mk (qc_ (hs_) hb); (try clear hb); (try clear hb2); (try clear hk); (try clear hi); clear tk4_) | ((with_reducible refine qb_ (f := 16) rfl ?_); refine gl_ (some 23) func16 #[.agg #[.string ⟨#[48, 49, 50, 51, 52, 53, 54, 55, 56, 57, 97, 98, 99, 100, 101, 102, 48, 49, 50, 51, 52, 53, 54, 55, 56, 57, 97, 98, 99, 100, 101, 102, 48, 49, 50, 51, 52, 53, 54, 55]⟩, .slice none 0 0, .string t113, .string t114, .int .i64 t115, .int .i64 t116, .string t117, .string t118, .int .i64 t119, .int .i64 t120, .string ⟨#[120, 10]⟩]] ?_; (refine (qaw_.calls k ⟨#[48, 49, 50, 51, 52, 53, 54, 55, 56, 57, 97, 98, 99, 100, 101, 102, 48, 49, 50, 51, 52, 53, 54, 55, 56, 57, 97, 98, 99, 100, 101, 102, 48, 49, 50, 51, 52, 53, 54, 55]⟩ _ _ ([] : List ByteArray) t113 t114 t115 t116 t117 t118 t119 t120 ⟨#[120, 10]⟩ t121 t122 _ ?side1 ?side2 ?side3 A5.out).mono ?_); (case side1 => exact Kd.C_nil _ _); (case side2 => exact Nat.le_refl _); (case side3 => exact GV.below hgv (hs_)); rintro e w32 ⟨rfl, hb⟩; refine ⟨_, rfl, ?_⟩; replace K106 := ab_ K106 hb; replace K112 := ab_ K112 hb; replace HB := qa_.mk (qc_ (hs_) hb); (try clear hb); (try clear hb2); (try clear hk); (try clear hi)) | ((with_reducible refine qb_ (f := 34) rfl ?_); refine gl_ (some 29) func34 #[.agg #[.int .i64 3, .string t121]] ?_; (with_reducible refine (qaa_.calls k 3 t121 t123 t126 _ ?side1 A6.out).mono ?_); (case side1 => exact GV.below hgv (hs_)); rintro e w33 ⟨v124, rfl, ho0, hb⟩; refine ⟨_, rfl, ?_⟩; have HO125 := qa_.mk (Kd.R_lower ho0 (qn_ (hs_))); replace K106 := ab_ K106 hb; replace K112 := ab_ K112 hb; replace HB := qa_.mk (qc_ (hs_) hb); (try clear hb); (try clear hb2); (try clear hk); (try clear hi); (try clear ho0)) | (have _t := tk5_; (with_reducible refine qb_ (f := 63) rfl ?_); refine gl_ (some 33) func63 #[] ?_; refine cm_ (qcm_.calls  t127 t128 t129 t130 _ A7.out) fun w34 hb => ?_; replace HO125 := qa_.mk (Kd.R_below (rk_ HO125.out) hb); replace K106 := ab_ K106 hb; replace K112 := ab_ K112 hb; replace HB := qa_.mk (qc_ (hs_) hb); (try clear hb); (try clear hb2); (try clear hk); (try clear hi); clear tk5_) | ((with_reducible refine qb_ (f := 25) rfl ?_); refine gl_ (some 35) func25 #[.agg #[.string ⟨#[48, 49, 50, 51, 52, 53, 54, 55, 56, 57, 97, 98, 99, 100, 101, 102, 48, 49, 50, 51, 52, 53, 54, 55, 56, 57, 97, 98, 99, 100, 101, 102, 48, 49, 50, 51, 52, 53, 54, 55]⟩, .int .i64 5, .string ⟨#[118]⟩, .string t127, .string t128, .int .i64 t129, .int .i64 t130, .string ⟨#[]⟩]] ?_; (with_reducible refine (qbo_.calls k ⟨#[48, 49, 50, 51, 52, 53, 54, 55, 56, 57, 97, 98, 99, 100, 101, 102, 48, 49, 50, 51, 52, 53, 54, 55, 56, 57, 97, 98, 99, 100, 101, 102, 48, 49, 50, 51, 52, 53, 54, 55]⟩ 5 ⟨#[118]⟩ t127 t128 t129 t130 ⟨#[]⟩ t131 t132 _ ?side1 A8.out).mono ?_); (case side1 => exact GV.below hgv (hs_)); rintro e w35 ⟨rfl, hb⟩; refine ⟨_, rfl, ?_⟩; replace HO125 := qa_.mk (Kd.R_below (rk_ HO125.out) hb); replace K106 := ab_ K106 hb; replace K112 := ab_ K112 hb; replace HB := qa_.mk (qc_ (hs_) hb); (try clear hb); (try clear hb2); (try clear hk); (try clear hi)) | (have _t := tk6_; (with_reducible refine qb_ (f := 63) rfl ?_); refine gl_ (some 38) func63 #[] ?_; refine cm_ (qcm_.calls  t133 t134 t135 t136 _ A9.out) fun w36 hb => ?_; replace HO125 := qa_.mk (Kd.R_below (rk_ HO125.out) hb); replace K106 := ab_ K106 hb; replace K112 := ab_ K112 hb; replace HB := qa_.mk (qc_ (hs_) hb); (try clear hb); (try clear hb2); (try clear hk); (try clear hi); clear tk6_) | ((with_reducible refine qb_ (f := 31) rfl ?_); refine gl_ (some 39) func31 #[.agg #[.string t133, .string t134, .int .i64 t135, .int .i64 t136]] ?_; (with_reducible refine (qcf_.calls t133 t134 t135 t136 t137 _ ?side1 A10.out).mono ?_); (case side1 => exact GV.below hgv (hs_)); rintro e w37 ⟨rfl, hb⟩; refine ⟨_, rfl, ?_⟩; replace HO125 := qa_.mk (Kd.R_below (rk_ HO125.out) hb); replace K106 := ab_ K106 hb; replace K112 := ab_ K112 hb; replace HB := qa_.mk (qc_ (hs_) hb); (try clear hb); (try clear hb2); (try clear hk); (try clear hi); obtain ⟨Z38_0, Z38_1, Z38_2, Z38_3, F38⟩ := bc4 K106.out; obtain ⟨Ao39, co39, eo39⟩ := Kd.R_slice HO125.out; subst eo39; have p138 : 0 ≤ (0 : Int) := (by omega); have q138 : 0 < (t123.length : Int) := y0_; obtain ⟨ad138, e138, hx138_0⟩ := Kd.at_string (Kd.R_reads' HO125.out).2.2 0 p138 q138; cases e138; have qi138 : (0 < t123.length) = True := eq_true (by omega); (try rw [show ((0 : Int)).toNat = 0 from rfl] at hx138_0); (try rw [Addr.add_zero'] at hx138_0); replace p138 := eq_true p138; replace q138 := eq_true q138) | (go_at_call 36; (with_reducible refine (qcl_.calls k 3 ⟨#[120]⟩ t139 _ ?side1 A22.out).mono ?_); (case side1 => exact GV.below hgv (hs_)); rintro e w40 ⟨rfl, hb⟩; replace HO125 := qa_.mk (Kd.R_below (rk_ HO125.out) hb); replace K106 := ab_ K106 hb; replace K112 := ab_ K112 hb; replace HB := qa_.mk (qc_ (hs_) hb); (try clear hb); (try clear hb2); (try clear hk); (try clear hi)))
 go_ret
 exact ⟨z3_, hs_⟩
theorem lives16 : Ev (fun k => qbd_.f k) true := Ev.of (fun k => qbd_.mono k) (k := 400) (by decide +kernel)
theorem ev_is {α : Type} {g : Nat → Option α} {r t : α} (hg : ∀ k, LeO (g k) (g (k + 1))) (h : Ev g r) {k : Nat} (ht : g k = some t) : t = r := by
  obtain ⟨K, hK⟩ := h
  have h1 := hK (max K k) (Nat.le_max_left _ _)
  have h2 := at_rounds hg (Nat.le_max_right K k) ht
  rw [h1] at h2
  exact (Option.some.inj h2).symm
theorem qbd_.calls (k : Nat) (r : Bool) (w : World) (hgv : GV w) (h : qbd_.f k = some r) : Calls Tryz.prog 15 #[] w fun e w' => e = .returned (.bool r) ∧ Below w.heap.size w w' :=
  qbd_.callsT k r w hgv (ev_is (fun k => qbd_.mono k) lives16 h) h
theorem liveOr16 : Ev (fun k => (qbd_.f k).bind fun t => some t) true := Ev.bind lives16 (Ev.now _)
attribute [local go_sem high] eqA37
mutual
def qae_.j0 : Nat → ByteArray → Int → Int → Bool → ByteArray → List ByteArray → ByteArray → ByteArray → Int → Int → ByteArray → ByteArray → Int → Int → ByteArray → ByteArray → Int → ByteArray → ByteArray → ByteArray → Int → Int → ByteArray → Option (Bool)
 | 0, _, _, _, _, _, _, _, _, _, _, _, _, _, _, _, _, _, _, _, _, _, _, _ => none
 | k + 1, x0, x4, x8, x57, x143000, x143001, x143002, x143003, x143004, x143005, x143006, x143007, x143008, x143009, x143010, x168000, x168001, x168002, x168003, x168004, x168005, x168006, x168007 => if x57 = true then (some false) else (if x4 = 0 then ((qaw_.f k x143000 x143001 x143002 x143003 x143004 x143005 x143006 x143007 x143008 x143009 x143010).bind fun bt179 => (if bt179.1.toList = x0.toList then (if bt179.2 = 0 then (qae_.j1 k x0 x8 x168000 x168001 x168002 x168003 x168004 x168005 x168006 x168007) else (some false)) else (some false))) else (qae_.j1 k x0 x8 x168000 x168001 x168002 x168003 x168004 x168005 x168006 x168007))
def qae_.j1 : Nat → ByteArray → Int → ByteArray → Int → ByteArray → ByteArray → ByteArray → Int → Int → ByteArray → Option (Bool)
 | 0, _, _, _, _, _, _, _, _, _, _ => none
 | k + 1, x0, x8, x168000, x168001, x168002, x168003, x168004, x168005, x168006, x168007 => if x8 = 0 then ((qbo_.f k x168000 x168001 x168002 x168003 x168004 x168005 x168006 x168007).bind fun bt181 => (if bt181.1.toList = x0.toList then (if bt181.2 = 0 then ((qbd_.f k).bind fun t183 => (some t183)) else (some false)) else (some false))) else ((qbd_.f k).bind fun t184 => (some t184))
end
def qae_.f (k : Nat) (a0 : ByteArray) : Option (Bool) := if (a0.size : Int) > 8000 then ((qbd_.f k).bind fun t127 => (some t127)) else ((qh_.f k a0).bind fun bt128 => ((qi_.f k a0).bind fun bt143 => ((qu_.f k a0).bind fun bt158 => ((qx_.f k a0).bind fun bt168 => ((qcs_.f k bt128.1 bt128.2.1 bt128.2.2.1 bt128.2.2.2.1 bt128.2.2.2.2.1 bt128.2.2.2.2.2.1 bt128.2.2.2.2.2.2.1 bt128.2.2.2.2.2.2.2.1 bt128.2.2.2.2.2.2.2.2.1 bt128.2.2.2.2.2.2.2.2.2.1 bt128.2.2.2.2.2.2.2.2.2.2.1 bt143.1 bt143.2.1 bt143.2.2.1 bt143.2.2.2.1 bt143.2.2.2.2.1 bt143.2.2.2.2.2.1 bt143.2.2.2.2.2.2.1 bt143.2.2.2.2.2.2.2.1 bt143.2.2.2.2.2.2.2.2.1 bt143.2.2.2.2.2.2.2.2.2.1 bt143.2.2.2.2.2.2.2.2.2.2.1).bind fun t178 => (if t178 = true then (if bt128.2.2.2.2.2.2.2.2.2.2.2 = bt143.2.2.2.2.2.2.2.2.2.2.2 then (if (!(bt158.1.toList == bt168.1.toList) || (!(bt158.2.1 == bt168.2.1) || (!(bt158.2.2.1.toList == bt168.2.2.1.toList) || ((!(bt158.2.2.2.1.toList == bt168.2.2.2.1.toList) || (!(bt158.2.2.2.2.1.toList == bt168.2.2.2.2.1.toList) || (!(bt158.2.2.2.2.2.1 == bt168.2.2.2.2.2.1) || (!(bt158.2.2.2.2.2.2.1 == bt168.2.2.2.2.2.2.1))))) || (!(bt158.2.2.2.2.2.2.2.1.toList == bt168.2.2.2.2.2.2.2.1.toList)))))) = true then (qae_.j0 k a0 bt128.2.2.2.2.2.2.2.2.2.2.2 bt158.2.2.2.2.2.2.2.2 true bt128.1 bt128.2.1 bt128.2.2.1 bt128.2.2.2.1 bt128.2.2.2.2.1 bt128.2.2.2.2.2.1 bt128.2.2.2.2.2.2.1 bt128.2.2.2.2.2.2.2.1 bt128.2.2.2.2.2.2.2.2.1 bt128.2.2.2.2.2.2.2.2.2.1 bt128.2.2.2.2.2.2.2.2.2.2.1 bt158.1 bt158.2.1 bt158.2.2.1 bt158.2.2.2.1 bt158.2.2.2.2.1 bt158.2.2.2.2.2.1 bt158.2.2.2.2.2.2.1 bt158.2.2.2.2.2.2.2.1) else (qae_.j0 k a0 bt128.2.2.2.2.2.2.2.2.2.2.2 bt158.2.2.2.2.2.2.2.2 (bt158.2.2.2.2.2.2.2.2 != bt168.2.2.2.2.2.2.2.2) bt128.1 bt128.2.1 bt128.2.2.1 bt128.2.2.2.1 bt128.2.2.2.2.1 bt128.2.2.2.2.2.1 bt128.2.2.2.2.2.2.1 bt128.2.2.2.2.2.2.2.1 bt128.2.2.2.2.2.2.2.2.1 bt128.2.2.2.2.2.2.2.2.2.1 bt128.2.2.2.2.2.2.2.2.2.2.1 bt158.1 bt158.2.1 bt158.2.2.1 bt158.2.2.2.1 bt158.2.2.2.2.1 bt158.2.2.2.2.2.1 bt158.2.2.2.2.2.2.1 bt158.2.2.2.2.2.2.2.1)) else (qae_.j0 k a0 bt128.2.2.2.2.2.2.2.2.2.2.2 bt158.2.2.2.2.2.2.2.2 true bt128.1 bt128.2.1 bt128.2.2.1 bt128.2.2.2.1 bt128.2.2.2.2.1 bt128.2.2.2.2.2.1 bt128.2.2.2.2.2.2.1 bt128.2.2.2.2.2.2.2.1 bt128.2.2.2.2.2.2.2.2.1 bt128.2.2.2.2.2.2.2.2.2.1 bt128.2.2.2.2.2.2.2.2.2.2.1 bt158.1 bt158.2.1 bt158.2.2.1 bt158.2.2.2.1 bt158.2.2.2.2.1 bt158.2.2.2.2.2.1 bt158.2.2.2.2.2.2.1 bt158.2.2.2.2.2.2.2.1)) else (qae_.j0 k a0 bt128.2.2.2.2.2.2.2.2.2.2.2 bt158.2.2.2.2.2.2.2.2 true bt128.1 bt128.2.1 bt128.2.2.1 bt128.2.2.2.1 bt128.2.2.2.2.1 bt128.2.2.2.2.2.1 bt128.2.2.2.2.2.2.1 bt128.2.2.2.2.2.2.2.1 bt128.2.2.2.2.2.2.2.2.1 bt128.2.2.2.2.2.2.2.2.2.1 bt128.2.2.2.2.2.2.2.2.2.2.1 bt158.1 bt158.2.1 bt158.2.2.1 bt158.2.2.2.1 bt158.2.2.2.2.1 bt158.2.2.2.2.2.1 bt158.2.2.2.2.2.2.1 bt158.2.2.2.2.2.2.2.1)))))))
theorem qae_.calls (k : Nat) (a0 : ByteArray) (r : Bool) (w : World) (hgv : GV w) (h : qae_.f k a0 = some r) :
  Calls Tryz.prog 4 #[.string a0] w fun e w' => e = .returned (.bool r) ∧ Below w.heap.size w w' := by
 have hu26 := underlying26; have hu37 := underlying37; have HB := qa_.mk (Below.refl w.heap.size w); unfold qae_.f at h; have H := h; clear h; by_cases c2 : (a0.size : Int) > 8000
 ·rw [if_pos c2] at H; have c2b0 := dt_ c2; have c2b1 : decide (8000 < a0.size) = true := decide_eq_true (by omega); clear c2; obtain ⟨t127, A3, H⟩ := bx_ H; obtain rfl := oi_ H; go_enter func4, ntmps4; go_wp2_with (first | ((with_reducible refine qb_ (f := 15) rfl ?_); refine gl_ (some 18) func15 #[] ?_; (with_reducible refine (qbd_.calls k  t127 _ ?side1 A3.out).mono ?_); (case side1 => exact GV.below hgv (hb_ HB.out)); rintro e w4 ⟨rfl, hb⟩; refine ⟨_, rfl, ?_⟩; replace HB := ah_ HB hb; (try clear hb); (try clear hb2); (try clear hk); (try clear hi)))
  go_ret
  exact ⟨z3_, hb_ HB.out⟩
 rw [if_neg c2] at H; have c2b0 := df_ c2; have c2b1 : decide (8000 < a0.size) = false := decide_eq_false (by omega); clear c2; obtain ⟨⟨t128, t129, t132, t133, t134, t135, t136, t137, t138, t139, t140, t141⟩, A5, H⟩ := bx_ H; dsimp only at H; obtain ⟨⟨t143, t144, t147, t148, t149, t150, t151, t152, t153, t154, t155, t156⟩, A6, H⟩ := bx_ H; dsimp only at H; obtain ⟨⟨t158, t159, t160, t161, t162, t163, t164, t165, t166⟩, A7, H⟩ := bx_ H; dsimp only at H; obtain ⟨⟨t168, t169, t170, t171, t172, t173, t174, t175, t176⟩, A8, H⟩ := bx_ H; dsimp only at H; have HC9 := qa_.mk H; clear H; go_enter func4, ntmps4; go_upto_region 7 with (first | ((with_reducible refine qb_ (f := 20) rfl ?_); refine gl_ (some 21) func20 #[.string a0] ?_; (with_reducible refine (qh_.calls k a0 t128 t129 t132 t133 t134 t135 t136 t137 t138 t139 t140 t141 _ ?side1 A5.out).mono ?_); (case side1 => exact GV.below hgv (hb_ HB.out)); rintro e w10 ⟨v130, rfl, ho0, hb⟩; refine ⟨_, rfl, ?_⟩; have HO131 := qa_.mk (Kd.R_lower ho0 (qn_ (hb_ HB.out))); replace HB := ah_ HB hb; (try clear hb); (try clear hb2); (try clear hk); (try clear hi); (try clear ho0)) | ((with_reducible refine qk_ (N := 3) rfl ?_); refine be_ (cs := #[.string ⟨#[]⟩, .slice none 0 0, .string ⟨#[]⟩, .string ⟨#[]⟩, .int .i64 0, .int .i64 0, .string ⟨#[]⟩, .string ⟨#[]⟩, .int .i64 0, .int .i64 0, .string ⟨#[]⟩]) (t := 26) ?_; intro g142 hg w11 hbox hb; replace HO131 := qa_.mk (Kd.R_below (rk_ HO131.out) hb); have K142 := qa_.mk (hbox); have W142 := ag_ hg HB; have E142 := ag_ hg HB; replace HB := ah_ HB hb; clear hb hbox hg; obtain ⟨Z12_0, Z12_1, Z12_2, Z12_3, Z12_4, Z12_5, Z12_6, Z12_7, Z12_8, Z12_9, Z12_10, F12⟩ := bc11 K142.out; obtain ⟨Ao13, co13, eo13⟩ := Kd.R_slice HO131.out; subst eo13) | ((with_reducible refine qb_ (f := 22) rfl ?_); refine gl_ (some 26) func22 #[.string a0] ?_; (with_reducible refine (qi_.calls k a0 t143 t144 t147 t148 t149 t150 t151 t152 t153 t154 t155 t156 _ A6.out).mono ?_); rintro e w14 ⟨v145, rfl, ho0, hb⟩; refine ⟨_, rfl, ?_⟩; have HO146 := qa_.mk (Kd.R_lower (Kd.R_new' ho0 (Kd.R_lt (by (with_reducible repeat (first | apply Kd.R_alloc | apply Kd.R_drewN | apply Kd.R_drew)); exact (Kd.R_mono (Kd.R_far (p := ⟨g142, 10, none⟩) (Kd.R_far (p := ⟨g142, 9, none⟩) (Kd.R_far (p := ⟨g142, 8, none⟩) (Kd.R_far (p := ⟨g142, 7, none⟩) (Kd.R_far (p := ⟨g142, 6, none⟩) (Kd.R_far (p := ⟨g142, 5, none⟩) (Kd.R_far (p := ⟨g142, 4, none⟩) (Kd.R_far (p := ⟨g142, 3, none⟩) (Kd.R_far (p := ⟨g142, 2, none⟩) (Kd.R_far (p := ⟨g142, 1, none⟩) (Kd.R_far (p := ⟨g142, 0, none⟩) (Kd.R_types HO131.out K142.out (by decide)) (fun _ hk => hk.2) (.string t128)) (fun _ hk => hk.2) (.slice Ao13 t129.length co13)) (fun _ hk => hk.2) (.string t132)) (fun _ hk => hk.2) (.string t133)) (fun _ hk => hk.2) (.int .i64 t134)) (fun _ hk => hk.2) (.int .i64 t135)) (fun _ hk => hk.2) (.string t136)) (fun _ hk => hk.2) (.string t137)) (fun _ hk => hk.2) (.int .i64 t138)) (fun _ hk => hk.2) (.int .i64 t139)) (fun _ hk => hk.2) (.string t140)) (fun _ h_ => h_.1))))) (qn_ (hs_))); replace HO131 := qa_.mk (Kd.R_elder' (by (with_reducible repeat (first | apply Kd.R_alloc | apply Kd.R_drewN | apply Kd.R_drew)); exact (Kd.R_mono (Kd.R_far (p := ⟨g142, 10, none⟩) (Kd.R_far (p := ⟨g142, 9, none⟩) (Kd.R_far (p := ⟨g142, 8, none⟩) (Kd.R_far (p := ⟨g142, 7, none⟩) (Kd.R_far (p := ⟨g142, 6, none⟩) (Kd.R_far (p := ⟨g142, 5, none⟩) (Kd.R_far (p := ⟨g142, 4, none⟩) (Kd.R_far (p := ⟨g142, 3, none⟩) (Kd.R_far (p := ⟨g142, 2, none⟩) (Kd.R_far (p := ⟨g142, 1, none⟩) (Kd.R_far (p := ⟨g142, 0, none⟩) (Kd.R_types HO131.out K142.out (by decide)) (fun _ hk => hk.2) (.string t128)) (fun _ hk => hk.2) (.slice Ao13 t129.length co13)) (fun _ hk => hk.2) (.string t132)) (fun _ hk => hk.2) (.string t133)) (fun _ hk => hk.2) (.int .i64 t134)) (fun _ hk => hk.2) (.int .i64 t135)) (fun _ hk => hk.2) (.string t136)) (fun _ hk => hk.2) (.string t137)) (fun _ hk => hk.2) (.int .i64 t138)) (fun _ hk => hk.2) (.int .i64 t139)) (fun _ hk => hk.2) (.string t140)) (fun _ h_ => h_.1))) (Kd.R_base ho0) hb); replace K142 := qa_.mk (qab_ (g := g142) (o := .cells #[.string t128, .slice Ao13 t129.length co13, .string t132, .string t133, .int .i64 t134, .int .i64 t135, .string t136, .string t137, .int .i64 t138, .int .i64 t139, .string t140] 26 (0, 0)) (by have b_ := K142; exact zb_) hb); replace HB := qa_.mk (qc_ (hs_) hb); (try clear hb); (try clear hb2); (try clear hk); (try clear hi); (try clear ho0)) | ((with_reducible refine qk_ (N := 5) rfl ?_); refine be_ (cs := #[.string ⟨#[]⟩, .slice none 0 0, .string ⟨#[]⟩, .string ⟨#[]⟩, .int .i64 0, .int .i64 0, .string ⟨#[]⟩, .string ⟨#[]⟩, .int .i64 0, .int .i64 0, .string ⟨#[]⟩]) (t := 26) ?_; intro g157 hg w15 hbox hb; replace HO131 := qa_.mk (Kd.R_below (rk_ HO131.out) hb); replace HO146 := qa_.mk (Kd.R_below (rk_ HO146.out) hb); have K157 := qa_.mk (hbox); have W157 := qa_.mk ((by rw [hg]; exact (qn_ (hs_)) : w.heap.size ≤ g157)); have E157 := qa_.mk ((by rw [hg]; exact (qn_ (hs_)) : w.heap.size ≤ g157)); replace HB := qa_.mk (qc_ (hs_) hb); have N142_157 := qa_.mk (nl2_ hg K142.out); have N157_142 := qa_.mk (ng2_ hg K142.out); replace K142 := ab_ K142 hb; clear hb hbox hg; have hnb16 := N157_142.out; have hnc16 := N142_157.out; obtain ⟨Z17_0, Z17_1, Z17_2, Z17_3, Z17_4, Z17_5, Z17_6, Z17_7, Z17_8, Z17_9, Z17_10, F17⟩ := bc11 K157.out; obtain ⟨Ao18, co18, eo18⟩ := Kd.R_slice HO146.out; subst eo18) | ((with_reducible refine qb_ (f := 23) rfl ?_); refine gl_ (some 31) func23 #[.string a0] ?_; (with_reducible refine (qu_.calls k a0 t158 t159 t160 t161 t162 t163 t164 t165 t166 _ ?side1 A7.out).mono ?_); (case side1 => exact GV.below hgv (hs_)); rintro e w19 ⟨rfl, hb⟩; refine ⟨_, rfl, ?_⟩; replace HO131 := qa_.mk (Kd.R_below (by (with_reducible repeat (first | apply Kd.R_alloc | apply Kd.R_drewN | apply Kd.R_drew)); exact (Kd.R_mono (Kd.R_far (p := ⟨g157, 10, none⟩) (Kd.R_far (p := ⟨g157, 9, none⟩) (Kd.R_far (p := ⟨g157, 8, none⟩) (Kd.R_far (p := ⟨g157, 7, none⟩) (Kd.R_far (p := ⟨g157, 6, none⟩) (Kd.R_far (p := ⟨g157, 5, none⟩) (Kd.R_far (p := ⟨g157, 4, none⟩) (Kd.R_far (p := ⟨g157, 3, none⟩) (Kd.R_far (p := ⟨g157, 2, none⟩) (Kd.R_far (p := ⟨g157, 1, none⟩) (Kd.R_far (p := ⟨g157, 0, none⟩) (Kd.R_types HO131.out K157.out (by decide)) (fun _ hk => hk.2) (.string t143)) (fun _ hk => hk.2) (.slice Ao18 t144.length co18)) (fun _ hk => hk.2) (.string t147)) (fun _ hk => hk.2) (.string t148)) (fun _ hk => hk.2) (.int .i64 t149)) (fun _ hk => hk.2) (.int .i64 t150)) (fun _ hk => hk.2) (.string t151)) (fun _ hk => hk.2) (.string t152)) (fun _ hk => hk.2) (.int .i64 t153)) (fun _ hk => hk.2) (.int .i64 t154)) (fun _ hk => hk.2) (.string t155)) (fun _ h_ => h_.1))) hb); replace HO146 := qa_.mk (Kd.R_below (by (with_reducible repeat (first | apply Kd.R_alloc | apply Kd.R_drewN | apply Kd.R_drew)); exact (Kd.R_mono (Kd.R_far (p := ⟨g157, 10, none⟩) (Kd.R_far (p := ⟨g157, 9, none⟩) (Kd.R_far (p := ⟨g157, 8, none⟩) (Kd.R_far (p := ⟨g157, 7, none⟩) (Kd.R_far (p := ⟨g157, 6, none⟩) (Kd.R_far (p := ⟨g157, 5, none⟩) (Kd.R_far (p := ⟨g157, 4, none⟩) (Kd.R_far (p := ⟨g157, 3, none⟩) (Kd.R_far (p := ⟨g157, 2, none⟩) (Kd.R_far (p := ⟨g157, 1, none⟩) (Kd.R_far (p := ⟨g157, 0, none⟩) (Kd.R_types HO146.out K157.out (by decide)) (fun _ hk => hk.2) (.string t143)) (fun _ hk => hk.2) (.slice Ao18 t144.length co18)) (fun _ hk => hk.2) (.string t147)) (fun _ hk => hk.2) (.string t148)) (fun _ hk => hk.2) (.int .i64 t149)) (fun _ hk => hk.2) (.int .i64 t150)) (fun _ hk => hk.2) (.string t151)) (fun _ hk => hk.2) (.string t152)) (fun _ hk => hk.2) (.int .i64 t153)) (fun _ hk => hk.2) (.int .i64 t154)) (fun _ hk => hk.2) (.string t155)) (fun _ h_ => h_.1))) hb); replace K142 := qa_.mk (qab_ (g := g142) (o := .cells #[.string t128, .slice Ao13 t129.length co13, .string t132, .string t133, .int .i64 t134, .int .i64 t135, .string t136, .string t137, .int .i64 t138, .int .i64 t139, .string t140] 26 (0, 0)) (by have b_ := K142; have f_ := N142_157; exact zb_) hb); replace K157 := qa_.mk (qab_ (g := g157) (o := .cells #[.string t143, .slice Ao18 t144.length co18, .string t147, .string t148, .int .i64 t149, .int .i64 t150, .string t151, .string t152, .int .i64 t153, .int .i64 t154, .string t155] 26 (0, 0)) (by have b_ := K157; exact zb_) hb); replace HB := qa_.mk (qc_ (hs_) hb); (try clear hb); (try clear hb2); (try clear hk); (try clear hi)) | ((with_reducible refine qk_ (N := 7) rfl ?_); refine be_ (cs := #[.string ⟨#[]⟩, .int .i64 0, .string ⟨#[]⟩, .string ⟨#[]⟩, .string ⟨#[]⟩, .int .i64 0, .int .i64 0, .string ⟨#[]⟩]) (t := 37) ?_; intro g167 hg w20 hbox hb; replace HO131 := qa_.mk (Kd.R_below (rk_ HO131.out) hb); replace HO146 := qa_.mk (Kd.R_below (rk_ HO146.out) hb); have K167 := qa_.mk (hbox); have W167 := qa_.mk ((by rw [hg]; exact (qn_ (hs_)) : w.heap.size ≤ g167)); have E167 := qa_.mk ((by rw [hg]; exact (qn_ (hs_)) : w.heap.size ≤ g167)); replace HB := qa_.mk (qc_ (hs_) hb); have N142_167 := qa_.mk (nl2_ hg K142.out); have N167_142 := qa_.mk (ng2_ hg K142.out); replace K142 := ab_ K142 hb; have N157_167 := qa_.mk (nl2_ hg K157.out); have N167_157 := qa_.mk (ng2_ hg K157.out); replace K157 := ab_ K157 hb; clear hb hbox hg; have hnb21 := N167_142.out; have hnc21 := N142_167.out; have hnb22 := N167_157.out; have hnc22 := N157_167.out; obtain ⟨Z23_0, Z23_1, Z23_2, Z23_3, Z23_4, Z23_5, Z23_6, Z23_7, F23⟩ := bc8 K167.out) | ((with_reducible refine qb_ (f := 24) rfl ?_); refine gl_ (some 36) func24 #[.string a0] ?_; refine cm_ (qx_.calls k a0 t168 t169 t170 t171 t172 t173 t174 t175 t176 _ A8.out) fun w24 hb => ?_; replace HO131 := qa_.mk (Kd.R_below (by (with_reducible repeat (first | apply Kd.R_alloc | apply Kd.R_drewN | apply Kd.R_drew)); exact (Kd.R_mono (Kd.R_far (p := ⟨g167, 7, none⟩) (Kd.R_far (p := ⟨g167, 6, none⟩) (Kd.R_far (p := ⟨g167, 5, none⟩) (Kd.R_far (p := ⟨g167, 4, none⟩) (Kd.R_far (p := ⟨g167, 3, none⟩) (Kd.R_far (p := ⟨g167, 2, none⟩) (Kd.R_far (p := ⟨g167, 1, none⟩) (Kd.R_far (p := ⟨g167, 0, none⟩) (Kd.R_types HO131.out K167.out (by decide)) (fun _ hk => hk.2) (.string t158)) (fun _ hk => hk.2) (.int .i64 t159)) (fun _ hk => hk.2) (.string t160)) (fun _ hk => hk.2) (.string t161)) (fun _ hk => hk.2) (.string t162)) (fun _ hk => hk.2) (.int .i64 t163)) (fun _ hk => hk.2) (.int .i64 t164)) (fun _ hk => hk.2) (.string t165)) (fun _ h_ => h_.1))) hb); replace HO146 := qa_.mk (Kd.R_below (by (with_reducible repeat (first | apply Kd.R_alloc | apply Kd.R_drewN | apply Kd.R_drew)); exact (Kd.R_mono (Kd.R_far (p := ⟨g167, 7, none⟩) (Kd.R_far (p := ⟨g167, 6, none⟩) (Kd.R_far (p := ⟨g167, 5, none⟩) (Kd.R_far (p := ⟨g167, 4, none⟩) (Kd.R_far (p := ⟨g167, 3, none⟩) (Kd.R_far (p := ⟨g167, 2, none⟩) (Kd.R_far (p := ⟨g167, 1, none⟩) (Kd.R_far (p := ⟨g167, 0, none⟩) (Kd.R_types HO146.out K167.out (by decide)) (fun _ hk => hk.2) (.string t158)) (fun _ hk => hk.2) (.int .i64 t159)) (fun _ hk => hk.2) (.string t160)) (fun _ hk => hk.2) (.string t161)) (fun _ hk => hk.2) (.string t162)) (fun _ hk => hk.2) (.int .i64 t163)) (fun _ hk => hk.2) (.int .i64 t164)) (fun _ hk => hk.2) (.string t165)) (fun _ h_ => h_.1))) hb); replace K142 := qa_.mk (qab_ (g := g142) (o := .cells #[.string t128, .slice Ao13 t129.length co13, .string t132, .string t133, .int .i64 t134, .int .i64 t135, .string t136, .string t137, .int .i64 t138, .int .i64 t139, .string t140] 26 (0, 0)) (by have b_ := K142; have f_ := N142_167; exact zb_) hb); replace K157 := qa_.mk (qab_ (g := g157) (o := .cells #[.string t143, .slice Ao18 t144.length co18, .string t147, .string t148, .int .i64 t149, .int .i64 t150, .string t151, .string t152, .int .i64 t153, .int .i64 t154, .string t155] 26 (0, 0)) (by have b_ := K157; have f_ := N157_167; exact zb_) hb); replace K167 := qa_.mk (qab_ (g := g167) (o := .cells #[.string t158, .int .i64 t159, .string t160, .string t161, .string t162, .int .i64 t163, .int .i64 t164, .string t165] 37 (0, 0)) (by have b_ := K167; exact zb_) hb); replace HB := qa_.mk (qc_ (hs_) hb); (try clear hb); (try clear hb2); (try clear hk); (try clear hi)) | ((with_reducible refine qk_ (N := 9) rfl ?_); refine be_ (cs := #[.string ⟨#[]⟩, .int .i64 0, .string ⟨#[]⟩, .string ⟨#[]⟩, .string ⟨#[]⟩, .int .i64 0, .int .i64 0, .string ⟨#[]⟩]) (t := 37) ?_; intro g177 hg w25 hbox hb; replace HO131 := qa_.mk (Kd.R_below (rk_ HO131.out) hb); replace HO146 := qa_.mk (Kd.R_below (rk_ HO146.out) hb); have K177 := qa_.mk (hbox); have W177 := qa_.mk ((by rw [hg]; exact (qn_ (hs_)) : w.heap.size ≤ g177)); have E177 := qa_.mk ((by rw [hg]; exact (qn_ (hs_)) : w.heap.size ≤ g177)); replace HB := qa_.mk (qc_ (hs_) hb); have N142_177 := qa_.mk (nl2_ hg K142.out); have N177_142 := qa_.mk (ng2_ hg K142.out); replace K142 := ab_ K142 hb; have N157_177 := qa_.mk (nl2_ hg K157.out); have N177_157 := qa_.mk (ng2_ hg K157.out); replace K157 := ab_ K157 hb; have N167_177 := qa_.mk (nl2_ hg K167.out); have N177_167 := qa_.mk (ng2_ hg K167.out); replace K167 := ab_ K167 hb; clear hb hbox hg; have hnb26 := N177_142.out; have hnc26 := N142_177.out; have hnb27 := N177_157.out; have hnc27 := N157_177.out; have hnb28 := N177_167.out; have hnc28 := N167_177.out; obtain ⟨Z29_0, Z29_1, Z29_2, Z29_3, Z29_4, Z29_5, Z29_6, Z29_7, F29⟩ := bc8 K177.out))
 (try simp only [Act.put, List.setIfInBounds_toArray, List.set_cons_zero, List.set_cons_succ])
 go_cut [57] (fun v57 wc => ∃ (kq : Nat) (x57_8 : Bool), v57 = .bool x57_8 ∧ qa_ (qae_.j0 kq a0 t141 t166 x57_8 t128 t129 t132 t133 t134 t135 t136 t137 t138 t139 t140 t158 t159 t160 t161 t162 t163 t164 t165 = some r) ∧ qa_ (kq ≤ k) ∧ qa_ (Kd.R Kd.string 9 wc w.heap.size (fun k_ => some k_ ≠ ((.slice Ao18 t144.length co18) : Value).ownBlock) (.slice Ao13 t129.length co13) t129) ∧ qa_ (Kd.R Kd.string 9 wc w.heap.size (fun k_ => some k_ ≠ ((.slice Ao13 t129.length co13) : Value).ownBlock) (.slice Ao18 t144.length co18) t144) ∧ qa_ (wc.heap[g142]? = some (.cells #[.string t128, (.slice Ao13 t129.length co13), .string t132, .string t133, .int .i64 t134, .int .i64 t135, .string t136, .string t137, .int .i64 t138, .int .i64 t139, .string t140] 26 (0, 0))) ∧ qa_ (wc.heap[g157]? = some (.cells #[.string t143, (.slice Ao18 t144.length co18), .string t147, .string t148, .int .i64 t149, .int .i64 t150, .string t151, .string t152, .int .i64 t153, .int .i64 t154, .string t155] 26 (0, 0))) ∧ qa_ (wc.heap[g167]? = some (.cells #[.string t158, .int .i64 t159, .string t160, .string t161, .string t162, .int .i64 t163, .int .i64 t164, .string t165] 37 (0, 0))) ∧ qa_ (wc.heap[g177]? = some (.cells #[.string t168, .int .i64 t169, .string t170, .string t171, .string t172, .int .i64 t173, .int .i64 t174, .string t175] 37 (0, 0))) ∧ qa_ (Below w.heap.size w wc))
 case first =>
  have H := HC9.out; clear HC9; obtain ⟨t178, A30, H⟩ := bx_ H; by_cases c31 : t178 = true; rotate_left
  ·replace c31 := Bool.eq_false_iff.mpr c31; subst c31; rw [if_neg nft_] at H; have H' := qa_.mk H; clear H; have hnb64 := N142_157.out; have hnc64 := N157_142.out; have hnb65 := N142_167.out; have hnc65 := N167_142.out; have hnb66 := N142_177.out; have hnc66 := N177_142.out; obtain ⟨Z67_0, Z67_1, Z67_2, Z67_3, Z67_4, Z67_5, Z67_6, Z67_7, Z67_8, Z67_9, Z67_10, F67⟩ := bc11 K142.out; have hnb68 := N157_167.out; have hnc68 := N167_157.out; have hnb69 := N157_177.out; have hnc69 := N177_157.out; obtain ⟨Z70_0, Z70_1, Z70_2, Z70_3, Z70_4, Z70_5, Z70_6, Z70_7, Z70_8, Z70_9, Z70_10, F70⟩ := bc11 K157.out; go_wp2_with (first | ((with_reducible refine qb_ (f := 21) rfl ?_); refine gl_ (some 41) func21 #[.agg #[.string t128, .slice Ao13 t129.length co13, .string t132, .string t133, .int .i64 t134, .int .i64 t135, .string t136, .string t137, .int .i64 t138, .int .i64 t139, .string t140], .agg #[.string t143, .slice Ao18 t144.length co18, .string t147, .string t148, .int .i64 t149, .int .i64 t150, .string t151, .string t152, .int .i64 t153, .int .i64 t154, .string t155]] ?_; (with_reducible refine (qcs_.calls k t128 _ _ t129 t132 t133 t134 t135 t136 t137 t138 t139 t140 t143 _ _ t144 t147 t148 t149 t150 t151 t152 t153 t154 t155 false _ ?side1 ?side2 ?side3 ?side4 A30.out).mono ?_); (case side1 => refine (Kd.R_reads' (e := 9) (base := w.heap.size) (ok := fun k_ => (True ∧ some k_ ≠ (.slice Ao18 t144.length co18 : Value).ownBlock)) (n := t129.length) (c := co13) ?_).2.2; exact (by (with_reducible repeat (first | apply Kd.R_alloc | apply Kd.R_drewN | apply Kd.R_drew)); exact (Kd.R_mono (Kd.R_far (p := ⟨g177, 7, none⟩) (Kd.R_far (p := ⟨g177, 6, none⟩) (Kd.R_far (p := ⟨g177, 5, none⟩) (Kd.R_far (p := ⟨g177, 4, none⟩) (Kd.R_far (p := ⟨g177, 3, none⟩) (Kd.R_far (p := ⟨g177, 2, none⟩) (Kd.R_far (p := ⟨g177, 1, none⟩) (Kd.R_far (p := ⟨g177, 0, none⟩) (Kd.R_types HO131.out K177.out (by decide)) (fun _ hk => hk.2) (.string t168)) (fun _ hk => hk.2) (.int .i64 t169)) (fun _ hk => hk.2) (.string t170)) (fun _ hk => hk.2) (.string t171)) (fun _ hk => hk.2) (.string t172)) (fun _ hk => hk.2) (.int .i64 t173)) (fun _ hk => hk.2) (.int .i64 t174)) (fun _ hk => hk.2) (.string t175)) (fun _ h_ => h_.1)))); (case side2 => exact (Kd.R_reads' HO131.out).2.1); (case side3 => refine (Kd.R_reads' (e := 9) (base := w.heap.size) (ok := fun k_ => (True ∧ some k_ ≠ (.slice Ao13 t129.length co13 : Value).ownBlock)) (n := t144.length) (c := co18) ?_).2.2; exact (by (with_reducible repeat (first | apply Kd.R_alloc | apply Kd.R_drewN | apply Kd.R_drew)); exact (Kd.R_mono (Kd.R_far (p := ⟨g177, 7, none⟩) (Kd.R_far (p := ⟨g177, 6, none⟩) (Kd.R_far (p := ⟨g177, 5, none⟩) (Kd.R_far (p := ⟨g177, 4, none⟩) (Kd.R_far (p := ⟨g177, 3, none⟩) (Kd.R_far (p := ⟨g177, 2, none⟩) (Kd.R_far (p := ⟨g177, 1, none⟩) (Kd.R_far (p := ⟨g177, 0, none⟩) (Kd.R_types HO146.out K177.out (by decide)) (fun _ hk => hk.2) (.string t168)) (fun _ hk => hk.2) (.int .i64 t169)) (fun _ hk => hk.2) (.string t170)) (fun _ hk => hk.2) (.string t171)) (fun _ hk => hk.2) (.string t172)) (fun _ hk => hk.2) (.int .i64 t173)) (fun _ hk => hk.2) (.int .i64 t174)) (fun _ hk => hk.2) (.string t175)) (fun _ h_ => h_.1)))); (case side4 => exact (Kd.R_reads' HO146.out).2.1); rintro e w71 ⟨rfl, hb⟩; refine ⟨_, rfl, ?_⟩; replace HO131 := qa_.mk (Kd.R_below (by (with_reducible repeat (first | apply Kd.R_alloc | apply Kd.R_drewN | apply Kd.R_drew)); exact (Kd.R_mono (Kd.R_far (p := ⟨g177, 7, none⟩) (Kd.R_far (p := ⟨g177, 6, none⟩) (Kd.R_far (p := ⟨g177, 5, none⟩) (Kd.R_far (p := ⟨g177, 4, none⟩) (Kd.R_far (p := ⟨g177, 3, none⟩) (Kd.R_far (p := ⟨g177, 2, none⟩) (Kd.R_far (p := ⟨g177, 1, none⟩) (Kd.R_far (p := ⟨g177, 0, none⟩) (Kd.R_types HO131.out K177.out (by decide)) (fun _ hk => hk.2) (.string t168)) (fun _ hk => hk.2) (.int .i64 t169)) (fun _ hk => hk.2) (.string t170)) (fun _ hk => hk.2) (.string t171)) (fun _ hk => hk.2) (.string t172)) (fun _ hk => hk.2) (.int .i64 t173)) (fun _ hk => hk.2) (.int .i64 t174)) (fun _ hk => hk.2) (.string t175)) (fun _ h_ => h_.1))) hb); replace HO146 := qa_.mk (Kd.R_below (by (with_reducible repeat (first | apply Kd.R_alloc | apply Kd.R_drewN | apply Kd.R_drew)); exact (Kd.R_mono (Kd.R_far (p := ⟨g177, 7, none⟩) (Kd.R_far (p := ⟨g177, 6, none⟩) (Kd.R_far (p := ⟨g177, 5, none⟩) (Kd.R_far (p := ⟨g177, 4, none⟩) (Kd.R_far (p := ⟨g177, 3, none⟩) (Kd.R_far (p := ⟨g177, 2, none⟩) (Kd.R_far (p := ⟨g177, 1, none⟩) (Kd.R_far (p := ⟨g177, 0, none⟩) (Kd.R_types HO146.out K177.out (by decide)) (fun _ hk => hk.2) (.string t168)) (fun _ hk => hk.2) (.int .i64 t169)) (fun _ hk => hk.2) (.string t170)) (fun _ hk => hk.2) (.string t171)) (fun _ hk => hk.2) (.string t172)) (fun _ hk => hk.2) (.int .i64 t173)) (fun _ hk => hk.2) (.int .i64 t174)) (fun _ hk => hk.2) (.string t175)) (fun _ h_ => h_.1))) hb); replace K142 := qa_.mk (qab_ (g := g142) (o := .cells #[.string t128, .slice Ao13 t129.length co13, .string t132, .string t133, .int .i64 t134, .int .i64 t135, .string t136, .string t137, .int .i64 t138, .int .i64 t139, .string t140] 26 (0, 0)) (by have b_ := K142; have f_ := N142_177; exact zb_) hb); replace K157 := qa_.mk (qab_ (g := g157) (o := .cells #[.string t143, .slice Ao18 t144.length co18, .string t147, .string t148, .int .i64 t149, .int .i64 t150, .string t151, .string t152, .int .i64 t153, .int .i64 t154, .string t155] 26 (0, 0)) (by have b_ := K157; have f_ := N157_177; exact zb_) hb); replace K167 := qa_.mk (qab_ (g := g167) (o := .cells #[.string t158, .int .i64 t159, .string t160, .string t161, .string t162, .int .i64 t163, .int .i64 t164, .string t165] 37 (0, 0)) (by have b_ := K167; have f_ := N167_177; exact zb_) hb); replace K177 := qa_.mk (qab_ (g := g177) (o := .cells #[.string t168, .int .i64 t169, .string t170, .string t171, .string t172, .int .i64 t173, .int .i64 t174, .string t175] 37 (0, 0)) (by have b_ := K177; exact zb_) hb); replace HB := qa_.mk (qc_ (hs_) hb); (try clear hb); (try clear hb2); (try clear hk); (try clear hi)))
   go_meet
   case rel => exact ⟨_, (true), z1_, H', ⟨z4_⟩, ⟨z29_⟩, ⟨z30_⟩, ⟨bk_ K142.out⟩, ⟨bk_ K157.out⟩, ⟨bk_ K167.out⟩, ⟨bk_ K177.out⟩, ⟨hs_⟩⟩
  subst c31; rw [if_pos rfl] at H; by_cases c32 : t141 = t156; rotate_left
  ·rw [if_neg c32] at H; have c32b0 := ef_ c32; have c32b1 := nt_ c32; (first | rw [c32b0] | (simp only [i64_w, i32_w]; rw [c32b0]) | skip); (try rw [c32b8])
   have H' := qa_.mk H; clear H; have hnb56 := N142_157.out; have hnc56 := N157_142.out; have hnb57 := N142_167.out; have hnc57 := N167_142.out; have hnb58 := N142_177.out; have hnc58 := N177_142.out; obtain ⟨Z59_0, Z59_1, Z59_2, Z59_3, Z59_4, Z59_5, Z59_6, Z59_7, Z59_8, Z59_9, Z59_10, F59⟩ := bc11 K142.out; have hnb60 := N157_167.out; have hnc60 := N167_157.out; have hnb61 := N157_177.out; have hnc61 := N177_157.out; obtain ⟨Z62_0, Z62_1, Z62_2, Z62_3, Z62_4, Z62_5, Z62_6, Z62_7, Z62_8, Z62_9, Z62_10, F62⟩ := bc11 K157.out; go_wp2_with (first | ((with_reducible refine qb_ (f := 21) rfl ?_); refine gl_ (some 41) func21 #[.agg #[.string t128, .slice Ao13 t129.length co13, .string t132, .string t133, .int .i64 t134, .int .i64 t135, .string t136, .string t137, .int .i64 t138, .int .i64 t139, .string t140], .agg #[.string t143, .slice Ao18 t144.length co18, .string t147, .string t148, .int .i64 t149, .int .i64 t150, .string t151, .string t152, .int .i64 t153, .int .i64 t154, .string t155]] ?_; (with_reducible refine (qcs_.calls k t128 _ _ t129 t132 t133 t134 t135 t136 t137 t138 t139 t140 t143 _ _ t144 t147 t148 t149 t150 t151 t152 t153 t154 t155 true _ ?side1 ?side2 ?side3 ?side4 A30.out).mono ?_); (case side1 => refine (Kd.R_reads' (e := 9) (base := w.heap.size) (ok := fun k_ => (True ∧ some k_ ≠ (.slice Ao18 t144.length co18 : Value).ownBlock)) (n := t129.length) (c := co13) ?_).2.2; exact (by (with_reducible repeat (first | apply Kd.R_alloc | apply Kd.R_drewN | apply Kd.R_drew)); exact (Kd.R_mono (Kd.R_far (p := ⟨g177, 7, none⟩) (Kd.R_far (p := ⟨g177, 6, none⟩) (Kd.R_far (p := ⟨g177, 5, none⟩) (Kd.R_far (p := ⟨g177, 4, none⟩) (Kd.R_far (p := ⟨g177, 3, none⟩) (Kd.R_far (p := ⟨g177, 2, none⟩) (Kd.R_far (p := ⟨g177, 1, none⟩) (Kd.R_far (p := ⟨g177, 0, none⟩) (Kd.R_types HO131.out K177.out (by decide)) (fun _ hk => hk.2) (.string t168)) (fun _ hk => hk.2) (.int .i64 t169)) (fun _ hk => hk.2) (.string t170)) (fun _ hk => hk.2) (.string t171)) (fun _ hk => hk.2) (.string t172)) (fun _ hk => hk.2) (.int .i64 t173)) (fun _ hk => hk.2) (.int .i64 t174)) (fun _ hk => hk.2) (.string t175)) (fun _ h_ => h_.1)))); (case side2 => exact (Kd.R_reads' HO131.out).2.1); (case side3 => refine (Kd.R_reads' (e := 9) (base := w.heap.size) (ok := fun k_ => (True ∧ some k_ ≠ (.slice Ao13 t129.length co13 : Value).ownBlock)) (n := t144.length) (c := co18) ?_).2.2; exact (by (with_reducible repeat (first | apply Kd.R_alloc | apply Kd.R_drewN | apply Kd.R_drew)); exact (Kd.R_mono (Kd.R_far (p := ⟨g177, 7, none⟩) (Kd.R_far (p := ⟨g177, 6, none⟩) (Kd.R_far (p := ⟨g177, 5, none⟩) (Kd.R_far (p := ⟨g177, 4, none⟩) (Kd.R_far (p := ⟨g177, 3, none⟩) (Kd.R_far (p := ⟨g177, 2, none⟩) (Kd.R_far (p := ⟨g177, 1, none⟩) (Kd.R_far (p := ⟨g177, 0, none⟩) (Kd.R_types HO146.out K177.out (by decide)) (fun _ hk => hk.2) (.string t168)) (fun _ hk => hk.2) (.int .i64 t169)) (fun _ hk => hk.2) (.string t170)) (fun _ hk => hk.2) (.string t171)) (fun _ hk => hk.2) (.string t172)) (fun _ hk => hk.2) (.int .i64 t173)) (fun _ hk => hk.2) (.int .i64 t174)) (fun _ hk => hk.2) (.string t175)) (fun _ h_ => h_.1)))); (case side4 => exact (Kd.R_reads' HO146.out).2.1); rintro e w63 ⟨rfl, hb⟩; refine ⟨_, rfl, ?_⟩; replace HO131 := qa_.mk (Kd.R_below (by (with_reducible repeat (first | apply Kd.R_alloc | apply Kd.R_drewN | apply Kd.R_drew)); exact (Kd.R_mono (Kd.R_far (p := ⟨g177, 7, none⟩) (Kd.R_far (p := ⟨g177, 6, none⟩) (Kd.R_far (p := ⟨g177, 5, none⟩) (Kd.R_far (p := ⟨g177, 4, none⟩) (Kd.R_far (p := ⟨g177, 3, none⟩) (Kd.R_far (p := ⟨g177, 2, none⟩) (Kd.R_far (p := ⟨g177, 1, none⟩) (Kd.R_far (p := ⟨g177, 0, none⟩) (Kd.R_types HO131.out K177.out (by decide)) (fun _ hk => hk.2) (.string t168)) (fun _ hk => hk.2) (.int .i64 t169)) (fun _ hk => hk.2) (.string t170)) (fun _ hk => hk.2) (.string t171)) (fun _ hk => hk.2) (.string t172)) (fun _ hk => hk.2) (.int .i64 t173)) (fun _ hk => hk.2) (.int .i64 t174)) (fun _ hk => hk.2) (.string t175)) (fun _ h_ => h_.1))) hb); replace HO146 := qa_.mk (Kd.R_below (by (with_reducible repeat (first | apply Kd.R_alloc | apply Kd.R_drewN | apply Kd.R_drew)); exact (Kd.R_mono (Kd.R_far (p := ⟨g177, 7, none⟩) (Kd.R_far (p := ⟨g177, 6, none⟩) (Kd.R_far (p := ⟨g177, 5, none⟩) (Kd.R_far (p := ⟨g177, 4, none⟩) (Kd.R_far (p := ⟨g177, 3, none⟩) (Kd.R_far (p := ⟨g177, 2, none⟩) (Kd.R_far (p := ⟨g177, 1, none⟩) (Kd.R_far (p := ⟨g177, 0, none⟩) (Kd.R_types HO146.out K177.out (by decide)) (fun _ hk => hk.2) (.string t168)) (fun _ hk => hk.2) (.int .i64 t169)) (fun _ hk => hk.2) (.string t170)) (fun _ hk => hk.2) (.string t171)) (fun _ hk => hk.2) (.string t172)) (fun _ hk => hk.2) (.int .i64 t173)) (fun _ hk => hk.2) (.int .i64 t174)) (fun _ hk => hk.2) (.string t175)) (fun _ h_ => h_.1))) hb); replace K142 := qa_.mk (qab_ (g := g142) (o := .cells #[.string t128, .slice Ao13 t129.length co13, .string t132, .string t133, .int .i64 t134, .int .i64 t135, .string t136, .string t137, .int .i64 t138, .int .i64 t139, .string t140] 26 (0, 0)) (by have b_ := K142; have f_ := N142_177; exact zb_) hb); replace K157 := qa_.mk (qab_ (g := g157) (o := .cells #[.string t143, .slice Ao18 t144.length co18, .string t147, .string t148, .int .i64 t149, .int .i64 t150, .string t151, .string t152, .int .i64 t153, .int .i64 t154, .string t155] 26 (0, 0)) (by have b_ := K157; have f_ := N157_177; exact zb_) hb); replace K167 := qa_.mk (qab_ (g := g167) (o := .cells #[.string t158, .int .i64 t159, .string t160, .string t161, .string t162, .int .i64 t163, .int .i64 t164, .string t165] 37 (0, 0)) (by have b_ := K167; have f_ := N167_177; exact zb_) hb); replace K177 := qa_.mk (qab_ (g := g177) (o := .cells #[.string t168, .int .i64 t169, .string t170, .string t171, .string t172, .int .i64 t173, .int .i64 t174, .string t175] 37 (0, 0)) (by have b_ := K177; exact zb_) hb); replace HB := qa_.mk (qc_ (hs_) hb); (try clear hb); (try clear hb2); (try clear hk); (try clear hi)))
   go_meet
   case rel => exact ⟨_, (true), z1_, H', ⟨z4_⟩, ⟨z29_⟩, ⟨z30_⟩, ⟨bk_ K142.out⟩, ⟨bk_ K157.out⟩, ⟨bk_ K167.out⟩, ⟨bk_ K177.out⟩, ⟨hs_⟩⟩
  rw [if_pos c32] at H; have c32b0 := et_ c32; have c32b1 := nf_ c32; clear c32; (first | rw [c32b0] | (simp only [i64_w, i32_w]; rw [c32b0]) | skip); (try rw [c32b8])
  by_cases c33 : (!(t158.toList == t168.toList) || (!(t159 == t169) || (!(t160.toList == t170.toList) || ((!(t161.toList == t171.toList) || (!(t162.toList == t172.toList) || (!(t163 == t173) || (!(t164 == t174))))) || (!(t165.toList == t175.toList)))))) = true
  ·rw [if_pos c33] at H; have c33b0 : (!(t158.toList == t168.toList) || (!(t159 == t169) || (!(t160.toList == t170.toList) || ((!(t161.toList == t171.toList) || (!(t162.toList == t172.toList) || (!(t163 == t173) || (!(t164 == t174))))) || (!(t165.toList == t175.toList)))))) = true := c33; clear c33; have H' := qa_.mk H; clear H; have hnb34 := N142_157.out; have hnc34 := N157_142.out; have hnb35 := N142_167.out; have hnc35 := N167_142.out; have hnb36 := N142_177.out; have hnc36 := N177_142.out; obtain ⟨Z37_0, Z37_1, Z37_2, Z37_3, Z37_4, Z37_5, Z37_6, Z37_7, Z37_8, Z37_9, Z37_10, F37⟩ := bc11 K142.out; have hnb38 := N157_167.out; have hnc38 := N167_157.out; have hnb39 := N157_177.out; have hnc39 := N177_157.out; obtain ⟨Z40_0, Z40_1, Z40_2, Z40_3, Z40_4, Z40_5, Z40_6, Z40_7, Z40_8, Z40_9, Z40_10, F40⟩ := bc11 K157.out; go_wp2_with (first | ((with_reducible refine qb_ (f := 21) rfl ?_); refine gl_ (some 41) func21 #[.agg #[.string t128, .slice Ao13 t129.length co13, .string t132, .string t133, .int .i64 t134, .int .i64 t135, .string t136, .string t137, .int .i64 t138, .int .i64 t139, .string t140], .agg #[.string t143, .slice Ao18 t144.length co18, .string t147, .string t148, .int .i64 t149, .int .i64 t150, .string t151, .string t152, .int .i64 t153, .int .i64 t154, .string t155]] ?_; (with_reducible refine (qcs_.calls k t128 _ _ t129 t132 t133 t134 t135 t136 t137 t138 t139 t140 t143 _ _ t144 t147 t148 t149 t150 t151 t152 t153 t154 t155 true _ ?side1 ?side2 ?side3 ?side4 A30.out).mono ?_); (case side1 => refine (Kd.R_reads' (e := 9) (base := w.heap.size) (ok := fun k_ => (True ∧ some k_ ≠ (.slice Ao18 t144.length co18 : Value).ownBlock)) (n := t129.length) (c := co13) ?_).2.2; exact (by (with_reducible repeat (first | apply Kd.R_alloc | apply Kd.R_drewN | apply Kd.R_drew)); exact (Kd.R_mono (Kd.R_far (p := ⟨g177, 7, none⟩) (Kd.R_far (p := ⟨g177, 6, none⟩) (Kd.R_far (p := ⟨g177, 5, none⟩) (Kd.R_far (p := ⟨g177, 4, none⟩) (Kd.R_far (p := ⟨g177, 3, none⟩) (Kd.R_far (p := ⟨g177, 2, none⟩) (Kd.R_far (p := ⟨g177, 1, none⟩) (Kd.R_far (p := ⟨g177, 0, none⟩) (Kd.R_types HO131.out K177.out (by decide)) (fun _ hk => hk.2) (.string t168)) (fun _ hk => hk.2) (.int .i64 t169)) (fun _ hk => hk.2) (.string t170)) (fun _ hk => hk.2) (.string t171)) (fun _ hk => hk.2) (.string t172)) (fun _ hk => hk.2) (.int .i64 t173)) (fun _ hk => hk.2) (.int .i64 t174)) (fun _ hk => hk.2) (.string t175)) (fun _ h_ => h_.1)))); (case side2 => exact (Kd.R_reads' HO131.out).2.1); (case side3 => refine (Kd.R_reads' (e := 9) (base := w.heap.size) (ok := fun k_ => (True ∧ some k_ ≠ (.slice Ao13 t129.length co13 : Value).ownBlock)) (n := t144.length) (c := co18) ?_).2.2; exact (by (with_reducible repeat (first | apply Kd.R_alloc | apply Kd.R_drewN | apply Kd.R_drew)); exact (Kd.R_mono (Kd.R_far (p := ⟨g177, 7, none⟩) (Kd.R_far (p := ⟨g177, 6, none⟩) (Kd.R_far (p := ⟨g177, 5, none⟩) (Kd.R_far (p := ⟨g177, 4, none⟩) (Kd.R_far (p := ⟨g177, 3, none⟩) (Kd.R_far (p := ⟨g177, 2, none⟩) (Kd.R_far (p := ⟨g177, 1, none⟩) (Kd.R_far (p := ⟨g177, 0, none⟩) (Kd.R_types HO146.out K177.out (by decide)) (fun _ hk => hk.2) (.string t168)) (fun _ hk => hk.2) (.int .i64 t169)) (fun _ hk => hk.2) (.string t170)) (fun _ hk => hk.2) (.string t171)) (fun _ hk => hk.2) (.string t172)) (fun _ hk => hk.2) (.int .i64 t173)) (fun _ hk => hk.2) (.int .i64 t174)) (fun _ hk => hk.2) (.string t175)) (fun _ h_ => h_.1)))); (case side4 => exact (Kd.R_reads' HO146.out).2.1); rintro e w41 ⟨rfl, hb⟩; refine ⟨_, rfl, ?_⟩; replace HO131 := qa_.mk (Kd.R_below (by (with_reducible repeat (first | apply Kd.R_alloc | apply Kd.R_drewN | apply Kd.R_drew)); exact (Kd.R_mono (Kd.R_far (p := ⟨g177, 7, none⟩) (Kd.R_far (p := ⟨g177, 6, none⟩) (Kd.R_far (p := ⟨g177, 5, none⟩) (Kd.R_far (p := ⟨g177, 4, none⟩) (Kd.R_far (p := ⟨g177, 3, none⟩) (Kd.R_far (p := ⟨g177, 2, none⟩) (Kd.R_far (p := ⟨g177, 1, none⟩) (Kd.R_far (p := ⟨g177, 0, none⟩) (Kd.R_types HO131.out K177.out (by decide)) (fun _ hk => hk.2) (.string t168)) (fun _ hk => hk.2) (.int .i64 t169)) (fun _ hk => hk.2) (.string t170)) (fun _ hk => hk.2) (.string t171)) (fun _ hk => hk.2) (.string t172)) (fun _ hk => hk.2) (.int .i64 t173)) (fun _ hk => hk.2) (.int .i64 t174)) (fun _ hk => hk.2) (.string t175)) (fun _ h_ => h_.1))) hb); replace HO146 := qa_.mk (Kd.R_below (by (with_reducible repeat (first | apply Kd.R_alloc | apply Kd.R_drewN | apply Kd.R_drew)); exact (Kd.R_mono (Kd.R_far (p := ⟨g177, 7, none⟩) (Kd.R_far (p := ⟨g177, 6, none⟩) (Kd.R_far (p := ⟨g177, 5, none⟩) (Kd.R_far (p := ⟨g177, 4, none⟩) (Kd.R_far (p := ⟨g177, 3, none⟩) (Kd.R_far (p := ⟨g177, 2, none⟩) (Kd.R_far (p := ⟨g177, 1, none⟩) (Kd.R_far (p := ⟨g177, 0, none⟩) (Kd.R_types HO146.out K177.out (by decide)) (fun _ hk => hk.2) (.string t168)) (fun _ hk => hk.2) (.int .i64 t169)) (fun _ hk => hk.2) (.string t170)) (fun _ hk => hk.2) (.string t171)) (fun _ hk => hk.2) (.string t172)) (fun _ hk => hk.2) (.int .i64 t173)) (fun _ hk => hk.2) (.int .i64 t174)) (fun _ hk => hk.2) (.string t175)) (fun _ h_ => h_.1))) hb); replace K142 := qa_.mk (qab_ (g := g142) (o := .cells #[.string t128, .slice Ao13 t129.length co13, .string t132, .string t133, .int .i64 t134, .int .i64 t135, .string t136, .string t137, .int .i64 t138, .int .i64 t139, .string t140] 26 (0, 0)) (by have b_ := K142; have f_ := N142_177; exact zb_) hb); replace K157 := qa_.mk (qab_ (g := g157) (o := .cells #[.string t143, .slice Ao18 t144.length co18, .string t147, .string t148, .int .i64 t149, .int .i64 t150, .string t151, .string t152, .int .i64 t153, .int .i64 t154, .string t155] 26 (0, 0)) (by have b_ := K157; have f_ := N157_177; exact zb_) hb); replace K167 := qa_.mk (qab_ (g := g167) (o := .cells #[.string t158, .int .i64 t159, .string t160, .string t161, .string t162, .int .i64 t163, .int .i64 t164, .string t165] 37 (0, 0)) (by have b_ := K167; have f_ := N167_177; exact zb_) hb); replace K177 := qa_.mk (qab_ (g := g177) (o := .cells #[.string t168, .int .i64 t169, .string t170, .string t171, .string t172, .int .i64 t173, .int .i64 t174, .string t175] 37 (0, 0)) (by have b_ := K177; exact zb_) hb); replace HB := qa_.mk (qc_ (hs_) hb); (try clear hb); (try clear hb2); (try clear hk); (try clear hi); have hnb42 := N167_177.out; have hnc42 := N177_167.out; obtain ⟨Z43_0, Z43_1, Z43_2, Z43_3, Z43_4, Z43_5, Z43_6, Z43_7, F43⟩ := bc8 K167.out; obtain ⟨Z44_0, Z44_1, Z44_2, Z44_3, Z44_4, Z44_5, Z44_6, Z44_7, F44⟩ := bc8 K177.out))
   go_meet
   case rel => exact ⟨_, (true), z1_, H', ⟨z4_⟩, ⟨z29_⟩, ⟨z30_⟩, ⟨bk_ K142.out⟩, ⟨bk_ K157.out⟩, ⟨bk_ K167.out⟩, ⟨bk_ K177.out⟩, ⟨hs_⟩⟩
  rw [if_neg c33] at H; have c33b0 : (!(t158.toList == t168.toList) || (!(t159 == t169) || (!(t160.toList == t170.toList) || ((!(t161.toList == t171.toList) || (!(t162.toList == t172.toList) || (!(t163 == t173) || (!(t164 == t174))))) || (!(t165.toList == t175.toList)))))) = false := by simpa using c33
  clear c33; have H' := qa_.mk H; clear H; have hnb45 := N142_157.out; have hnc45 := N157_142.out; have hnb46 := N142_167.out; have hnc46 := N167_142.out; have hnb47 := N142_177.out; have hnc47 := N177_142.out; obtain ⟨Z48_0, Z48_1, Z48_2, Z48_3, Z48_4, Z48_5, Z48_6, Z48_7, Z48_8, Z48_9, Z48_10, F48⟩ := bc11 K142.out; have hnb49 := N157_167.out; have hnc49 := N167_157.out; have hnb50 := N157_177.out; have hnc50 := N177_157.out; obtain ⟨Z51_0, Z51_1, Z51_2, Z51_3, Z51_4, Z51_5, Z51_6, Z51_7, Z51_8, Z51_9, Z51_10, F51⟩ := bc11 K157.out; go_wp2_with (first | ((with_reducible refine qb_ (f := 21) rfl ?_); refine gl_ (some 41) func21 #[.agg #[.string t128, .slice Ao13 t129.length co13, .string t132, .string t133, .int .i64 t134, .int .i64 t135, .string t136, .string t137, .int .i64 t138, .int .i64 t139, .string t140], .agg #[.string t143, .slice Ao18 t144.length co18, .string t147, .string t148, .int .i64 t149, .int .i64 t150, .string t151, .string t152, .int .i64 t153, .int .i64 t154, .string t155]] ?_; (with_reducible refine (qcs_.calls k t128 _ _ t129 t132 t133 t134 t135 t136 t137 t138 t139 t140 t143 _ _ t144 t147 t148 t149 t150 t151 t152 t153 t154 t155 true _ ?side1 ?side2 ?side3 ?side4 A30.out).mono ?_); (case side1 => refine (Kd.R_reads' (e := 9) (base := w.heap.size) (ok := fun k_ => (True ∧ some k_ ≠ (.slice Ao18 t144.length co18 : Value).ownBlock)) (n := t129.length) (c := co13) ?_).2.2; exact (by (with_reducible repeat (first | apply Kd.R_alloc | apply Kd.R_drewN | apply Kd.R_drew)); exact (Kd.R_mono (Kd.R_far (p := ⟨g177, 7, none⟩) (Kd.R_far (p := ⟨g177, 6, none⟩) (Kd.R_far (p := ⟨g177, 5, none⟩) (Kd.R_far (p := ⟨g177, 4, none⟩) (Kd.R_far (p := ⟨g177, 3, none⟩) (Kd.R_far (p := ⟨g177, 2, none⟩) (Kd.R_far (p := ⟨g177, 1, none⟩) (Kd.R_far (p := ⟨g177, 0, none⟩) (Kd.R_types HO131.out K177.out (by decide)) (fun _ hk => hk.2) (.string t168)) (fun _ hk => hk.2) (.int .i64 t169)) (fun _ hk => hk.2) (.string t170)) (fun _ hk => hk.2) (.string t171)) (fun _ hk => hk.2) (.string t172)) (fun _ hk => hk.2) (.int .i64 t173)) (fun _ hk => hk.2) (.int .i64 t174)) (fun _ hk => hk.2) (.string t175)) (fun _ h_ => h_.1)))); (case side2 => exact (Kd.R_reads' HO131.out).2.1); (case side3 => refine (Kd.R_reads' (e := 9) (base := w.heap.size) (ok := fun k_ => (True ∧ some k_ ≠ (.slice Ao13 t129.length co13 : Value).ownBlock)) (n := t144.length) (c := co18) ?_).2.2; exact (by (with_reducible repeat (first | apply Kd.R_alloc | apply Kd.R_drewN | apply Kd.R_drew)); exact (Kd.R_mono (Kd.R_far (p := ⟨g177, 7, none⟩) (Kd.R_far (p := ⟨g177, 6, none⟩) (Kd.R_far (p := ⟨g177, 5, none⟩) (Kd.R_far (p := ⟨g177, 4, none⟩) (Kd.R_far (p := ⟨g177, 3, none⟩) (Kd.R_far (p := ⟨g177, 2, none⟩) (Kd.R_far (p := ⟨g177, 1, none⟩) (Kd.R_far (p := ⟨g177, 0, none⟩) (Kd.R_types HO146.out K177.out (by decide)) (fun _ hk => hk.2) (.string t168)) (fun _ hk => hk.2) (.int .i64 t169)) (fun _ hk => hk.2) (.string t170)) (fun _ hk => hk.2) (.string t171)) (fun _ hk => hk.2) (.string t172)) (fun _ hk => hk.2) (.int .i64 t173)) (fun _ hk => hk.2) (.int .i64 t174)) (fun _ hk => hk.2) (.string t175)) (fun _ h_ => h_.1)))); (case side4 => exact (Kd.R_reads' HO146.out).2.1); rintro e w52 ⟨rfl, hb⟩; refine ⟨_, rfl, ?_⟩; replace HO131 := qa_.mk (Kd.R_below (by (with_reducible repeat (first | apply Kd.R_alloc | apply Kd.R_drewN | apply Kd.R_drew)); exact (Kd.R_mono (Kd.R_far (p := ⟨g177, 7, none⟩) (Kd.R_far (p := ⟨g177, 6, none⟩) (Kd.R_far (p := ⟨g177, 5, none⟩) (Kd.R_far (p := ⟨g177, 4, none⟩) (Kd.R_far (p := ⟨g177, 3, none⟩) (Kd.R_far (p := ⟨g177, 2, none⟩) (Kd.R_far (p := ⟨g177, 1, none⟩) (Kd.R_far (p := ⟨g177, 0, none⟩) (Kd.R_types HO131.out K177.out (by decide)) (fun _ hk => hk.2) (.string t168)) (fun _ hk => hk.2) (.int .i64 t169)) (fun _ hk => hk.2) (.string t170)) (fun _ hk => hk.2) (.string t171)) (fun _ hk => hk.2) (.string t172)) (fun _ hk => hk.2) (.int .i64 t173)) (fun _ hk => hk.2) (.int .i64 t174)) (fun _ hk => hk.2) (.string t175)) (fun _ h_ => h_.1))) hb); replace HO146 := qa_.mk (Kd.R_below (by (with_reducible repeat (first | apply Kd.R_alloc | apply Kd.R_drewN | apply Kd.R_drew)); exact (Kd.R_mono (Kd.R_far (p := ⟨g177, 7, none⟩) (Kd.R_far (p := ⟨g177, 6, none⟩) (Kd.R_far (p := ⟨g177, 5, none⟩) (Kd.R_far (p := ⟨g177, 4, none⟩) (Kd.R_far (p := ⟨g177, 3, none⟩) (Kd.R_far (p := ⟨g177, 2, none⟩) (Kd.R_far (p := ⟨g177, 1, none⟩) (Kd.R_far (p := ⟨g177, 0, none⟩) (Kd.R_types HO146.out K177.out (by decide)) (fun _ hk => hk.2) (.string t168)) (fun _ hk => hk.2) (.int .i64 t169)) (fun _ hk => hk.2) (.string t170)) (fun _ hk => hk.2) (.string t171)) (fun _ hk => hk.2) (.string t172)) (fun _ hk => hk.2) (.int .i64 t173)) (fun _ hk => hk.2) (.int .i64 t174)) (fun _ hk => hk.2) (.string t175)) (fun _ h_ => h_.1))) hb); replace K142 := qa_.mk (qab_ (g := g142) (o := .cells #[.string t128, .slice Ao13 t129.length co13, .string t132, .string t133, .int .i64 t134, .int .i64 t135, .string t136, .string t137, .int .i64 t138, .int .i64 t139, .string t140] 26 (0, 0)) (by have b_ := K142; have f_ := N142_177; exact zb_) hb); replace K157 := qa_.mk (qab_ (g := g157) (o := .cells #[.string t143, .slice Ao18 t144.length co18, .string t147, .string t148, .int .i64 t149, .int .i64 t150, .string t151, .string t152, .int .i64 t153, .int .i64 t154, .string t155] 26 (0, 0)) (by have b_ := K157; have f_ := N157_177; exact zb_) hb); replace K167 := qa_.mk (qab_ (g := g167) (o := .cells #[.string t158, .int .i64 t159, .string t160, .string t161, .string t162, .int .i64 t163, .int .i64 t164, .string t165] 37 (0, 0)) (by have b_ := K167; have f_ := N167_177; exact zb_) hb); replace K177 := qa_.mk (qab_ (g := g177) (o := .cells #[.string t168, .int .i64 t169, .string t170, .string t171, .string t172, .int .i64 t173, .int .i64 t174, .string t175] 37 (0, 0)) (by have b_ := K177; exact zb_) hb); replace HB := qa_.mk (qc_ (hs_) hb); (try clear hb); (try clear hb2); (try clear hk); (try clear hi); have hnb53 := N167_177.out; have hnc53 := N177_167.out; obtain ⟨Z54_0, Z54_1, Z54_2, Z54_3, Z54_4, Z54_5, Z54_6, Z54_7, F54⟩ := bc8 K167.out; obtain ⟨Z55_0, Z55_1, Z55_2, Z55_3, Z55_4, Z55_5, Z55_6, Z55_7, F55⟩ := bc8 K177.out))
  go_meet
  case rel => exact ⟨_, ((t166 != t176)), z1_, H', ⟨z4_⟩, ⟨z29_⟩, ⟨z30_⟩, ⟨bk_ K142.out⟩, ⟨bk_ K157.out⟩, ⟨bk_ K167.out⟩, ⟨bk_ K177.out⟩, ⟨hs_⟩⟩
 case rest =>
  clear HC9; try clear c1
  try clear c2
  try clear c2b0
  try clear c2b1
  try clear p2
  try clear c3
  try clear c4
  try clear c5
  try clear c6
  try clear c15
  try clear c16
  try clear c20
  try clear c21
  try clear c22
  try clear c23
  try clear c24
  try clear c26
  try clear c27
  try clear c28
  try clear c31
  try clear c32
  try clear c32b0
  try clear c32b1
  try clear c33
  try clear c33b0
  try clear c34
  try clear c35
  try clear c36
  try clear c38
  try clear c39
  try clear c42
  try clear c45
  try clear c46
  try clear c47
  try clear c49
  try clear c50
  try clear c53
  try clear c56
  try clear c57
  try clear c58
  try clear c60
  try clear c61
  try clear c64
  try clear c65
  try clear c66
  try clear c68
  try clear c69
  try clear Z12_0 Z12_1 Z12_10 Z12_2 Z12_3 Z12_4 Z12_5 Z12_6 Z12_7 Z12_8 Z12_9
  try clear Z17_0 Z17_1 Z17_10 Z17_2 Z17_3 Z17_4 Z17_5 Z17_6 Z17_7 Z17_8 Z17_9
  try clear Z23_0 Z23_1 Z23_2 Z23_3 Z23_4 Z23_5 Z23_6 Z23_7
  try clear Z29_0 Z29_1 Z29_2 Z29_3 Z29_4 Z29_5 Z29_6 Z29_7
  try clear Z37_0 Z37_1 Z37_10 Z37_2 Z37_3 Z37_4 Z37_5 Z37_6 Z37_7 Z37_8 Z37_9
  try clear Z40_0 Z40_1 Z40_10 Z40_2 Z40_3 Z40_4 Z40_5 Z40_6 Z40_7 Z40_8 Z40_9
  try clear Z43_0 Z43_1 Z43_2 Z43_3 Z43_4 Z43_5 Z43_6 Z43_7
  try clear Z44_0 Z44_1 Z44_2 Z44_3 Z44_4 Z44_5 Z44_6 Z44_7
  try clear Z48_0 Z48_1 Z48_10 Z48_2 Z48_3 Z48_4 Z48_5 Z48_6 Z48_7 Z48_8 Z48_9
  try clear Z51_0 Z51_1 Z51_10 Z51_2 Z51_3 Z51_4 Z51_5 Z51_6 Z51_7 Z51_8 Z51_9
  try clear Z54_0 Z54_1 Z54_2 Z54_3 Z54_4 Z54_5 Z54_6 Z54_7
  try clear Z55_0 Z55_1 Z55_2 Z55_3 Z55_4 Z55_5 Z55_6 Z55_7
  try clear Z59_0 Z59_1 Z59_10 Z59_2 Z59_3 Z59_4 Z59_5 Z59_6 Z59_7 Z59_8 Z59_9
  try clear Z62_0 Z62_1 Z62_10 Z62_2 Z62_3 Z62_4 Z62_5 Z62_6 Z62_7 Z62_8 Z62_9
  try clear Z67_0 Z67_1 Z67_10 Z67_2 Z67_3 Z67_4 Z67_5 Z67_6 Z67_7 Z67_8 Z67_9
  try clear Z70_0 Z70_1 Z70_10 Z70_2 Z70_3 Z70_4 Z70_5 Z70_6 Z70_7 Z70_8 Z70_9
  try clear F12
  try clear F17
  try clear F23
  try clear F29
  try clear F37
  try clear F40
  try clear F43
  try clear F44
  try clear F48
  try clear F51
  try clear F54
  try clear F55
  try clear F59
  try clear F62
  try clear F67
  try clear F70
  obtain ⟨kq, x57_8, rfl, HA, HJ8, HO_143001, HO_158001, K142, K157, K167, K177, HB⟩ := hcut
  cases kq with
  | zero => exact absurd HA.out (by simp [qae_.j0])
  | succ kj8 =>
   have H := HA.out; clear HA; simp only [qae_.j0] at H; by_cases c72 : x57_8 = true
   ·subst c72; rw [if_pos rfl] at H; obtain rfl := oi_ H; go_wp2
    go_ret
    exact ⟨z3_, hs_⟩
   replace c72 := Bool.eq_false_iff.mpr c72; subst c72; rw [if_neg nft_] at H; have HC73 := qa_.mk H; clear H; go_upto_if 59 with (fail)
   go_cut [] (fun wc => ∃ (kq : Nat), qa_ (qae_.j1 kq a0 t166 t158 t159 t160 t161 t162 t163 t164 t165 = some r) ∧ qa_ (kq ≤ kj8) ∧ qa_ (Kd.R Kd.string 9 wc w.heap.size (fun k_ => some k_ ≠ ((.slice Ao18 t144.length co18) : Value).ownBlock) (.slice Ao13 t129.length co13) t129) ∧ qa_ (Kd.R Kd.string 9 wc w.heap.size (fun k_ => some k_ ≠ ((.slice Ao13 t129.length co13) : Value).ownBlock) (.slice Ao18 t144.length co18) t144) ∧ qa_ (wc.heap[g142]? = some (.cells #[.string t128, (.slice Ao13 t129.length co13), .string t132, .string t133, .int .i64 t134, .int .i64 t135, .string t136, .string t137, .int .i64 t138, .int .i64 t139, .string t140] 26 (0, 0))) ∧ qa_ (wc.heap[g157]? = some (.cells #[.string t143, (.slice Ao18 t144.length co18), .string t147, .string t148, .int .i64 t149, .int .i64 t150, .string t151, .string t152, .int .i64 t153, .int .i64 t154, .string t155] 26 (0, 0))) ∧ qa_ (wc.heap[g167]? = some (.cells #[.string t158, .int .i64 t159, .string t160, .string t161, .string t162, .int .i64 t163, .int .i64 t164, .string t165] 37 (0, 0))) ∧ qa_ (wc.heap[g177]? = some (.cells #[.string t168, .int .i64 t169, .string t170, .string t171, .string t172, .int .i64 t173, .int .i64 t174, .string t175] 37 (0, 0))) ∧ qa_ (Below w.heap.size w wc))
   case first =>
    have H := HC73.out; clear HC73; by_cases c74 : t141 = 0; rotate_left
    ·rw [if_neg c74] at H; have c74b0 := ef_ c74; have c74b1 := nt_ c74; (first | rw [c74b0] | (simp only [i64_w, i32_w]; rw [c74b0]) | skip); (try rw [c74b8])
     have H' := qa_.mk H; clear H; go_wp2
     go_meet
     case rel => exact ⟨_, H', ⟨by have := HJ8.out; first | omega | exact Nat.le_refl _⟩, ⟨by (with_reducible repeat (first | apply Kd.R_alloc | apply Kd.R_drewN | apply Kd.R_drew)); exact HO_143001.out⟩, ⟨by (with_reducible repeat (first | apply Kd.R_alloc | apply Kd.R_drewN | apply Kd.R_drew)); exact HO_158001.out⟩, ⟨bk_ K142.out⟩, ⟨bk_ K157.out⟩, ⟨bk_ K167.out⟩, ⟨bk_ K177.out⟩, ⟨hs_⟩⟩
    rw [if_pos c74] at H; have c74b0 := et_ c74; have c74b1 := nf_ c74; clear c74; (first | rw [c74b0] | (simp only [i64_w, i32_w]; rw [c74b0]) | skip); (try rw [c74b8])
    obtain ⟨⟨t179, t180⟩, A75, H⟩ := bx_ H; dsimp only at H; by_cases c76 : t179.toList = a0.toList; rotate_left
    ·rw [if_neg c76] at H; have c76b0 := ef_ c76; have c76b1 := nt_ c76; obtain rfl := oi_ H; have hnb88 := N142_157.out; have hnc88 := N157_142.out; have hnb89 := N142_167.out; have hnc89 := N167_142.out; have hnb90 := N142_177.out; have hnc90 := N177_142.out; obtain ⟨Z91_0, Z91_1, Z91_2, Z91_3, Z91_4, Z91_5, Z91_6, Z91_7, Z91_8, Z91_9, Z91_10, F91⟩ := bc11 K142.out; go_wp2_with (first | ((with_reducible refine qb_ (f := 16) rfl ?_); refine gl_ (some 62) func16 #[.agg #[.string t128, .slice Ao13 t129.length co13, .string t132, .string t133, .int .i64 t134, .int .i64 t135, .string t136, .string t137, .int .i64 t138, .int .i64 t139, .string t140]] ?_; (with_reducible refine (qaw_.calls kj8 t128 _ _ t129 t132 t133 t134 t135 t136 t137 t138 t139 t140 t179 t180 _ ?side1 ?side2 ?side3 A75.out).mono ?_); (case side1 => repeat (first | exact (Kd.R_reads' HO_143001.out).2.2 | (with_reducible refine Kd.C_alloc ?_ _) | (with_reducible refine Kd.C_drewN ?_ _) | (with_reducible refine Kd.C_drew ?_))); (case side2 => exact (Kd.R_reads' HO_143001.out).2.1); (case side3 => exact GV.below hgv (hs_)); rintro e w92 ⟨rfl, hb⟩; refine ⟨_, rfl, ?_⟩; replace HO_143001 := qa_.mk (Kd.R_below (rk_ HO_143001.out) hb); replace HO_158001 := qa_.mk (Kd.R_below (rk_ HO_158001.out) hb); replace K142 := ab_ K142 hb; replace K157 := ab_ K157 hb; replace K167 := ab_ K167 hb; replace K177 := ab_ K177 hb; replace HB := qa_.mk (qc_ (hs_) hb); (try clear hb); (try clear hb2); (try clear hk); (try clear hi)))
     go_ret
     exact ⟨z3_, hs_⟩
    rw [if_pos c76] at H; have c76b0 := et_ c76; have c76b1 := nf_ c76; clear c76; by_cases c77 : t180 = 0; rotate_left
    ·rw [if_neg c77] at H; have c77b0 := ef_ c77; have c77b1 := nt_ c77; obtain rfl := oi_ H; have hnb83 := N142_157.out; have hnc83 := N157_142.out; have hnb84 := N142_167.out; have hnc84 := N167_142.out; have hnb85 := N142_177.out; have hnc85 := N177_142.out; obtain ⟨Z86_0, Z86_1, Z86_2, Z86_3, Z86_4, Z86_5, Z86_6, Z86_7, Z86_8, Z86_9, Z86_10, F86⟩ := bc11 K142.out; go_wp2_with (first | ((with_reducible refine qb_ (f := 16) rfl ?_); refine gl_ (some 62) func16 #[.agg #[.string t128, .slice Ao13 t129.length co13, .string t132, .string t133, .int .i64 t134, .int .i64 t135, .string t136, .string t137, .int .i64 t138, .int .i64 t139, .string t140]] ?_; (with_reducible refine (qaw_.calls kj8 t128 _ _ t129 t132 t133 t134 t135 t136 t137 t138 t139 t140 t179 t180 _ ?side1 ?side2 ?side3 A75.out).mono ?_); (case side1 => repeat (first | exact (Kd.R_reads' HO_143001.out).2.2 | (with_reducible refine Kd.C_alloc ?_ _) | (with_reducible refine Kd.C_drewN ?_ _) | (with_reducible refine Kd.C_drew ?_))); (case side2 => exact (Kd.R_reads' HO_143001.out).2.1); (case side3 => exact GV.below hgv (hs_)); rintro e w87 ⟨rfl, hb⟩; refine ⟨_, rfl, ?_⟩; replace HO_143001 := qa_.mk (Kd.R_below (rk_ HO_143001.out) hb); replace HO_158001 := qa_.mk (Kd.R_below (rk_ HO_158001.out) hb); replace K142 := ab_ K142 hb; replace K157 := ab_ K157 hb; replace K167 := ab_ K167 hb; replace K177 := ab_ K177 hb; replace HB := qa_.mk (qc_ (hs_) hb); (try clear hb); (try clear hb2); (try clear hk); (try clear hi)))
     go_ret
     exact ⟨z3_, hs_⟩
    rw [if_pos c77] at H; have c77b0 := et_ c77; have c77b1 := nf_ c77; clear c77; have H' := qa_.mk H; clear H; have hnb78 := N142_157.out; have hnc78 := N157_142.out; have hnb79 := N142_167.out; have hnc79 := N167_142.out; have hnb80 := N142_177.out; have hnc80 := N177_142.out; obtain ⟨Z81_0, Z81_1, Z81_2, Z81_3, Z81_4, Z81_5, Z81_6, Z81_7, Z81_8, Z81_9, Z81_10, F81⟩ := bc11 K142.out; go_wp2_with (first | ((with_reducible refine qb_ (f := 16) rfl ?_); refine gl_ (some 62) func16 #[.agg #[.string t128, .slice Ao13 t129.length co13, .string t132, .string t133, .int .i64 t134, .int .i64 t135, .string t136, .string t137, .int .i64 t138, .int .i64 t139, .string t140]] ?_; (with_reducible refine (qaw_.calls kj8 t128 _ _ t129 t132 t133 t134 t135 t136 t137 t138 t139 t140 t179 t180 _ ?side1 ?side2 ?side3 A75.out).mono ?_); (case side1 => repeat (first | exact (Kd.R_reads' HO_143001.out).2.2 | (with_reducible refine Kd.C_alloc ?_ _) | (with_reducible refine Kd.C_drewN ?_ _) | (with_reducible refine Kd.C_drew ?_))); (case side2 => exact (Kd.R_reads' HO_143001.out).2.1); (case side3 => exact GV.below hgv (hs_)); rintro e w82 ⟨rfl, hb⟩; refine ⟨_, rfl, ?_⟩; replace HO_143001 := qa_.mk (Kd.R_below (rk_ HO_143001.out) hb); replace HO_158001 := qa_.mk (Kd.R_below (rk_ HO_158001.out) hb); replace K142 := ab_ K142 hb; replace K157 := ab_ K157 hb; replace K167 := ab_ K167 hb; replace K177 := ab_ K177 hb; replace HB := qa_.mk (qc_ (hs_) hb); (try clear hb); (try clear hb2); (try clear hk); (try clear hi)))
    go_meet
    case rel => exact ⟨_, H', ⟨by have := HJ8.out; first | omega | exact Nat.le_refl _⟩, ⟨by (with_reducible repeat (first | apply Kd.R_alloc | apply Kd.R_drewN | apply Kd.R_drew)); exact HO_143001.out⟩, ⟨by (with_reducible repeat (first | apply Kd.R_alloc | apply Kd.R_drewN | apply Kd.R_drew)); exact HO_158001.out⟩, ⟨bk_ K142.out⟩, ⟨bk_ K157.out⟩, ⟨bk_ K167.out⟩, ⟨bk_ K177.out⟩, ⟨hs_⟩⟩
   case rest =>
    clear HC73; try clear c1
    try clear c2
    try clear c2b0
    try clear c2b1
    try clear p2
    try clear c3
    try clear c4
    try clear c5
    try clear c6
    try clear c7
    try clear c8
    try clear c9
    try clear c15
    try clear c16
    try clear c20
    try clear c21
    try clear c22
    try clear c23
    try clear c24
    try clear c26
    try clear c27
    try clear c28
    try clear c31
    try clear c32
    try clear c32b0
    try clear c32b1
    try clear c33
    try clear c33b0
    try clear c34
    try clear c35
    try clear c36
    try clear c38
    try clear c39
    try clear c42
    try clear c45
    try clear c46
    try clear c47
    try clear c49
    try clear c50
    try clear c53
    try clear c56
    try clear c57
    try clear c58
    try clear c60
    try clear c61
    try clear c64
    try clear c65
    try clear c66
    try clear c68
    try clear c69
    try clear c72
    try clear c74
    try clear c74b0
    try clear c74b1
    try clear c76
    try clear c76b0
    try clear c76b1
    try clear c77
    try clear c77b0
    try clear c77b1
    try clear c78
    try clear c79
    try clear c80
    try clear c83
    try clear c84
    try clear c85
    try clear c88
    try clear c89
    try clear c90
    try clear Z12_0 Z12_1 Z12_10 Z12_2 Z12_3 Z12_4 Z12_5 Z12_6 Z12_7 Z12_8 Z12_9
    try clear Z17_0 Z17_1 Z17_10 Z17_2 Z17_3 Z17_4 Z17_5 Z17_6 Z17_7 Z17_8 Z17_9
    try clear Z23_0 Z23_1 Z23_2 Z23_3 Z23_4 Z23_5 Z23_6 Z23_7
    try clear Z29_0 Z29_1 Z29_2 Z29_3 Z29_4 Z29_5 Z29_6 Z29_7
    try clear Z37_0 Z37_1 Z37_10 Z37_2 Z37_3 Z37_4 Z37_5 Z37_6 Z37_7 Z37_8 Z37_9
    try clear Z40_0 Z40_1 Z40_10 Z40_2 Z40_3 Z40_4 Z40_5 Z40_6 Z40_7 Z40_8 Z40_9
    try clear Z43_0 Z43_1 Z43_2 Z43_3 Z43_4 Z43_5 Z43_6 Z43_7
    try clear Z44_0 Z44_1 Z44_2 Z44_3 Z44_4 Z44_5 Z44_6 Z44_7
    try clear Z48_0 Z48_1 Z48_10 Z48_2 Z48_3 Z48_4 Z48_5 Z48_6 Z48_7 Z48_8 Z48_9
    try clear Z51_0 Z51_1 Z51_10 Z51_2 Z51_3 Z51_4 Z51_5 Z51_6 Z51_7 Z51_8 Z51_9
    try clear Z54_0 Z54_1 Z54_2 Z54_3 Z54_4 Z54_5 Z54_6 Z54_7
    try clear Z55_0 Z55_1 Z55_2 Z55_3 Z55_4 Z55_5 Z55_6 Z55_7
    try clear Z59_0 Z59_1 Z59_10 Z59_2 Z59_3 Z59_4 Z59_5 Z59_6 Z59_7 Z59_8 Z59_9
    try clear Z62_0 Z62_1 Z62_10 Z62_2 Z62_3 Z62_4 Z62_5 Z62_6 Z62_7 Z62_8 Z62_9
    try clear Z67_0 Z67_1 Z67_10 Z67_2 Z67_3 Z67_4 Z67_5 Z67_6 Z67_7 Z67_8 Z67_9
    try clear Z70_0 Z70_1 Z70_10 Z70_2 Z70_3 Z70_4 Z70_5 Z70_6 Z70_7 Z70_8 Z70_9
    try clear Z81_0 Z81_1 Z81_10 Z81_2 Z81_3 Z81_4 Z81_5 Z81_6 Z81_7 Z81_8 Z81_9
    try clear Z86_0 Z86_1 Z86_10 Z86_2 Z86_3 Z86_4 Z86_5 Z86_6 Z86_7 Z86_8 Z86_9
    try clear Z91_0 Z91_1 Z91_10 Z91_2 Z91_3 Z91_4 Z91_5 Z91_6 Z91_7 Z91_8 Z91_9
    try clear F12
    try clear F17
    try clear F23
    try clear F29
    try clear F37
    try clear F40
    try clear F43
    try clear F44
    try clear F48
    try clear F51
    try clear F54
    try clear F55
    try clear F59
    try clear F62
    try clear F67
    try clear F70
    try clear F81
    try clear F86
    try clear F91
    try clear p2
    obtain ⟨kq, HA, HJ72, HO_143001, HO_158001, K142, K157, K167, K177, HB⟩ := hcut
    cases kq with
    | zero => exact absurd HA.out (by simp [qae_.j1])
    | succ kj72 =>
     have H := HA.out; clear HA; simp only [qae_.j1] at H; by_cases c93 : t166 = 0; rotate_left
     ·rw [if_neg c93] at H; have c93b0 := ef_ c93; have c93b1 := nt_ c93; obtain ⟨t184, A114, H⟩ := bx_ H; obtain rfl := oi_ H; go_wp2_with (first | ((with_reducible refine qb_ (f := 15) rfl ?_); refine gl_ (some 86) func15 #[] ?_; (with_reducible refine (qbd_.calls kj72  t184 _ ?side1 A114.out).mono ?_); (case side1 => exact GV.below hgv (hs_)); rintro e w115 ⟨rfl, hb⟩; refine ⟨_, rfl, ?_⟩; replace HO_143001 := qa_.mk (Kd.R_below (rk_ HO_143001.out) hb); replace HO_158001 := qa_.mk (Kd.R_below (rk_ HO_158001.out) hb); replace K142 := ab_ K142 hb; replace K157 := ab_ K157 hb; replace K167 := ab_ K167 hb; replace K177 := ab_ K177 hb; replace HB := qa_.mk (qc_ (hs_) hb); (try clear hb); (try clear hb2); (try clear hk); (try clear hi)))
      go_ret
      exact ⟨z3_, hs_⟩
     rw [if_pos c93] at H; have c93b0 := et_ c93; have c93b1 := nf_ c93; clear c93; obtain ⟨⟨t181, t182⟩, A94, H⟩ := bx_ H; dsimp only at H; by_cases c95 : t181.toList = a0.toList; rotate_left
     ·rw [if_neg c95] at H; have c95b0 := ef_ c95; have c95b1 := nt_ c95; obtain rfl := oi_ H; have hnb109 := N167_142.out; have hnc109 := N142_167.out; have hnb110 := N167_157.out; have hnc110 := N157_167.out; have hnb111 := N167_177.out; have hnc111 := N177_167.out; obtain ⟨Z112_0, Z112_1, Z112_2, Z112_3, Z112_4, Z112_5, Z112_6, Z112_7, F112⟩ := bc8 K167.out; go_wp2_with (first | ((with_reducible refine qb_ (f := 25) rfl ?_); refine gl_ (some 76) func25 #[.agg #[.string t158, .int .i64 t159, .string t160, .string t161, .string t162, .int .i64 t163, .int .i64 t164, .string t165]] ?_; (with_reducible refine (qbo_.calls kj72 t158 t159 t160 t161 t162 t163 t164 t165 t181 t182 _ ?side1 A94.out).mono ?_); (case side1 => exact GV.below hgv (hs_)); rintro e w113 ⟨rfl, hb⟩; refine ⟨_, rfl, ?_⟩; replace HO_143001 := qa_.mk (Kd.R_below (rk_ HO_143001.out) hb); replace HO_158001 := qa_.mk (Kd.R_below (rk_ HO_158001.out) hb); replace K142 := ab_ K142 hb; replace K157 := ab_ K157 hb; replace K167 := ab_ K167 hb; replace K177 := ab_ K177 hb; replace HB := qa_.mk (qc_ (hs_) hb); (try clear hb); (try clear hb2); (try clear hk); (try clear hi)))
      go_ret
      exact ⟨z3_, hs_⟩
     rw [if_pos c95] at H; have c95b0 := et_ c95; have c95b1 := nf_ c95; clear c95; by_cases c96 : t182 = 0; rotate_left
     ·rw [if_neg c96] at H; have c96b0 := ef_ c96; have c96b1 := nt_ c96; obtain rfl := oi_ H; have hnb104 := N167_142.out; have hnc104 := N142_167.out; have hnb105 := N167_157.out; have hnc105 := N157_167.out; have hnb106 := N167_177.out; have hnc106 := N177_167.out; obtain ⟨Z107_0, Z107_1, Z107_2, Z107_3, Z107_4, Z107_5, Z107_6, Z107_7, F107⟩ := bc8 K167.out; go_wp2_with (first | ((with_reducible refine qb_ (f := 25) rfl ?_); refine gl_ (some 76) func25 #[.agg #[.string t158, .int .i64 t159, .string t160, .string t161, .string t162, .int .i64 t163, .int .i64 t164, .string t165]] ?_; (with_reducible refine (qbo_.calls kj72 t158 t159 t160 t161 t162 t163 t164 t165 t181 t182 _ ?side1 A94.out).mono ?_); (case side1 => exact GV.below hgv (hs_)); rintro e w108 ⟨rfl, hb⟩; refine ⟨_, rfl, ?_⟩; replace HO_143001 := qa_.mk (Kd.R_below (rk_ HO_143001.out) hb); replace HO_158001 := qa_.mk (Kd.R_below (rk_ HO_158001.out) hb); replace K142 := ab_ K142 hb; replace K157 := ab_ K157 hb; replace K167 := ab_ K167 hb; replace K177 := ab_ K177 hb; replace HB := qa_.mk (qc_ (hs_) hb); (try clear hb); (try clear hb2); (try clear hk); (try clear hi)))
      go_ret
      exact ⟨z3_, hs_⟩
     rw [if_pos c96] at H; have c96b0 := et_ c96; have c96b1 := nf_ c96; clear c96; obtain ⟨t183, A97, H⟩ := bx_ H; obtain rfl := oi_ H; have hnb98 := N167_142.out; have hnc98 := N142_167.out; have hnb99 := N167_157.out; have hnc99 := N157_167.out; have hnb100 := N167_177.out; have hnc100 := N177_167.out; obtain ⟨Z101_0, Z101_1, Z101_2, Z101_3, Z101_4, Z101_5, Z101_6, Z101_7, F101⟩ := bc8 K167.out; go_wp2_with (first | ((with_reducible refine qb_ (f := 25) rfl ?_); refine gl_ (some 76) func25 #[.agg #[.string t158, .int .i64 t159, .string t160, .string t161, .string t162, .int .i64 t163, .int .i64 t164, .string t165]] ?_; (with_reducible refine (qbo_.calls kj72 t158 t159 t160 t161 t162 t163 t164 t165 t181 t182 _ ?side1 A94.out).mono ?_); (case side1 => exact GV.below hgv (hs_)); rintro e w102 ⟨rfl, hb⟩; refine ⟨_, rfl, ?_⟩; replace HO_143001 := qa_.mk (Kd.R_below (rk_ HO_143001.out) hb); replace HO_158001 := qa_.mk (Kd.R_below (rk_ HO_158001.out) hb); replace K142 := ab_ K142 hb; replace K157 := ab_ K157 hb; replace K167 := ab_ K167 hb; replace K177 := ab_ K177 hb; replace HB := qa_.mk (qc_ (hs_) hb); (try clear hb); (try clear hb2); (try clear hk); (try clear hi)) | ((with_reducible refine qb_ (f := 15) rfl ?_); refine gl_ (some 86) func15 #[] ?_; (with_reducible refine (qbd_.calls kj72  t183 _ ?side1 A97.out).mono ?_); (case side1 => exact GV.below hgv (hs_)); rintro e w103 ⟨rfl, hb⟩; refine ⟨_, rfl, ?_⟩; replace HO_143001 := qa_.mk (Kd.R_below (rk_ HO_143001.out) hb); replace HO_158001 := qa_.mk (Kd.R_below (rk_ HO_158001.out) hb); replace K142 := ab_ K142 hb; replace K157 := ab_ K157 hb; replace K167 := ab_ K167 hb; replace K177 := ab_ K177 hb; replace HB := qa_.mk (qc_ (hs_) hb); (try clear hb); (try clear hb2); (try clear hk); (try clear hi)))
     go_ret
     exact ⟨z3_, hs_⟩
def mk (l : List UInt8) : ByteArray := ⟨l.toArray⟩
theorem qbe_ (l : List UInt8) : (mk l).data.toList = l := by simp [mk]
theorem mk_of (s : ByteArray) : mk s.data.toList = s := qei_ (qbe_ _)
theorem qge_ (l : List UInt8) : (mk l).toList = l := by rw [ByteArray.toList_eq, qbe_]
theorem qbk_ (l : List UInt8) : (mk l).size = l.length := by rw [Lib.size_eq, qbe_]
theorem mk_app (a b : List UInt8) : mk a ++ mk b = mk (a ++ b) := qei_ (by rw [qdr_, qbe_, qbe_, qbe_])
theorem qbr_ (s : ByteArray) : s.data.toList.length = s.size := (Lib.size_eq s).symm
theorem index_nonneg_iff (l s : List UInt8) : 0 ≤ Lib.index l s ∨ Lib.index l s = -1 := by
 have := Lib.index_ge l s; omega
theorem qfa_ {b : UInt8} {l s : List UInt8} (h : s.isPrefixOf (b :: l) = true) : Lib.index (b :: l) s = 0 := by rw [Lib.index, if_pos h]
theorem qdv_ {b : UInt8} {l s : List UInt8} (h : s.isPrefixOf (b :: l) = false) : Lib.index (b :: l) s = if Lib.index l s == -1 then -1 else Lib.index l s + 1 := by rw [Lib.index, if_neg (by simp [h])]
theorem qgp_ (s : List UInt8) (hs : s ≠ []) : ∀ l : List UInt8, 0 ≤ Lib.index l s → ∃ a b, l = a ++ s ++ b ∧ Lib.index l s = a.length
 | [], h => by
  rw [Lib.index, if_neg (by simp [hs])] at h; omega
 | c :: l, h => by
  by_cases hp : s.isPrefixOf (c :: l) = true
  ·obtain ⟨t, ht⟩ := List.isPrefixOf_iff_prefix.1 hp
   exact ⟨[], t, by simp [ht], by rw [qfa_ hp]; rfl⟩
  ·rw [Bool.not_eq_true] at hp
   rw [qdv_ hp] at h ⊢
   by_cases h1 : Lib.index l s = -1
   ·rw [h1] at h; simp at h
   ·obtain ⟨a, b, e, he⟩ := qgp_ s hs l (by have := Lib.index_ge l s; omega)
    refine ⟨c :: a, b, by rw [e]; simp, ?_⟩
    rw [if_neg (by simpa using h1), he, List.length_cons]; omega
theorem index_one (x : UInt8) : ∀ (a b : List UInt8), x ∉ a → Lib.index (a ++ x :: b) [x] = a.length
 | [], b, _ => qfa_ (by simp [List.isPrefixOf])
 | c :: a, b, h => by
  have ih := index_one x a b (fun e => h (by simp [e]))
  have hp : [x].isPrefixOf (c :: (a ++ x :: b)) = false := by
   simp [List.isPrefixOf]; intro e; subst e; simp at h
  rw [List.cons_append, qdv_ hp, ih, if_neg (by simp only [beq_iff_eq]; omega), List.length_cons]
  omega
theorem cut_of {l s : List UInt8} (h : 0 ≤ Lib.index l s) : Lib.cut l s = (l.take (Lib.index l s).toNat, l.drop ((Lib.index l s).toNat + s.length), true) := by unfold Lib.cut; rw [if_pos h]
theorem cut_no {l s : List UInt8} (h : ¬ 0 ≤ Lib.index l s) : Lib.cut l s = (l, [], false) := by unfold Lib.cut; rw [if_neg h]
theorem cut_one (x : UInt8) (a b : List UInt8) (h : x ∉ a) : Lib.cut (a ++ x :: b) [x] = (a, b, true) := by
 have := index_one x a b h
 rw [cut_of (by omega), this]
 simp [List.take_append, List.drop_append]
theorem qdy_ {l s a b : List UInt8} (hs : s ≠ []) (h : Lib.cut l s = (a, b, true)) : l = a ++ s ++ b ∧ Lib.index l s = a.length := by
 by_cases h0 : 0 ≤ Lib.index l s
 ·rw [cut_of h0] at h
  obtain ⟨h1, h2⟩ := Prod.mk.inj h
  obtain ⟨h2, _⟩ := Prod.mk.inj h2
  obtain ⟨p, q, e, he⟩ := qgp_ s hs l h0
  rw [he] at h1 h2
  have e1 : p = a := by rw [← h1, e]; simp [List.take_append]
  have e2 : q = b := by rw [← h2, e]; simp [List.drop_append]
  subst e1 e2
  exact ⟨e, he⟩
 ·rw [cut_no h0] at h; simp at h
theorem qgi_ {l s a b : List UInt8} (h : Lib.cut l s = (a, b, false)) : a = l ∧ b = [] ∧ Lib.index l s = -1 := by
 by_cases h0 : 0 ≤ Lib.index l s
 ·rw [cut_of h0] at h; simp at h
 ·rw [cut_no h0] at h
  have := Lib.index_ge l s
  simp at h
  exact ⟨h.1.symm, h.2, by omega⟩
def isDig (c : UInt8) : Bool := decide (48 ≤ c.toNat) && decide (c.toNat ≤ 57)
def valN (acc : Nat) (l : List UInt8) : Nat := l.foldl (fun a c => 10 * a + (c.toNat - 48)) acc
theorem qgb_ (acc : Nat) : valN acc [] = acc := by unfold valN; rw [List.foldl_nil]
theorem qew_ (acc : Nat) (c : UInt8) (l : List UInt8) : valN acc (c :: l) = valN (10 * acc + (c.toNat - 48)) l := by unfold valN; rw [List.foldl_cons]
theorem digitVal_dig {c : UInt8} (h : isDig c = true) : Lib.digitVal c = some (c.toNat - 48) := by
 unfold isDig at h
 simp only [Bool.and_eq_true, decide_eq_true_eq] at h
 unfold Lib.digitVal
 rw [if_pos h]
theorem decFrom_val (l : List UInt8) : ∀ (acc : Nat), l.all isDig = true → Lib.decFrom acc l = some (valN acc l) := by
 induction l with
 | nil => intro acc _; rfl
 | cons c l ih =>
  intro acc h
  rw [List.all_cons, Bool.and_eq_true] at h
  rw [Lib.decFrom, digitVal_dig h.1]
  show Lib.decFrom (acc * 10 + (c.toNat - 48)) l = _
  rw [ih _ h.2, qew_, Nat.mul_comm]
theorem atoi_val {l : List UInt8} (hn : l ≠ []) (h : l.all isDig = true) : Lib.atoi l = some ((valN 0 l : Nat) : Int) := by
 cases l with
 | nil => exact absurd rfl hn
 | cons c r =>
  have hc : isDig c = true := by rw [List.all_cons, Bool.and_eq_true] at h; exact h.1
  unfold isDig at hc
  simp only [Bool.and_eq_true, decide_eq_true_eq] at hc
  have h1 : (c == 45) = false := by rw [beq_eq_false_iff_ne]; rintro rfl; simp at hc
  have h2 : (c == 43) = false := by rw [beq_eq_false_iff_ne]; rintro rfl; simp at hc
  rw [Lib.atoi, h1, h2]
  simp only [Bool.false_eq_true, if_false]
  unfold Lib.decNat
  rw [List.isEmpty_cons]
  simp only [Bool.false_eq_true, if_false]
  rw [decFrom_val _ _ h]; rfl
theorem valN_lt : ∀ (l : List UInt8) (acc n : Nat), l.all isDig = true → acc < 10 ^ n → valN acc l < 10 ^ (n + l.length)
 | [], acc, n, _, h => by simpa [qgb_] using h
 | c :: l, acc, n, h, ha => by
  rw [List.all_cons, Bool.and_eq_true] at h
  have hc := h.1
  unfold isDig at hc
  simp only [Bool.and_eq_true, decide_eq_true_eq] at hc
  have := valN_lt l (10 * acc + (c.toNat - 48)) (n + 1) h.2 (by rw [Nat.pow_succ]; omega)
  rw [qew_, List.length_cons, show n + (l.length + 1) = n + 1 + l.length by omega]
  exact this
theorem dig_ofNat {c : UInt8} (h : isDig c = true) : UInt8.ofNat (48 + (c.toNat - 48)) = c := by
 unfold isDig at h
 simp only [Bool.and_eq_true, decide_eq_true_eq] at h
 apply UInt8.toNat_inj.1
 rw [UInt8.toNat_ofNat']
 have := c.toNat_lt
 omega
theorem dec_snoc (u : Nat) (h : 1 ≤ u) (c : UInt8) (hc : isDig c = true) : Lib.decDigits (10 * u + (c.toNat - 48)) = Lib.decDigits u ++ [c] := by
 have hc' := hc
 unfold isDig at hc'
 simp only [Bool.and_eq_true, decide_eq_true_eq] at hc'
 rw [Lib.decDigits, dif_neg (by omega)]
 rw [show (10 * u + (c.toNat - 48)) / 10 = u by omega, show (10 * u + (c.toNat - 48)) % 10 = c.toNat - 48 by omega, dig_ofNat hc]
theorem dec_of (l : List UInt8) : ∀ (acc : Nat), 1 ≤ acc → l.all isDig = true → Lib.decDigits (valN acc l) = Lib.decDigits acc ++ l := by
 induction l with
 | nil => intro acc _ _; simp [qgb_]
 | cons c l ih =>
  intro acc h1 h
  rw [List.all_cons, Bool.and_eq_true] at h
  rw [qew_, ih _ (by omega) h.2, dec_snoc acc h1 c h.1, List.append_assoc]; rfl
theorem dec_canon {l : List UInt8} (hn : l ≠ []) (h : l.all isDig = true) (hz : 1 < l.length → l.head? ≠ some 48) : Lib.decDigits (valN 0 l) = l := by
 cases l with
 | nil => exact absurd rfl hn
 | cons c r =>
  rw [List.all_cons, Bool.and_eq_true] at h
  have hc := h.1
  unfold isDig at hc
  simp only [Bool.and_eq_true, decide_eq_true_eq] at hc
  rw [qew_, Nat.mul_zero, Nat.zero_add]
  have h1 : Lib.decDigits (c.toNat - 48) = [c] := by rw [Lib.decDigits, dif_pos (by omega), dig_ofNat h.1]
  cases r with
  | nil => rw [qgb_, h1]
  | cons d r =>
   have hne : c ≠ 48 := fun e => hz (by simp) (by simp [e])
   have hpos : 1 ≤ c.toNat - 48 := by
    have : c.toNat ≠ 48 := fun e => hne (UInt8.toNat_inj.1 e)
    omega
   rw [dec_of (d :: r) _ hpos h.2, h1]; rfl
theorem qr_ {α : Type} {c : Prop} [Decidable c] {f g : Nat → Option α} {r : α} (h1 : c → Ev f r) (h2 : ¬ c → Ev g r) : Ev (fun k => if c then f k else g k) r := by
 by_cases h : c
 ·exact Ev.congr (fun k => if_pos h) (h1 h)
 ·exact Ev.congr (fun k => if_neg h) (h2 h)
theorem qav_ {α : Type} {c : Prop} [Decidable c] {f g : Nat → Option α} {r : α} (h : c) (h1 : Ev f r) : Ev (fun k => if c then f k else g k) r := qr_ (fun _ => h1) (fun h2 => absurd h h2)
theorem ev_no {α : Type} {c : Prop} [Decidable c] {f g : Nat → Option α} {r : α} (h : ¬ c) (h1 : Ev g r) : Ev (fun k => if c then f k else g k) r := qr_ (fun h2 => absurd h2 h) (fun _ => h1)
theorem ev_eq {α : Type} {f : Nat → Option α} {r q : α} (h : Ev f q) (e : q = r) : Ev f r := e ▸ h
theorem qeh_ {s : ByteArray} {i : Nat} {c : UInt8} {t : List UInt8} (h : s.data.toList.drop i = c :: t) : i < s.size ∧ bt s (i : Int) = (c.toNat : Int) ∧ s.data.toList.drop (i + 1) = t := by
 have hlt : i < s.data.toList.length := by
  rcases Nat.lt_or_ge i s.data.toList.length with h1 | h1
  ·exact h1
  ·rw [List.drop_eq_nil_of_le h1] at h; cases h
 have hs : i < s.size := by rw [← qbr_]; exact hlt
 rw [List.drop_eq_getElem_cons hlt] at h
 obtain ⟨h1, h2⟩ := List.cons.inj h
 refine ⟨hs, ?_, h2⟩
 rw [bt_get s i hs, h1]
theorem qek_ {s : ByteArray} {i : Nat} (h : s.data.toList.drop i = []) : s.size ≤ i := by
 rw [← qbr_]; simpa [List.drop_eq_nil_iff] using h
theorem qer_ (s : ByteArray) (i j : Nat) : (s.extract i j).data.toList = (s.data.toList.drop i).take (j - i) := by
 rw [ByteArray.data_extract, Array.toList_extract, List.extract_eq_drop_take', List.drop_take]
theorem ext_mk (s : ByteArray) (i j : Nat) : s.extract i j = mk ((s.data.toList.drop i).take (j - i)) := qei_ (by rw [qer_, qbe_])
def okU (c : UInt8) : Bool := decide (32 ≤ c.toNat) && (!(decide (c.toNat = 60)) && !(decide (c.toNat = 62)))
def edge (s : ByteArray) : Bool := decide (s.size < 1) || (decide (64 < s.size) || (decide (bt s 0 = 32) || decide (bt s ((s.size : Int) - 1) = 32)))
def qem_ (s : ByteArray) : Bool := !edge s && s.data.toList.all okU
theorem okU_all {c : UInt8} {t : List UInt8} : (c :: t).all okU = (okU c && t.all okU) := rfl
theorem named_l0 (s : ByteArray) (hs : s.size ≤ 140737488351232) : ∀ (t : List UInt8) (i : Nat), s.data.toList.drop i = t → Ev (fun k => qy_.l0 k s (s.size : Int) i) (t.all okU)
 | [], i, h => by
  have := qek_ h
  exact Ev.step (f := ?_) (fun k => by rw [qy_.l0, if_neg (by omega)]) (Ev.now _)
 | c :: t, i, h => by
  obtain ⟨hlt, hb, ht⟩ := qeh_ h
  have e1 : wrap64 ((i : Int) + 1) = ((i + 1 : Nat) : Int) := by rw [qbw_ (by omega) (by omega)]; omega
  refine Ev.step (f := ?_) (fun k => by rw [qy_.l0, if_pos (by omega), if_pos (by omega), if_pos (by omega), hb, e1]) ?_
  rw [okU_all]
  refine qr_ (fun g => ev_eq (Ev.now _) ?_) (fun g => ?_)
  ·unfold okU; rw [decide_eq_false (by omega)]; rfl
  refine qr_ (fun g2 => ev_eq (Ev.now _) ?_) (fun g2 => ?_)
  ·unfold okU; rw [decide_eq_true (show c.toNat = 60 by omega)]; simp
  refine qr_ (fun g3 => ev_eq (Ev.now _) ?_) (fun g3 => ?_)
  ·unfold okU; rw [decide_eq_true (show c.toNat = 62 by omega)]; simp
  refine ev_eq (named_l0 s hs t (i + 1) ht) ?_
  unfold okU
  rw [decide_eq_true (show 32 ≤ c.toNat by omega), decide_eq_false (show ¬ c.toNat = 60 by omega), decide_eq_false (show ¬ c.toNat = 62 by omega)]; rfl
theorem refNamed_l0 (s : ByteArray) (hs : s.size ≤ 140737488351232) : ∀ (t : List UInt8) (i : Nat), s.data.toList.drop i = t → Ev (fun k => qs_.l0 k s i) (t.all okU)
 | [], i, h => by
  have := qek_ h
  exact Ev.step (f := ?_) (fun k => by rw [qs_.l0, if_neg (by omega)]) (Ev.now _)
 | c :: t, i, h => by
  obtain ⟨hlt, hb, ht⟩ := qeh_ h
  have e1 : wrap64 ((i : Int) + 1) = ((i + 1 : Nat) : Int) := by rw [qbw_ (by omega) (by omega)]; omega
  refine Ev.step (f := ?_) (fun k => by rw [qs_.l0, if_pos (by omega), if_pos (by omega), hb, e1]) ?_
  rw [okU_all]
  refine qr_ (fun g => ev_eq (Ev.now _) ?_) (fun g => ?_)
  ·unfold okU; rw [decide_eq_false (by omega)]; rfl
  refine qr_ (fun g2 => ev_eq (Ev.now _) ?_) (fun g2 => ?_)
  ·unfold okU; rw [decide_eq_true (show c.toNat = 60 by omega)]; simp
  refine qr_ (fun g3 => ev_eq (Ev.now _) ?_) (fun g3 => ?_)
  ·unfold okU; rw [decide_eq_true (show c.toNat = 62 by omega)]; simp
  refine ev_eq (refNamed_l0 s hs t (i + 1) ht) ?_
  unfold okU
  rw [decide_eq_true (show 32 ≤ c.toNat by omega), decide_eq_false (show ¬ c.toNat = 60 by omega), decide_eq_false (show ¬ c.toNat = 62 by omega)]; rfl
theorem named_ev (s : ByteArray) (hs : s.size ≤ 140737488351232) : Ev (fun k => qy_.f k s) (qem_ s) := by
 have hT : edge s = true → Ev (fun k => qy_.j0 k s true) (qem_ s) := fun h => by
  unfold qem_; rw [h]
  exact Ev.step (f := ?_) (fun k => by rw [qy_.j0, if_pos rfl]) (Ev.now _)
 unfold edge at hT
 refine qr_ (fun g => hT (by rw [decide_eq_true (by omega)]; rfl)) (fun g => ?_)
 refine qr_ (fun g2 => hT (by rw [decide_eq_true (show 64 < s.size by omega)]; simp)) (fun g2 => ?_)
 refine qav_ (by omega) (qr_ (fun g3 => hT (by rw [decide_eq_true g3]; simp)) (fun g3 => ?_))
 have e1 : wrap64 ((s.size : Int) - 1) = (s.size : Int) - 1 := qbw_ (by omega) (by omega)
 rw [e1]
 refine qav_ (by omega) (qav_ (by omega) ?_)
 by_cases g4 : bt s ((s.size : Int) - 1) = 32
 ·rw [show (bt s ((s.size : Int) - 1) == 32) = true by simpa using g4]
  exact hT (by rw [decide_eq_true g4]; simp)
 ·rw [show (bt s ((s.size : Int) - 1) == 32) = false by simpa using g4]
  refine Ev.step (f := ?_) (fun k => by rw [qy_.j0, if_neg (by decide)]) ?_
  have he : edge s = false := by
   unfold edge
   rw [decide_eq_false (show ¬ s.size < 1 by omega), decide_eq_false (show ¬ 64 < s.size by omega), decide_eq_false g3, decide_eq_false g4]; rfl
  unfold qem_
  rw [he]
  have := named_l0 s hs s.data.toList 0 rfl
  exact_mod_cast this
theorem refNamed_ev (s : ByteArray) (hs : s.size ≤ 140737488351232) : Ev (fun k => qs_.f k s) (qem_ s) := by
 have hT : edge s = true → Ev (fun k => qs_.j0 k s true) (qem_ s) := fun h => by
  unfold qem_; rw [h]
  exact Ev.step (f := ?_) (fun k => by rw [qs_.j0, if_pos rfl]) (Ev.now _)
 unfold edge at hT
 refine qr_ (fun g => hT (by rw [decide_eq_true (by omega)]; rfl)) (fun g => ?_)
 refine qr_ (fun g2 => hT (by rw [decide_eq_true (show 64 < s.size by omega)]; simp)) (fun g2 => ?_)
 refine qav_ (by omega) (qr_ (fun g3 => hT (by rw [decide_eq_true g3]; simp)) (fun g3 => ?_))
 have e1 : wrap64 ((s.size : Int) - 1) = (s.size : Int) - 1 := qbw_ (by omega) (by omega)
 rw [e1]
 refine qav_ (by omega) (qav_ (by omega) ?_)
 by_cases g4 : bt s ((s.size : Int) - 1) = 32
 ·rw [show (bt s ((s.size : Int) - 1) == 32) = true by simpa using g4]
  exact hT (by rw [decide_eq_true g4]; simp)
 ·rw [show (bt s ((s.size : Int) - 1) == 32) = false by simpa using g4]
  refine Ev.step (f := ?_) (fun k => by rw [qs_.j0, if_neg (by decide)]) ?_
  have he : edge s = false := by
   unfold edge
   rw [decide_eq_false (show ¬ s.size < 1 by omega), decide_eq_false (show ¬ 64 < s.size by omega), decide_eq_false g3, decide_eq_false g4]; rfl
  unfold qem_
  rw [he]
  have := refNamed_l0 s hs s.data.toList 0 rfl
  exact_mod_cast this
def qdh_ (n m : ByteArray) (t z : Int) : Bool := qem_ n && (qem_ m && (decide (0 ≤ t) && (decide (t ≤ 1099511627776) && (decide (-840 ≤ z) && decide (z ≤ 840)))))
theorem qfr_ (n m : ByteArray) (t z : Int) (hn : n.size ≤ 140737488351232) (hm : m.size ≤ 140737488351232) : Ev (fun k => qax_.f k n m t z) (qdh_ n m t z) := by
 unfold qdh_
 refine Ev.bind (named_ev n hn) (qr_ (fun g => ?_) (fun g => ev_eq (Ev.now _) ?_))
 ·rw [g, Bool.true_and]
  refine Ev.bind (named_ev m hm) (qr_ (fun g => ?_) (fun g => ev_eq (Ev.now _) ?_))
  ·rw [g, Bool.true_and]
   refine qr_ (fun g1 => ?_) (fun g1 => ev_eq (Ev.now _) (by rw [decide_eq_false (by omega)]; rfl))
   refine qr_ (fun g2 => ?_) (fun g2 => ev_eq (Ev.now _) (by rw [decide_eq_false (show ¬ t ≤ 1099511627776 by omega)]; simp))
   refine qr_ (fun g3 => ?_) (fun g3 => ev_eq (Ev.now _) (by rw [decide_eq_false (show ¬ -840 ≤ z by omega)]; simp))
   refine ev_eq (Ev.now _) ?_
   rw [decide_eq_true (show 0 ≤ t by omega), decide_eq_true g2, decide_eq_true (show -840 ≤ z by omega)]; rfl
  ·rw [Bool.not_eq_true] at g; rw [g]; rfl
 ·rw [Bool.not_eq_true] at g; rw [g]; rfl
theorem qgd_ (n m : ByteArray) (t z : Int) (hn : n.size ≤ 140737488351232) (hm : m.size ≤ 140737488351232) : Ev (fun k => qaj_.f k n m t z) (qdh_ n m t z) := by
 unfold qdh_
 refine Ev.bind (refNamed_ev n hn) (qr_ (fun g => ?_) (fun g => ev_eq (Ev.now _) ?_))
 ·rw [g, Bool.true_and]
  refine Ev.bind (refNamed_ev m hm) (qr_ (fun g => ?_) (fun g => ev_eq (Ev.now _) ?_))
  ·rw [g, Bool.true_and]
   refine qr_ (fun g1 => ?_) (fun g1 => ev_eq (Ev.now _) (by rw [decide_eq_false (by omega)]; rfl))
   refine qr_ (fun g2 => ?_) (fun g2 => ev_eq (Ev.now _) (by rw [decide_eq_false (show ¬ t ≤ 1099511627776 by omega)]; simp))
   refine qr_ (fun g3 => ?_) (fun g3 => ev_eq (Ev.now _) (by rw [decide_eq_false (show ¬ -840 ≤ z by omega)]; simp))
   refine ev_eq (Ev.now _) ?_
   rw [decide_eq_true (show 0 ≤ t by omega), decide_eq_true g2, decide_eq_true (show -840 ≤ z by omega)]; rfl
  ·rw [Bool.not_eq_true] at g; rw [g]; rfl
 ·rw [Bool.not_eq_true] at g; rw [g]; rfl
def offD (s : ByteArray) : Bool := decide (s.size < 1) || (decide (18 < s.size) || (decide (1 < s.size) && decide (bt s 0 = 48)))
def digOk (s : ByteArray) : Bool := !offD s && s.data.toList.all isDig
def valI (s : ByteArray) : Int := ((valN 0 s.data.toList : Nat) : Int)
theorem qfu_ {c : UInt8} {t : List UInt8} : (c :: t).all isDig = (isDig c && t.all isDig) := rfl
theorem Atoi_eq (s : ByteArray) (h0 : 1 ≤ s.size) (h1 : s.size ≤ 18) (h : s.data.toList.all isDig = true) : qbv_.f s = some (valI s, none) := by
 unfold qbv_.f
 rw [if_pos h1, atoi_val (fun e => by have := qbr_ s; rw [e] at this; simp at this; omega) h]
 rfl
theorem wdigits_l0 (s : ByteArray) (h0 : 1 ≤ s.size) (h1 : s.size ≤ 18) : ∀ (t : List UInt8) (i : Nat), s.data.toList.drop i = t → (s.data.toList.take i).all isDig = true → Ev (fun k => qag_.l0 k s (s.size : Int) i) (if t.all isDig = true then (valI s, true) else (0, false))
 | [], i, h, hp => by
  have hi := qek_ h
  have ha : s.data.toList.all isDig = true := by rwa [List.take_of_length_le (by rw [qbr_]; exact hi)] at hp
  refine Ev.step (f := ?_) (fun k => by rw [qag_.l0, if_neg (by omega), Atoi_eq s h0 h1 ha]) (ev_eq (Ev.now _) ?_)
  rfl
 | c :: t, i, h, hp => by
  obtain ⟨hlt, hb, ht⟩ := qeh_ h
  have e1 : wrap64 ((i : Int) + 1) = ((i + 1 : Nat) : Int) := by rw [qbw_ (by omega) (by omega)]; omega
  refine Ev.step (f := ?_) (fun k => by rw [qag_.l0, if_pos (by omega), if_pos (by omega), if_pos (by omega), hb, e1]) ?_
  rw [qfu_]
  refine qr_ (fun g => ev_eq (Ev.now _) ?_) (fun g => ?_)
  ·unfold isDig; rw [decide_eq_false (by omega)]; rfl
  refine qr_ (fun g2 => ev_eq (Ev.now _) ?_) (fun g2 => ?_)
  ·unfold isDig; rw [decide_eq_false (show ¬ c.toNat ≤ 57 by omega)]; simp
  have hc : isDig c = true := by unfold isDig; rw [decide_eq_true (show 48 ≤ c.toNat by omega), decide_eq_true (show c.toNat ≤ 57 by omega)]; rfl
  have hp2 : (s.data.toList.take (i + 1)).all isDig = true := by
   have hl : i < s.data.toList.length := by rw [qbr_]; exact hlt
   rw [List.take_succ_eq_append_getElem hl, List.all_append, hp, Bool.true_and]
   rw [List.drop_eq_getElem_cons hl] at h
   rw [(List.cons.inj h).1]
   simp [hc]
  rw [hc, Bool.true_and]
  exact wdigits_l0 s h0 h1 t (i + 1) ht hp2
theorem digits_ev (s : ByteArray) (hs : s.size ≤ 140737488351232) : Ev (fun k => qag_.f k s 18) (if digOk s = true then (valI s, true) else (0, false)) := by
 have hT : offD s = true → Ev (fun k => qag_.j0 k s true) (if digOk s = true then (valI s, true) else (0, false)) := fun h => by
  unfold digOk; rw [h]
  exact Ev.step (f := ?_) (fun k => by rw [qag_.j0, if_pos rfl]) (Ev.now _)
 have hF : offD s = false → 1 ≤ s.size → s.size ≤ 18 → Ev (fun k => qag_.j0 k s false) (if digOk s = true then (valI s, true) else (0, false)) := fun h h0 h1 => by
  unfold digOk; rw [h]
  refine Ev.step (f := ?_) (fun k => by rw [qag_.j0, if_neg (by decide)]) ?_
  have := wdigits_l0 s h0 h1 s.data.toList 0 rfl rfl
  exact_mod_cast this
 unfold offD at hT hF
 refine qr_ (fun g => hT (by rw [decide_eq_true (by omega)]; rfl)) (fun g => ?_)
 refine qr_ (fun g2 => hT (by rw [decide_eq_true (show 18 < s.size by omega)]; simp)) (fun g2 => ?_)
 rw [decide_eq_false (show ¬ s.size < 1 by omega), decide_eq_false (show ¬ 18 < s.size by omega)] at hF
 refine qr_ (fun g3 => qav_ (by omega) ?_) (fun g3 => hF (by rw [decide_eq_false (show ¬ 1 < s.size by omega)]; rfl) (by omega) (by omega))
 rw [decide_eq_true (show 1 < s.size by omega)] at hT hF
 by_cases g4 : bt s 0 = 48
 ·rw [show (bt s 0 == 48) = true by simpa using g4]; exact hT (by rw [decide_eq_true g4]; simp)
 ·rw [show (bt s 0 == 48) = false by simpa using g4]; exact hF (by rw [decide_eq_false g4]; rfl) (by omega) (by omega)
theorem Digits_l0 (s : ByteArray) (hs : s.size ≤ 18) : ∀ (t : List UInt8) (i : Nat), s.data.toList.drop i = t → Ev (fun k => qv_.l0 k s i) (t.all isDig)
 | [], i, h => by
  have hi := qek_ h
  exact Ev.step (f := ?_) (fun k => by rw [qv_.l0, if_neg (by omega)]) (Ev.now _)
 | c :: t, i, h => by
  obtain ⟨hlt, hb, ht⟩ := qeh_ h
  have e1 : wrap64 ((i : Int) + 1) = ((i + 1 : Nat) : Int) := by rw [qbw_ (by omega) (by omega)]; omega
  refine Ev.step (f := ?_) (fun k => by rw [qv_.l0, if_pos (by omega), if_pos (by omega), hb, e1]) ?_
  rw [qfu_]
  refine qr_ (fun g => ev_eq (Ev.now _) ?_) (fun g => ?_)
  ·unfold isDig; rw [decide_eq_false (by omega)]; rfl
  refine qr_ (fun g2 => ev_eq (Ev.now _) ?_) (fun g2 => ?_)
  ·unfold isDig; rw [decide_eq_false (show ¬ c.toNat ≤ 57 by omega)]; simp
  have hc : isDig c = true := by unfold isDig; rw [decide_eq_true (show 48 ≤ c.toNat by omega), decide_eq_true (show c.toNat ≤ 57 by omega)]; rfl
  rw [hc, Bool.true_and]
  exact Digits_l0 s hs t (i + 1) ht
theorem Digits_ev (s : ByteArray) (hs : s.size ≤ 140737488351232) : Ev (fun k => qv_.f k s) (digOk s) := by
 have hT : offD s = true → Ev (fun k => qv_.j0 k s true) (digOk s) := fun h => by
  unfold digOk; rw [h]
  exact Ev.step (f := ?_) (fun k => by rw [qv_.j0, if_pos rfl]) (Ev.now _)
 have hF : offD s = false → s.size ≤ 18 → Ev (fun k => qv_.j0 k s false) (digOk s) := fun h h1 => by
  unfold digOk; rw [h]
  refine Ev.step (f := ?_) (fun k => by rw [qv_.j0, if_neg (by decide)]) ?_
  have := Digits_l0 s h1 s.data.toList 0 rfl
  exact_mod_cast this
 unfold offD at hT hF
 refine qr_ (fun g => hT (by rw [decide_eq_true (by omega)]; rfl)) (fun g => ?_)
 refine qr_ (fun g2 => hT (by rw [decide_eq_true (show 18 < s.size by omega)]; simp)) (fun g2 => ?_)
 rw [decide_eq_false (show ¬ s.size < 1 by omega), decide_eq_false (show ¬ 18 < s.size by omega)] at hF
 refine qr_ (fun g3 => qav_ (by omega) ?_) (fun g3 => hF (by rw [decide_eq_false (show ¬ 1 < s.size by omega)]; rfl) (by omega))
 rw [decide_eq_true (show 1 < s.size by omega)] at hT hF
 by_cases g4 : bt s 0 = 48
 ·rw [show (bt s 0 == 48) = true by simpa using g4]; exact hT (by rw [decide_eq_true g4]; simp)
 ·rw [show (bt s 0 == 48) = false by simpa using g4]; exact hF (by rw [decide_eq_false g4]; rfl) (by omega)
theorem Value_l0 (s : ByteArray) (hs : s.size ≤ 18) : ∀ (t : List UInt8) (i acc : Nat), s.data.toList.drop i = t → t.all isDig = true → acc < 10 ^ i → Ev (fun k => qat_.l0 k s (acc : Int) i) ((valN acc t : Nat) : Int)
 | [], i, acc, h, _, _ => by
  have hi := qek_ h
  rw [qgb_]
  exact Ev.step (f := ?_) (fun k => by rw [qat_.l0, if_neg (by omega)]) (Ev.now _)
 | c :: t, i, acc, h, hd, ha => by
  obtain ⟨hlt, hb, ht⟩ := qeh_ h
  rw [qfu_, Bool.and_eq_true] at hd
  have hc := hd.1
  unfold isDig at hc
  simp only [Bool.and_eq_true, decide_eq_true_eq] at hc
  have hpow : 10 ^ i ≤ 10 ^ 17 := Nat.pow_le_pow_right (by decide) (by omega)
  have hpow2 : (10 : Nat) ^ 17 = 100000000000000000 := by decide
  have e1 : wrap64 ((i : Int) + 1) = ((i + 1 : Nat) : Int) := by rw [qbw_ (by omega) (by omega)]; omega
  have e2 : wrap64 ((wrap64 ((wrap64 (10 * (acc : Int))) + (wrap64 ((c.toNat : Int))))) - 48) = ((10 * acc + (c.toNat - 48) : Nat) : Int) := by
   rw [qbw_ (x := 10 * (acc : Int)) (by omega) (by omega), qbw_ (x := (c.toNat : Int)) (by omega) (by omega), qbw_ (x := 10 * (acc : Int) + (c.toNat : Int)) (by omega) (by omega), qbw_ (by omega) (by omega)]
   omega
  refine Ev.step (f := ?_) (fun k => by rw [qat_.l0, if_pos (by omega), if_pos (by omega), hb, e1, e2]) ?_
  rw [qew_]
  exact Value_l0 s hs t (i + 1) _ ht hd.2 (by rw [Nat.pow_succ]; omega)
theorem Value_ev (s : ByteArray) (hs : s.size ≤ 18) (h : s.data.toList.all isDig = true) : Ev (fun k => qat_.f k s) (valI s) := by
 have := Value_l0 s hs s.data.toList 0 0 rfl h (by decide)
 exact_mod_cast this
def zoneB (s : ByteArray) : Int × Bool :=
 if s.size = 5 ∧ (bt s 0 = 43 ∨ bt s 0 = 45) ∧ s.data.toList ≠ [45, 48, 48, 48, 48] ∧ (s.data.toList.drop 1).all isDig = true then
  (if 60 ≤ valI (s.extract 3 s.size) then (0, false) else if bt s 0 = 45 then (-60 * valI (s.extract 1 3) - valI (s.extract 3 s.size), true) else (60 * valI (s.extract 1 3) + valI (s.extract 3 s.size), true))
 else (0, false)
theorem all_drop1 {s : ByteArray} (h5 : s.size = 5) (h : (s.data.toList.drop 1).all isDig = true) : (s.extract 1 3).data.toList.all isDig = true ∧ (s.extract 3 s.size).data.toList.all isDig = true ∧ (s.extract 1 3).size = 2 ∧ (s.extract 3 s.size).size = 2 := by
 rw [qer_, qer_]
 refine ⟨?_, ?_, ?_, ?_⟩
 ·rw [List.all_eq_true] at h ⊢
  exact fun x hx => h x (List.mem_of_mem_take hx)
 ·rw [List.all_eq_true] at h ⊢
  intro x hx
  have := List.mem_of_mem_take hx
  exact h x (by rw [show (3 : Nat) = 1 + 2 by rfl, ← List.drop_drop] at this; exact List.mem_of_mem_drop this)
 ·rw [← qbr_, qer_, List.length_take, List.length_drop, qbr_]; omega
 ·rw [← qbr_, qer_, List.length_take, List.length_drop, qbr_]; omega
theorem val_two {s : ByteArray} (h2 : s.size = 2) (h : s.data.toList.all isDig = true) : 0 ≤ valI s ∧ valI s < 100 := by
 have := valN_lt s.data.toList 0 0 h (by decide)
 rw [qbr_, h2] at this
 unfold valI
 omega
theorem zone_l0 (s : ByteArray) (h5 : s.size = 5) : ∀ (t : List UInt8) (i : Nat), 1 ≤ i → s.data.toList.drop i = t → ((s.data.toList.drop 1).take (i - 1)).all isDig = true → Ev (fun k => qao_.l0 k s i) (if t.all isDig = true then (if 60 ≤ valI (s.extract 3 s.size) then (0, false) else if bt s 0 = 45 then (-60 * valI (s.extract 1 3) - valI (s.extract 3 s.size), true) else (60 * valI (s.extract 1 3) + valI (s.extract 3 s.size), true)) else (0, false))
 | [], i, h1, h, hp => by
  have hi := qek_ h
  have ha : (s.data.toList.drop 1).all isDig = true := by
   rwa [List.take_of_length_le (by rw [List.length_drop, qbr_]; omega)] at hp
  obtain ⟨a1, a2, a3, a4⟩ := all_drop1 h5 ha
  obtain ⟨b1, b2⟩ := val_two a3 a1
  obtain ⟨b3, b4⟩ := val_two a4 a2
  refine Ev.step (f := ?_) (fun k => by rw [qao_.l0, if_neg (by omega), if_pos (by omega), if_pos (by omega), Atoi_eq _ (by omega) (by omega) a1, Atoi_eq _ (by omega) (by omega) a2, Option.bind_some, Option.bind_some]) ?_
  change Ev _ (if 60 ≤ valI (s.extract 3 s.size) then (0, false) else if bt s 0 = 45 then (-60 * valI (s.extract 1 3) - valI (s.extract 3 s.size), true) else (60 * valI (s.extract 1 3) + valI (s.extract 3 s.size), true))
  refine qr_ (fun g => ev_eq (Ev.now _) (by rw [if_pos g])) (fun g => ?_)
  rw [if_neg g]
  refine qav_ (by omega) (qr_ (fun g2 => ev_eq (Ev.now _) ?_) (fun g2 => ev_eq (Ev.now _) ?_))
  ·rw [if_pos g2, qbw_ (x := -60 * valI (s.extract 1 3)) (by omega) (by omega), qbw_ (by omega) (by omega)]
  ·rw [if_neg g2, qbw_ (x := 60 * valI (s.extract 1 3)) (by omega) (by omega), qbw_ (by omega) (by omega)]
 | c :: t, i, h1, h, hp => by
  obtain ⟨hlt, hb, ht⟩ := qeh_ h
  have e1 : wrap64 ((i : Int) + 1) = ((i + 1 : Nat) : Int) := by rw [qbw_ (by omega) (by omega)]; omega
  refine Ev.step (f := ?_) (fun k => by rw [qao_.l0, if_pos (by omega), if_pos (by omega), if_pos (by omega), hb, e1]) ?_
  rw [qfu_]
  refine qr_ (fun g => ev_eq (Ev.now _) ?_) (fun g => ?_)
  ·unfold isDig; rw [decide_eq_false (by omega)]; rfl
  refine qr_ (fun g2 => ev_eq (Ev.now _) ?_) (fun g2 => ?_)
  ·unfold isDig; rw [decide_eq_false (show ¬ c.toNat ≤ 57 by omega)]; simp
  have hc : isDig c = true := by unfold isDig; rw [decide_eq_true (show 48 ≤ c.toNat by omega), decide_eq_true (show c.toNat ≤ 57 by omega)]; rfl
  rw [hc, Bool.true_and]
  refine zone_l0 s h5 t (i + 1) (by omega) ht ?_
  have hl : i - 1 < (s.data.toList.drop 1).length := by rw [List.length_drop, qbr_]; omega
  rw [show i + 1 - 1 = i - 1 + 1 by omega, List.take_succ_eq_append_getElem hl, List.all_append, hp, Bool.true_and]
  have hl2 : i < s.data.toList.length := by rw [qbr_]; exact hlt
  have e3 : (s.data.toList.drop 1)[i - 1] = c := by
   rw [List.getElem_drop]
   rw [List.drop_eq_getElem_cons hl2] at h
   rw [← (List.cons.inj h).1]
   congr 1; omega
  rw [e3]; simp [hc]
theorem refZone_l0 (s : ByteArray) (h5 : s.size = 5) : ∀ (t : List UInt8) (i : Nat), 1 ≤ i → s.data.toList.drop i = t → ((s.data.toList.drop 1).take (i - 1)).all isDig = true → Ev (fun k => qam_.l0 k s i) (if t.all isDig = true then (if 60 ≤ valI (s.extract 3 s.size) then (0, false) else if bt s 0 = 45 then (-60 * valI (s.extract 1 3) - valI (s.extract 3 s.size), true) else (60 * valI (s.extract 1 3) + valI (s.extract 3 s.size), true)) else (0, false))
 | [], i, h1, h, hp => by
  have hi := qek_ h
  have ha : (s.data.toList.drop 1).all isDig = true := by
   rwa [List.take_of_length_le (by rw [List.length_drop, qbr_]; omega)] at hp
  obtain ⟨a1, a2, a3, a4⟩ := all_drop1 h5 ha
  obtain ⟨b1, b2⟩ := val_two a3 a1
  obtain ⟨b3, b4⟩ := val_two a4 a2
  refine Ev.step (f := ?_) (fun k => by rw [qam_.l0, if_neg (by omega), if_pos (by omega)]) ?_
  change Ev _ (if 60 ≤ valI (s.extract 3 s.size) then (0, false) else if bt s 0 = 45 then (-60 * valI (s.extract 1 3) - valI (s.extract 3 s.size), true) else (60 * valI (s.extract 1 3) + valI (s.extract 3 s.size), true))
  refine Ev.bind (Value_ev _ (by omega) a2) (qr_ (fun g => ev_eq (Ev.now _) (by rw [if_pos g])) (fun g => ?_))
  rw [if_neg g]
  refine qav_ (by omega) (Ev.bind (Value_ev _ (by omega) a1) (qav_ (by omega) (qr_ (fun g2 => ev_eq (Ev.now _) ?_) (fun g2 => ev_eq (Ev.now _) ?_))))
  ·rw [if_pos g2, qbw_ (x := 60 * valI (s.extract 1 3)) (by omega) (by omega), qbw_ (x := 60 * valI (s.extract 1 3) + valI (s.extract 3 s.size)) (by omega) (by omega), qbw_ (by omega) (by omega)]
   congr 1; omega
  ·rw [if_neg g2, qbw_ (x := 60 * valI (s.extract 1 3)) (by omega) (by omega), qbw_ (by omega) (by omega)]
 | c :: t, i, h1, h, hp => by
  obtain ⟨hlt, hb, ht⟩ := qeh_ h
  have e1 : wrap64 ((i : Int) + 1) = ((i + 1 : Nat) : Int) := by rw [qbw_ (by omega) (by omega)]; omega
  refine Ev.step (f := ?_) (fun k => by rw [qam_.l0, if_pos (by omega), if_pos (by omega), if_pos (by omega), hb, e1]) ?_
  rw [qfu_]
  refine qr_ (fun g => ev_eq (Ev.now _) ?_) (fun g => ?_)
  ·unfold isDig; rw [decide_eq_false (by omega)]; rfl
  refine qr_ (fun g2 => ev_eq (Ev.now _) ?_) (fun g2 => ?_)
  ·unfold isDig; rw [decide_eq_false (show ¬ c.toNat ≤ 57 by omega)]; simp
  have hc : isDig c = true := by unfold isDig; rw [decide_eq_true (show 48 ≤ c.toNat by omega), decide_eq_true (show c.toNat ≤ 57 by omega)]; rfl
  rw [hc, Bool.true_and]
  refine refZone_l0 s h5 t (i + 1) (by omega) ht ?_
  have hl : i - 1 < (s.data.toList.drop 1).length := by rw [List.length_drop, qbr_]; omega
  rw [show i + 1 - 1 = i - 1 + 1 by omega, List.take_succ_eq_append_getElem hl, List.all_append, hp, Bool.true_and]
  have hl2 : i < s.data.toList.length := by rw [qbr_]; exact hlt
  have e3 : (s.data.toList.drop 1)[i - 1] = c := by
   rw [List.getElem_drop]
   rw [List.drop_eq_getElem_cons hl2] at h
   rw [← (List.cons.inj h).1]
   congr 1; omega
  rw [e3]; simp [hc]
theorem toList_beq (s : ByteArray) (l : List UInt8) : (s.toList == l) = decide (s.data.toList = l) := by
 rw [ByteArray.toList_eq, Bool.eq_iff_iff]; simp
theorem zone_ev (s : ByteArray) : Ev (fun k => qao_.f k s) (zoneB s) := by
 have hT : ¬ (s.size = 5 ∧ (bt s 0 = 43 ∨ bt s 0 = 45) ∧ s.data.toList ≠ [45, 48, 48, 48, 48]) → Ev (fun k => qao_.j0 k s true) (zoneB s) := fun h => by
  unfold zoneB; rw [if_neg (fun e => h ⟨e.1, e.2.1, e.2.2.1⟩)]
  exact Ev.step (f := ?_) (fun k => by rw [qao_.j0, if_pos rfl]) (Ev.now _)
 have hF : s.size = 5 → (bt s 0 = 43 ∨ bt s 0 = 45) → Ev (fun k => qao_.j0 k s (decide (s.data.toList = [45, 48, 48, 48, 48]))) (zoneB s) := fun h1 h2 => by
  by_cases h3 : s.data.toList = [45, 48, 48, 48, 48]
  ·rw [decide_eq_true h3]; exact hT (fun e => e.2.2 h3)
  ·rw [decide_eq_false h3]
   refine Ev.step (f := ?_) (fun k => by rw [qao_.j0, if_neg (by decide)]) ?_
   refine ev_eq (zone_l0 s h1 _ 1 (by omega) rfl (by simp)) ?_
   unfold zoneB
   by_cases h4 : (s.data.toList.drop 1).all isDig = true
   ·rw [if_pos h4]; exact (if_pos ⟨h1, h2, h3, h4⟩).symm
   ·rw [if_neg h4]; exact (if_neg (fun e => h4 e.2.2.2)).symm
 unfold qao_.f
 rw [toList_beq]
 refine qr_ (fun g => qav_ (by omega) ?_) (fun g => hT (fun e => g (by omega)))
 refine qr_ (fun g2 => hF (by omega) (.inl g2)) (fun g2 => qr_ (fun g3 => hF (by omega) (.inr g3)) (fun g3 => hT (fun e => by rcases e.2.1 with h | h <;> contradiction)))
theorem refZone_ev (s : ByteArray) : Ev (fun k => qam_.f k s) (zoneB s) := by
 have hT : ¬ (s.size = 5 ∧ (bt s 0 = 43 ∨ bt s 0 = 45) ∧ s.data.toList ≠ [45, 48, 48, 48, 48]) → Ev (fun k => qam_.j0 k s true) (zoneB s) := fun h => by
  unfold zoneB; rw [if_neg (fun e => h ⟨e.1, e.2.1, e.2.2.1⟩)]
  exact Ev.step (f := ?_) (fun k => by rw [qam_.j0, if_pos rfl]) (Ev.now _)
 have hF : s.size = 5 → (bt s 0 = 43 ∨ bt s 0 = 45) → Ev (fun k => qam_.j0 k s (decide (s.data.toList = [45, 48, 48, 48, 48]))) (zoneB s) := fun h1 h2 => by
  by_cases h3 : s.data.toList = [45, 48, 48, 48, 48]
  ·rw [decide_eq_true h3]; exact hT (fun e => e.2.2 h3)
  ·rw [decide_eq_false h3]
   refine Ev.step (f := ?_) (fun k => by rw [qam_.j0, if_neg (by decide)]) ?_
   refine ev_eq (refZone_l0 s h1 _ 1 (by omega) rfl (by simp)) ?_
   unfold zoneB
   by_cases h4 : (s.data.toList.drop 1).all isDig = true
   ·rw [if_pos h4]; exact (if_pos ⟨h1, h2, h3, h4⟩).symm
   ·rw [if_neg h4]; exact (if_neg (fun e => h4 e.2.2.2)).symm
 unfold qam_.f
 rw [toList_beq]
 refine qr_ (fun g => qav_ (by omega) ?_) (fun g => hT (fun e => g (by omega)))
 refine qr_ (fun g2 => hF (by omega) (.inl g2)) (fun g2 => qr_ (fun g3 => hF (by omega) (.inr g3)) (fun g3 => hT (fun e => by rcases e.2.1 with h | h <;> contradiction)))
def qdg_.T5 : Bool × List (List Nat × List Nat) := (true, [([], []), ([0], [0]), ([1], [1]), ([], []), ([3], [3]), ([2, 4], [2, 4]), ([5], [5]), ([], []), ([7], [7]), ([8], [8]), ([6, 9], [6, 9]), ([10], [10]), ([], []), ([11, 12], [11, 12]), ([], []), ([13, 14], [13, 14]), ([15, 9, 0, 1, 2, 3, 4, 5, 6, 7, 8, 9, 10, 11, 12, 13, 14, 15], [15])])
def qdg_.B5 : List Nat := [0, 1, 3, 0, 8, 31, 63, 0, 128, 384, 1023, 2047, 0, 8191, 0, 32767, 65535]
theorem qdg_.tab5 : rtab .any (opsOf Tryz.f33 5) = qdg_.T5 := by kernel_rfl
theorem qdg_.bits5 : qdi_ qdg_.T5.2 qdg_.B5 = true := by kernel_rfl
theorem qdd_ (a b : ByteArray) : (a ++ b).size = a.size + b.size := ByteArray.size_append
theorem dec_len (n : Nat) : ∀ u : Nat, u < 10 ^ (n + 1) → (Lib.decDigits u).length ≤ n + 1 := by
 induction n with
 | zero => intro u h; rw [Lib.decDigits, dif_pos (by omega)]; simp
 | succ n ih =>
  intro u h
  rw [Lib.decDigits]
  split
  ·simp
  ·rw [List.length_append, List.length_singleton]
   have := ih (u / 10) (by rw [Nat.pow_succ] at h; omega)
   omega
theorem itoa_len (t : Int) (h0 : -9223372036854775808 ≤ t) (h1 : t ≤ 9223372036854775807) : (Lib.itoa t).length ≤ 20 := by
 unfold Lib.itoa
 split
 ·rw [List.length_cons]; have := dec_len 18 t.natAbs (by omega); omega
 ·have := dec_len 18 t.toNat (by omega); omega
theorem Itoa_eq (t : Int) (h0 : -9223372036854775808 ≤ t) (h1 : t ≤ 9223372036854775807) : qcg_.f t = some (mk (Lib.itoa t)) := by
 unfold qcg_.f
 rw [if_pos h0, if_pos h1]; rfl
theorem itoa_nat (n : Nat) : Lib.itoa (n : Int) = Lib.decDigits n := by
 unfold Lib.itoa; rw [if_neg (by omega), Int.toNat_natCast]
def twoL (n : Nat) : List UInt8 := Lib.decDigits (n / 10 % 10) ++ Lib.decDigits (n % 10)
def tailL (t z : Int) : List UInt8 := Lib.itoa t ++ 32 :: (if z < 0 then 45 else 43) :: (twoL (z.natAbs / 60) ++ twoL (z.natAbs % 60))
def whoL (n m : List UInt8) (t z : Int) : List UInt8 := n ++ 32 :: 60 :: (m ++ 62 :: 32 :: tailL t z)
def whoB (n m : ByteArray) (t z : Int) : ByteArray := mk (whoL n.data.toList m.data.toList t z)
theorem two_len (n : Nat) : (twoL n).length = 2 := by
 unfold twoL
 rw [List.length_append, Lib.decDigits, dif_pos (by omega), Lib.decDigits, dif_pos (by omega)]; rfl
theorem Who1_eq (n : Nat) (h : (n : Int) ≤ 9223372036854775807) : qcw_.f (n : Int) = some (mk (twoL n)) := by
 unfold qcw_.f
 have e1 : (Int.tmod (wrap64 (Int.tdiv (n : Int) 10)) 10) = ((n / 10 % 10 : Nat) : Int) := by
  rw [Int.tdiv_eq_ediv_of_nonneg (by omega), qbw_ (by omega) (by omega), Int.tmod_eq_emod_of_nonneg (by omega)]; omega
 have e2 : (Int.tmod (n : Int) 10) = ((n % 10 : Nat) : Int) := by rw [Int.tmod_eq_emod_of_nonneg (by omega)]; omega
 rw [e1, e2, Itoa_eq _ (by omega) (by omega), Itoa_eq _ (by omega) (by omega), Option.bind_some, Option.bind_some, itoa_nat, itoa_nat]
 have l1 : (mk (Lib.decDigits (n / 10 % 10))).size = 1 := by rw [qbk_, Lib.decDigits, dif_pos (by omega)]; rfl
 have l2 : (mk (Lib.decDigits (n % 10))).size = 1 := by rw [qbk_, Lib.decDigits, dif_pos (by omega)]; rfl
 rw [if_pos (by omega), mk_app]; rfl
theorem Who_eq (n m : ByteArray) (t z : Int) (hn : n.size ≤ 140737488351232) (hm : m.size ≤ 140737488351232) (h0 : -9223372036854775808 ≤ t) (h1 : t ≤ 9223372036854775807) (hz0 : -9223372036854775808 < z) (hz1 : z ≤ 9223372036854775807) : qcf_.f n m t z = some (whoB n m t z) := by
 have hl := itoa_len t h0 h1
 have hl1 := two_len (z.natAbs / 60)
 have hl2 := two_len (z.natAbs % 60)
 have s1 : (mk (Lib.itoa t)).size ≤ 20 := by rw [qbk_]; exact hl
 have s2 : (mk (twoL (z.natAbs / 60))).size = 2 := by rw [qbk_]; exact hl1
 have s3 : (mk (twoL (z.natAbs % 60))).size = 2 := by rw [qbk_]; exact hl2
 have c2 : (⟨#[32, 60]⟩ : ByteArray).size = 2 := rfl
 have c3 : (⟨#[62, 32]⟩ : ByteArray).size = 2 := rfl
 have c4 : (⟨#[32]⟩ : ByteArray).size = 1 := rfl
 have c5 : (⟨#[45]⟩ : ByteArray).size = 1 := rfl
 have c6 : (⟨#[43]⟩ : ByteArray).size = 1 := rfl
 unfold qcf_.f
 rw [Itoa_eq t h0 h1]
 by_cases h : z < 0
 ·have e1 : wrap64 (Int.tdiv (wrap64 (-z)) 60) = ((z.natAbs / 60 : Nat) : Int) := by
   rw [qbw_ (x := -z) (by omega) (by omega), Int.tdiv_eq_ediv_of_nonneg (by omega), qbw_ (by omega) (by omega)]; omega
  have e2 : Int.tmod (wrap64 (-z)) 60 = ((z.natAbs % 60 : Nat) : Int) := by
   rw [qbw_ (x := -z) (by omega) (by omega), Int.tmod_eq_emod_of_nonneg (by omega)]; omega
  rw [if_pos h, if_pos (by omega), if_pos (by simp only [qdd_]; omega), if_pos (by simp only [qdd_]; omega), Option.bind_some, if_pos (by simp only [qdd_]; omega), if_pos (by simp only [qdd_]; omega), if_pos (by simp only [qdd_]; omega), e1, e2, Who1_eq _ (by omega), Who1_eq _ (by omega), Option.bind_some, if_pos (by simp only [qdd_]; omega), Option.bind_some, if_pos (by simp only [qdd_]; omega)]
  congr 1
  refine qei_ ?_
  unfold whoB whoL tailL
  rw [if_pos h]
  simp only [qdr_, qbe_, List.append_assoc, List.cons_append, List.nil_append]
  try simp
 ·have e1 : wrap64 (Int.tdiv z 60) = ((z.natAbs / 60 : Nat) : Int) := by
   rw [Int.tdiv_eq_ediv_of_nonneg (by omega), qbw_ (by omega) (by omega)]; omega
  have e2 : Int.tmod z 60 = ((z.natAbs % 60 : Nat) : Int) := by
   rw [Int.tmod_eq_emod_of_nonneg (by omega)]; omega
  rw [if_neg h, if_pos (by omega), if_pos (by simp only [qdd_]; omega), if_pos (by simp only [qdd_]; omega), Option.bind_some, if_pos (by simp only [qdd_]; omega), if_pos (by simp only [qdd_]; omega), if_pos (by simp only [qdd_]; omega), e1, e2, Who1_eq _ (by omega), Who1_eq _ (by omega), Option.bind_some, if_pos (by simp only [qdd_]; omega), Option.bind_some, if_pos (by simp only [qdd_]; omega)]
  congr 1
  refine qei_ ?_
  unfold whoB whoL tailL
  rw [if_neg h]
  simp only [qdr_, qbe_, List.append_assoc, List.cons_append, List.nil_append]
  try simp
theorem pre_take (t u : List UInt8) : t.isPrefixOf u = true ↔ u.take t.length = t := by
 rw [List.isPrefixOf_iff_prefix, List.prefix_iff_eq_take]; exact eq_comm
theorem index_short {u t : List UInt8} (ht : t ≠ []) (h : u.length < t.length) : Lib.index u t = -1 := by
 rcases index_nonneg_iff u t with h1 | h1
 ·obtain ⟨a, b, e, _⟩ := qgp_ t ht u h1
  have := congrArg List.length e
  simp only [List.length_append] at this
  omega
 ·exact h1
def findV (i : Nat) (u t : List UInt8) : Int := if Lib.index u t = -1 then -1 else (i : Int) + Lib.index u t
theorem find_l0 (s t : ByteArray) (hs : s.size ≤ 140737488351232) (ht : 1 ≤ t.size) (ht2 : t.size ≤ 1000) : ∀ (u : List UInt8) (i : Nat), s.data.toList.drop i = u → i ≤ s.size + 10 → Ev (fun k => qf_.l0 k s t i) (findV i u t.data.toList)
 | [], i, h, hi => by
  have := qek_ h
  refine Ev.step (f := ?_) (fun k => by rw [qf_.l0, qbw_ (x := (i : Int) + (t.size : Int)) (by omega) (by omega), if_neg (by omega)]) (ev_eq (Ev.now _) ?_)
  unfold findV
  rw [if_pos (index_short (fun e => by have := qbr_ t; rw [e] at this; simp at this; omega) (by rw [qbr_]; simp; omega))]
 | c :: u, i, h, hi => by
  obtain ⟨hlt, hb, hu⟩ := qeh_ h
  have htn : t.data.toList ≠ [] := fun e => by have := qbr_ t; rw [e] at this; simp at this; omega
  have e1 : wrap64 ((i : Int) + 1) = ((i + 1 : Nat) : Int) := by rw [qbw_ (by omega) (by omega)]; omega
  have e2 : wrap64 ((i : Int) + (t.size : Int)) = ((i + t.size : Nat) : Int) := by rw [qbw_ (by omega) (by omega)]; omega
  have hlen : (c :: u).length = s.size - i := by rw [← h, List.length_drop, qbr_]
  by_cases hf : i + t.size ≤ s.size
  ·refine Ev.step (f := ?_) (fun k => by rw [qf_.l0, e2, if_pos (by omega), if_pos (by omega), if_pos (by omega), e1, Int.toNat_natCast, Int.toNat_natCast]) ?_
   have hd : (s.extract i (i + t.size)).toList = (c :: u).take t.data.toList.length := by
    rw [ByteArray.toList_eq, qer_, h, qbr_]; congr 1; omega
   rw [hd, ByteArray.toList_eq]
   refine qr_ (fun g => ev_eq (Ev.now _) ?_) (fun g => ?_)
   ·unfold findV
    rw [qfa_ ((pre_take _ _).2 g)]; simp
   ·have hm : t.data.toList.isPrefixOf (c :: u) = false := by
     rw [← Bool.not_eq_true, pre_take]; exact g
    refine ev_eq (find_l0 s t hs ht ht2 u (i + 1) hu (by omega)) ?_
    unfold findV
    rw [qdv_ hm]
    by_cases h1 : Lib.index u t.data.toList = -1
    ·rw [if_pos h1, h1]; rfl
    ·have := Lib.index_ge u t.data.toList
     have e : (if (Lib.index u t.data.toList == -1) = true then (-1 : Int) else Lib.index u t.data.toList + 1) = Lib.index u t.data.toList + 1 := if_neg (by simpa using h1)
     rw [e, if_neg h1, if_neg (by omega)]; omega
  ·refine Ev.step (f := ?_) (fun k => by rw [qf_.l0, e2, if_neg (by omega)]) (ev_eq (Ev.now _) ?_)
   unfold findV
   rw [if_pos (index_short htn (by rw [qbr_, hlen]; omega))]
theorem find_ev (s t : ByteArray) (i : Nat) (x : Int) (hx : x = i) (hs : s.size ≤ 140737488351232) (ht : 1 ≤ t.size) (ht2 : t.size ≤ 1000) (hi : i ≤ s.size + 10) : Ev (fun k => qf_.f k s t x) (findV i (s.data.toList.drop i) t.data.toList) := by
 subst hx; exact find_l0 s t hs ht ht2 _ i rfl hi
theorem Cut_eq (s t : ByteArray) (hs : s.size < 4294967281) : qbx_.f s t = some (mk (Lib.cut s.data.toList t.data.toList).1, mk (Lib.cut s.data.toList t.data.toList).2.1, (Lib.cut s.data.toList t.data.toList).2.2) := by
 unfold qbx_.f; rw [if_pos hs]; rfl
theorem cut_len (l s : List UInt8) : (Lib.cut l s).1.length + (Lib.cut l s).2.1.length ≤ l.length := by
 by_cases h : 0 ≤ Lib.index l s
 ·rw [cut_of h]; simp only [List.length_take, List.length_drop]; omega
 ·rw [cut_no h]; simp
theorem qfy_ : ∀ l : List UInt8, Lib.containsAny l [60, 62] = true ↔ (60 ∈ l ∨ 62 ∈ l)
 | [] => by simp [Lib.containsAny, Lib.indexAny]
 | c :: l => by
  have ih := qfy_ l
  unfold Lib.containsAny at ih ⊢
  rw [decide_eq_true_iff] at ih ⊢
  rw [Lib.indexAny]
  by_cases h : ([60, 62] : List UInt8).contains c = true
  ·rw [if_pos h]
   simp at h
   rcases h with rfl | rfl <;> simp
  ·rw [if_neg h]
   have h60 : c ≠ 60 := by rintro rfl; simp at h
   have h62 : c ≠ 62 := by rintro rfl; simp at h
   have hge := Go.Lib.indexAny_ge [60, 62] l
   by_cases h1 : Lib.indexAny l [60, 62] = -1
   ·rw [h1] at ih ⊢
    simp at ih ⊢
    exact ⟨⟨fun e => h60 e.symm, ih.1⟩, fun e => h62 e.symm, ih.2⟩
   ·rw [if_neg (by simpa using h1)]
    have : 0 ≤ Lib.indexAny l [60, 62] := by omega
    have h2 := ih.1 this
    constructor
    ·intro _; rcases h2 with h2 | h2 <;> simp [h2]
    ·intro _; omega
theorem qgc_ (x : UInt8) : ∀ l : List UInt8, Lib.index l [x] = -1 ↔ x ∉ l
 | [] => by rw [Lib.index]; simp
 | c :: l => by
  by_cases h : c = x
  ·subst h
   rw [qfa_ (by simp [List.isPrefixOf])]; simp
  ·rw [qdv_ (by simp [List.isPrefixOf]; exact fun e => h e.symm)]
   have ih := qgc_ x l
   have hge := Lib.index_ge l [x]
   by_cases h1 : Lib.index l [x] = -1
   ·rw [if_pos (by simpa using h1)]
    simp only [List.mem_cons, not_or, true_iff]
    exact ⟨fun e => h e.symm, ih.1 h1⟩
   ·rw [if_neg (by simpa using h1)]
    constructor
    ·intro h2; omega
    ·intro h2; exact absurd (ih.2 (fun e => h2 (by simp [e]))) h1
def noA (l : List UInt8) : Prop := 60 ∉ l ∧ 62 ∉ l
instance (l : List UInt8) : Decidable (noA l) := by unfold noA; infer_instance
def finW (n m : ByteArray) (t z : Int) : ByteArray × ByteArray × Int × Int × Int := if qdh_ n m t z = true then (n, m, t, z, 0) else (⟨#[]⟩, ⟨#[]⟩, 0, 0, 1)
def c1 (s : ByteArray) : List UInt8 × List UInt8 × Bool := Lib.cut s.data.toList [32, 60]
def c2 (s : ByteArray) : List UInt8 × List UInt8 × Bool := Lib.cut (c1 s).2.1 [62, 32]
def c3 (s : ByteArray) : List UInt8 × List UInt8 × Bool := Lib.cut (c2 s).2.1 [32]
def wOk (s : ByteArray) : Prop := (c1 s).2.2 = true ∧ (c2 s).2.2 = true ∧ (c3 s).2.2 = true ∧ digOk (mk (c3 s).1) = true ∧ (zoneB (mk (c3 s).2.1)).2 = true ∧ noA (c1 s).1 ∧ noA (c2 s).1
instance (s : ByteArray) : Decidable (wOk s) := by unfold wOk; infer_instance
def qbb_ (s : ByteArray) : ByteArray × ByteArray × Int × Int × Int :=
 if wOk s then finW (mk (c1 s).1) (mk (c2 s).1) (valI (mk (c3 s).1)) (zoneB (mk (c3 s).2.1)).1 else (⟨#[]⟩, ⟨#[]⟩, 0, 0, 2)
theorem c_len (s : ByteArray) : (c1 s).1.length + (c1 s).2.1.length ≤ s.size ∧ (c2 s).1.length + (c2 s).2.1.length ≤ (c1 s).2.1.length ∧ (c3 s).1.length + (c3 s).2.1.length ≤ (c2 s).2.1.length := by
 have h1 := cut_len s.data.toList [32, 60]
 have h2 := cut_len (c1 s).2.1 [62, 32]
 have h3 := cut_len (c2 s).2.1 [32]
 rw [qbr_] at h1
 exact ⟨h1, h2, h3⟩
theorem ParseWho_ev (s : ByteArray) (hs : s.size ≤ 4294967000) : Ev (fun k => qah_.f k s) (qbb_ s) := by
 obtain ⟨l1, l2, l3⟩ := c_len s
 have E1 : qbx_.f s ⟨#[32, 60]⟩ = some (mk (c1 s).1, mk (c1 s).2.1, (c1 s).2.2) := Cut_eq _ _ (by omega)
 have E2 : qbx_.f (mk (c1 s).2.1) ⟨#[62, 32]⟩ = some (mk (c2 s).1, mk (c2 s).2.1, (c2 s).2.2) := by
  rw [Cut_eq _ _ (by rw [qbk_]; omega), qbe_]; rfl
 have E3 : qbx_.f (mk (c2 s).2.1) ⟨#[32]⟩ = some (mk (c3 s).1, mk (c3 s).2.1, (c3 s).2.2) := by
  rw [Cut_eq _ _ (by rw [qbk_]; omega), qbe_]; rfl
 have bad : ¬ wOk s → ∀ (n m : ByteArray) (t z : Int), Ev (fun k => qah_.j0 k n m t z true) (qbb_ s) := fun h n m t z => by
  unfold qbb_; rw [if_neg h]
  exact Ev.step (f := ?_) (fun k => by rw [qah_.j0, if_pos rfl]) (Ev.now _)
 unfold qah_.f
 rw [E1]
 simp only [Option.bind_some]
 rw [E2]
 simp only [Option.bind_some]
 rw [E3]
 simp only [Option.bind_some]
 refine Ev.bind (digits_ev _ (by rw [qbk_]; omega)) (Ev.bind (zone_ev _) ?_)
 unfold wOk at bad
 refine qr_ (fun g1 => ?_) (fun g1 => bad (fun e => g1 e.1) _ _ _ _)
 refine qr_ (fun g2 => ?_) (fun g2 => bad (fun e => g2 e.2.1) _ _ _ _)
 refine qr_ (fun g3 => ?_) (fun g3 => bad (fun e => g3 e.2.2.1) _ _ _ _)
 refine qr_ (fun g4 => ?_) (fun g4 => bad (fun e => g4 (by rw [if_pos e.2.2.2.1])) _ _ _ _)
 have g4' : digOk (mk (c3 s).1) = true := by
  by_cases h : digOk (mk (c3 s).1) = true
  ·exact h
  ·rw [if_neg h] at g4; simp at g4
 rw [if_pos g4']
 refine qr_ (fun g5 => ?_) (fun g5 => bad (fun e => g5 e.2.2.2.2.1) _ _ _ _)
 refine qav_ (by rw [qbk_, qbk_]; omega) ?_
 have E4 : qco_.f (mk (c1 s).1 ++ mk (c2 s).1) ⟨#[60, 62]⟩ = some (Lib.containsAny ((c1 s).1 ++ (c2 s).1) [60, 62]) := by
  unfold qco_.f
  rw [if_pos (by rw [qdd_, qbk_, qbk_]; omega), if_pos (by decide), if_pos (by decide), qdr_, qbe_, qbe_]
 rw [E4]
 simp only [Option.bind_some]
 by_cases g6 : Lib.containsAny ((c1 s).1 ++ (c2 s).1) [60, 62] = true
 ·rw [g6]
  refine bad (fun e => ?_) _ _ _ _
  rw [qfy_, List.mem_append, List.mem_append] at g6
  obtain ⟨_, _, _, _, _, ⟨a, b⟩, c, d⟩ := e
  rcases g6 with (h | h) | (h | h) <;> contradiction
 ·have hw : wOk s := by
   rw [qfy_, List.mem_append, List.mem_append] at g6
   simp only [not_or] at g6
   exact ⟨g1, g2, g3, g4', g5, ⟨g6.1.1, g6.2.1⟩, g6.1.2, g6.2.2⟩
  rw [Bool.not_eq_true] at g6
  rw [g6]
  refine Ev.step (f := ?_) (fun k => by rw [qah_.j0, if_neg (by decide)]) ?_
  unfold qbb_ finW
  rw [if_pos hw]
  refine Ev.bind (qfr_ _ _ _ _ (by rw [qbk_]; omega) (by rw [qbk_]; omega)) (qr_ (fun g => ?_) (fun g => ?_))
  ·rw [if_pos g]; exact Ev.now _
  ·rw [if_neg g]; exact Ev.now _
theorem qfx_ {α : Type} (a b : List α) (i : Nat) (h : a.length = i) : (a ++ b).drop i = b := by subst h; simp
theorem qga_ {α : Type} (a b : List α) (i : Nat) (h : a.length = i) : (a ++ b).take i = a := by subst h; simp
theorem qdx_ (l : List UInt8) (x : UInt8) : findV 0 l [x] ≥ 0 ↔ x ∈ l := by
 unfold findV
 have hge := Lib.index_ge l [x]
 by_cases h : Lib.index l [x] = -1
 ·rw [if_pos h]
  have := (qgc_ x l).1 h
  constructor
  ·intro h2; omega
  ·intro h2; exact absurd h2 this
 ·rw [if_neg h]
  have : x ∈ l := by
   refine Classical.byContradiction fun h2 => h ((qgc_ x l).2 h2)
  constructor
  ·intro _; exact this
  ·intro _; simp; omega
theorem qfl_ (n : List UInt8) (x : UInt8) (hn : n.length ≤ 140737488351232) : Ev (fun k => qf_.f k (mk n) ⟨#[x]⟩ 0) (findV 0 n [x]) := by
 have := find_ev (mk n) ⟨#[x]⟩ 0 0 rfl (by rw [qbk_]; exact hn) (Nat.le_refl 1) (show 1 ≤ 1000 by omega) (by omega)
 rw [List.drop_zero, qbe_] at this
 exact this
theorem app2 (P Q R : List UInt8) (a b c d : UInt8) : P ++ [a, b] ++ (Q ++ [c, d] ++ R) = (P ++ [a, b] ++ Q ++ [c, d]) ++ R := by simp only [List.append_assoc]
theorem one_lo : 1 ≤ (⟨#[(32 : UInt8)]⟩ : ByteArray).size := Nat.le_refl 1
theorem one_hi : (⟨#[(32 : UInt8)]⟩ : ByteArray).size ≤ 1000 := show 1 ≤ 1000 by omega
theorem w_two (n : Nat) (h : n ≤ 5000000000) : wrap64 ((n : Int) + 2) = ((n + 2 : Nat) : Int) := by rw [qbw_ (by omega) (by omega)]; omega
theorem w_one (n : Nat) (h : n ≤ 5000000000) : wrap64 ((n : Int) + 1) = ((n + 1 : Nat) : Int) := by rw [qbw_ (by omega) (by omega)]; omega
theorem refParseWho_ev (s : ByteArray) (hs : s.size ≤ 4294967000) : Ev (fun k => qg_.f k s) (qbb_ s) := by
 obtain ⟨l1, l2, l3⟩ := c_len s
 have hs' : s.size ≤ 140737488351232 := by omega
 have no : ¬ wOk s → Ev (fun _ => some ((⟨#[]⟩ : ByteArray), (⟨#[]⟩ : ByteArray), (0 : Int), (0 : Int), (2 : Int))) (qbb_ s) := fun h => by
  unfold qbb_; rw [if_neg h]; exact Ev.now _
 refine Ev.bind (find_ev s ⟨#[32, 60]⟩ 0 0 rfl (by omega) (by decide) (by decide) (by omega)) ?_
 rw [List.drop_zero]
 cases h1 : (c1 s).2.2 with
 | false =>
  have hi : Lib.index s.data.toList [32, 60] = -1 := (qgi_ (l := s.data.toList) (s := [32, 60]) (a := (c1 s).1) (b := (c1 s).2.1) (by rw [← h1]; rfl)).2.2
  have : findV 0 s.data.toList [32, 60] = -1 := by unfold findV; rw [if_pos hi]
  change Ev (fun k => if findV 0 s.data.toList [32, 60] < 0 then _ else _) _
  exact qav_ (by omega) (no (fun e => by have := e.1; rw [h1] at this; simp at this))
 | true =>
 obtain ⟨t1, i1⟩ := qdy_ (l := s.data.toList) (s := [32, 60]) (a := (c1 s).1) (b := (c1 s).2.1) (by decide) (by rw [← h1]; rfl)
 generalize hP : (c1 s).1 = P at *
 generalize hR1 : (c1 s).2.1 = R1 at *
 have f1 : findV 0 s.data.toList [32, 60] = (P.length : Int) := by unfold findV; rw [i1, if_neg (by omega)]; simp
 change Ev (fun k => if findV 0 s.data.toList [32, 60] < 0 then _ else _) _
 rw [f1]
 clear f1 i1
 refine ev_no (by omega) ?_
 have d1 : s.data.toList.drop P.length = 32 :: 60 :: R1 := by rw [t1, List.append_assoc, qfx_ _ _ _ rfl]; rfl
 have hsz := congrArg List.length t1
 rw [qbr_] at hsz
 simp only [List.length_append, List.length_cons, List.length_nil] at hsz
 refine Ev.bind (find_ev s ⟨#[62, 32]⟩ P.length _ rfl (by omega) (by decide) (by decide) (by omega)) ?_
 rw [d1]
 have hx2 : Lib.index (32 :: 60 :: R1) [62, 32] = if Lib.index R1 [62, 32] = -1 then -1 else Lib.index R1 [62, 32] + 2 := by
  have q0 : Lib.index (32 :: 60 :: R1) [62, 32] = if Lib.index (60 :: R1) [62, 32] == -1 then -1 else Lib.index (60 :: R1) [62, 32] + 1 := qdv_ rfl
  have q1 : Lib.index (60 :: R1) [62, 32] = if Lib.index R1 [62, 32] == -1 then -1 else Lib.index R1 [62, 32] + 1 := qdv_ rfl
  have hge := Lib.index_ge R1 [62, 32]
  by_cases h : Lib.index R1 [62, 32] = -1
  ·rw [if_pos (by rw [h]; rfl)] at q1
   rw [if_pos (by rw [q1]; rfl)] at q0
   rw [q0, if_pos h]
  ·rw [if_neg (by simpa using h)] at q1
   rw [if_neg (by rw [q1, beq_iff_eq]; omega)] at q0
   rw [q0, q1, if_neg h]; omega
 have e2' : c2 s = Lib.cut R1 [62, 32] := by unfold c2; rw [hR1]
 cases h2 : (c2 s).2.2 with
 | false =>
  have hi : Lib.index R1 [62, 32] = -1 := (qgi_ (l := R1) (s := [62, 32]) (a := (c2 s).1) (b := (c2 s).2.1) (by rw [← h2, ← e2'])).2.2
  have : findV P.length (32 :: 60 :: R1) [62, 32] = -1 := by unfold findV; rw [hx2, if_pos hi, if_pos rfl]
  change Ev (fun k => if findV P.length (32 :: 60 :: R1) [62, 32] < 0 then _ else _) _
  exact qav_ (by omega) (no (fun e => by have := e.2.1; rw [h2] at this; simp at this))
 | true =>
 obtain ⟨t2, i2⟩ := qdy_ (l := R1) (s := [62, 32]) (a := (c2 s).1) (b := (c2 s).2.1) (by decide) (by rw [← h2, ← e2'])
 generalize hQ : (c2 s).1 = Q at *
 generalize hR2 : (c2 s).2.1 = R2 at *
 have f2 : findV P.length (32 :: 60 :: R1) [62, 32] = ((P.length + 2 + Q.length : Nat) : Int) := by
  unfold findV; rw [hx2, i2, if_neg (by omega), if_neg (by omega)]; omega
 change Ev (fun k => if findV P.length (32 :: 60 :: R1) [62, 32] < 0 then _ else _) _
 rw [f2]
 clear f2 hx2 i2
 refine ev_no (by omega) ?_
 have hsz2 := congrArg List.length t2
 simp only [List.length_append, List.length_cons, List.length_nil] at hsz2
 have hi4 : P.length + 2 + Q.length + 2 ≤ s.size + 10 := by omega
 have hi5 : P.length + 2 + Q.length ≤ 5000000000 := by omega
 have d2 : s.data.toList.drop (P.length + 2 + Q.length + 2) = R2 := by
  rw [t1, t2, app2]
  refine qfx_ _ _ _ ?_
  simp only [List.length_append, List.length_cons, List.length_nil]
 refine Ev.bind (find_ev s ⟨#[32]⟩ (P.length + 2 + Q.length + 2) _ (w_two _ hi5) hs' one_lo one_hi hi4) ?_
 rw [d2]
 have e3' : c3 s = Lib.cut R2 [32] := by unfold c3; rw [hR2]
 cases h3 : (c3 s).2.2 with
 | false =>
  have hi : Lib.index R2 [32] = -1 := (qgi_ (l := R2) (s := [32]) (a := (c3 s).1) (b := (c3 s).2.1) (by rw [← h3, ← e3'])).2.2
  have : findV (P.length + 2 + Q.length + 2) R2 [32] = -1 := by unfold findV; rw [if_pos hi]
  change Ev (fun k => if findV (P.length + 2 + Q.length + 2) R2 [32] < 0 then _ else _) _
  exact qav_ (by omega) (no (fun e => by have := e.2.2.1; rw [h3] at this; simp at this))
 | true =>
 obtain ⟨t3, i3⟩ := qdy_ (l := R2) (s := [32]) (a := (c3 s).1) (b := (c3 s).2.1) (by decide) (by rw [← h3, ← e3'])
 generalize hT : (c3 s).1 = U at *
 generalize hZ : (c3 s).2.1 = Z at *
 have f3 : findV (P.length + 2 + Q.length + 2) R2 [32] = ((P.length + 2 + Q.length + 2 + U.length : Nat) : Int) := by
  unfold findV; rw [i3, if_neg (by omega)]; omega
 change Ev (fun k => if findV (P.length + 2 + Q.length + 2) R2 [32] < 0 then _ else _) _
 rw [f3]
 clear f3 i3
 refine ev_no (by omega) ?_
 have hsz3 := congrArg List.length t3
 simp only [List.length_append, List.length_cons, List.length_nil] at hsz3
 have hi6 : P.length ≤ 5000000000 := by omega
 have hi7 : P.length + 2 + Q.length + 2 + U.length ≤ 5000000000 := by omega
 have x1 : s.extract 0 P.length = mk P := by
  rw [ext_mk]; congr 1; rw [List.drop_zero, t1, List.append_assoc, Nat.sub_zero, qga_ _ _ _ rfl]
 have x2 : s.extract (P.length + 2) (P.length + 2 + Q.length) = mk Q := by
  rw [ext_mk]; congr 1
  rw [t1, t2, qfx_ _ _ _ (by simp), List.append_assoc, qga_ _ _ _ (by omega)]
 have x3 : s.extract (P.length + 2 + Q.length + 2) (P.length + 2 + Q.length + 2 + U.length) = mk U := by
  rw [ext_mk]; congr 1
  rw [d2, t3, List.append_assoc, qga_ _ _ _ (by omega)]
 have x4 : s.extract (P.length + 2 + Q.length + 2 + U.length + 1) s.size = mk Z := by
  rw [ext_mk]; congr 1
  rw [show P.length + 2 + Q.length + 2 + U.length + 1 = (P.length + 2 + Q.length + 2) + (U.length + 1) by omega, ← List.drop_drop, d2, t3, qfx_ _ _ _ (by simp), List.take_of_length_le (by omega)]
 simp only [w_two _ hi6, w_one _ hi7, w_two _ hi5, Int.toNat_natCast, x1, x2, x3, x4]
 have bad : ¬ wOk s → Ev (fun k => qg_.j0 k s ((P.length + 2 + Q.length : Nat) : Int) ((P.length + 2 + Q.length + 2 + U.length : Nat) : Int) (zoneB (mk Z)).1 true (mk P) (mk Q) 0 0) (qbb_ s) := fun h =>
  Ev.step (f := ?_) (fun k => by rw [qg_.j0, if_pos rfl]) (no h)
 have hOk : wOk s ↔ digOk (mk U) = true ∧ (zoneB (mk Z)).2 = true ∧ noA P ∧ noA Q := by
  unfold wOk
  rw [h1, h2, h3, hT, hZ, hP, hQ]
  simp
 refine qav_ (by omega) (qav_ (by omega) (qav_ (by omega) (qav_ (by omega) (qav_ (by omega) (qav_ (by omega) (qav_ (by omega) ?_))))))
 refine Ev.bind (refZone_ev _) (qr_ (fun g1 => ?_) (fun g1 => bad (fun e => g1 (hOk.1 e).2.1)))
 refine qav_ (by omega) (qav_ (by omega) (qav_ (by omega) ?_))
 refine Ev.bind (Digits_ev _ (by rw [qbk_]; omega)) (qr_ (fun g2 => ?_) (fun g2 => bad (fun e => g2 (hOk.1 e).1)))
 refine Ev.bind (qfl_ P 60 (by omega)) (qr_ (fun g3 => bad (fun e => (hOk.1 e).2.2.1.1 ((qdx_ _ _).1 g3))) (fun g3 => ?_))
 refine Ev.bind (qfl_ P 62 (by omega)) (qr_ (fun g4 => bad (fun e => (hOk.1 e).2.2.1.2 ((qdx_ _ _).1 g4))) (fun g4 => ?_))
 refine Ev.bind (qfl_ Q 60 (by omega)) (qr_ (fun g5 => bad (fun e => (hOk.1 e).2.2.2.1 ((qdx_ _ _).1 g5))) (fun g5 => ?_))
 refine Ev.bind (qfl_ Q 62 (by omega)) ?_
 by_cases g6 : findV 0 Q [62] ≥ 0
 ·rw [decide_eq_true g6]
  exact bad (fun e => (hOk.1 e).2.2.2.2 ((qdx_ _ _).1 g6))
 ·rw [decide_eq_false g6]
  have hw : wOk s := hOk.2 ⟨g2, g1, ⟨fun h => g3 ((qdx_ _ _).2 h), fun h => g4 ((qdx_ _ _).2 h)⟩, fun h => g5 ((qdx_ _ _).2 h), fun h => g6 ((qdx_ _ _).2 h)⟩
  refine Ev.step (f := ?_) (fun k => by rw [qg_.j0, if_neg (by decide), w_two _ hi5, Int.toNat_natCast, Int.toNat_natCast, x3, if_pos (by omega), if_pos (by omega), if_pos (by omega)]) ?_
  have hd := g2
  unfold digOk at hd
  rw [Bool.and_eq_true, Bool.not_eq_true'] at hd
  have h18 : (mk U).size ≤ 18 := by
   have := hd.1
   unfold offD at this
   simp only [Bool.or_eq_false_iff, decide_eq_false_iff_not] at this
   omega
  refine Ev.bind (Value_ev _ h18 hd.2) (Ev.bind (qgd_ _ _ _ _ (by rw [qbk_]; omega) (by rw [qbk_]; omega)) ?_)
  unfold qbb_ finW
  rw [if_pos hw, hP, hQ, hT, hZ]
  refine qr_ (fun g => ?_) (fun g => ?_)
  ·rw [if_pos g]; exact Ev.now _
  ·rw [if_neg g]; exact Ev.now _
def dg (d : Nat) : UInt8 := UInt8.ofNat (48 + d)
theorem dg_val {d : Nat} (h : d < 10) : (dg d).toNat = 48 + d := by
 unfold dg; rw [UInt8.toNat_ofNat']; omega
theorem dg_of {c : UInt8} (h : isDig c = true) : c = dg (c.toNat - 48) := (dig_ofNat h).symm
theorem isDig_lt {c : UInt8} (h : isDig c = true) : 48 ≤ c.toNat ∧ c.toNat ≤ 57 := by
 unfold isDig at h; simpa using h
theorem dec_one {d : Nat} (h : d < 10) : Lib.decDigits d = [dg d] := by
 rw [Lib.decDigits.eq_def, dif_pos h]; rfl
theorem twoL_eq (u : Nat) : twoL u = [dg (u / 10 % 10), dg (u % 10)] := by
 unfold twoL; rw [dec_one (by omega), dec_one (by omega)]; rfl
theorem val2 (a b : UInt8) : valI (mk [a, b]) = ((10 * (a.toNat - 48) + (b.toNat - 48) : Nat) : Int) := by
 unfold valI; rw [qbe_, qew_, qew_, qgb_]; simp
theorem bt0 (c : UInt8) (l : List UInt8) : bt (mk (c :: l)) 0 = (c.toNat : Int) := (qeh_ (s := mk (c :: l)) (i := 0) (by rw [qbe_]; rfl)).2.1
theorem zone5 (c a b d e : UInt8) : zoneB (mk [c, a, b, d, e]) =
  if (c.toNat = 43 ∨ c.toNat = 45) ∧ [c, a, b, d, e] ≠ [45, 48, 48, 48, 48] ∧ isDig a = true ∧ isDig b = true ∧ isDig d = true ∧ isDig e = true then
   (if 60 ≤ (10 * (d.toNat - 48) + (e.toNat - 48) : Nat) then (0, false) else if c.toNat = 45 then (-(60 * (10 * (a.toNat - 48) + (b.toNat - 48) : Nat) + (10 * (d.toNat - 48) + (e.toNat - 48) : Nat) : Int), true) else ((60 * (10 * (a.toNat - 48) + (b.toNat - 48) : Nat) + (10 * (d.toNat - 48) + (e.toNat - 48) : Nat) : Int), true))
  else (0, false) := by
 have hs : (mk [c, a, b, d, e]).size = 5 := qbk_ _
 have x1 : (mk [c, a, b, d, e]).extract 1 3 = mk [a, b] := by rw [ext_mk, qbe_]; rfl
 have x2 : (mk [c, a, b, d, e]).extract 3 (mk [c, a, b, d, e]).size = mk [d, e] := by rw [hs, ext_mk, qbe_]; rfl
 unfold zoneB
 rw [x1, x2, hs, bt0, qbe_, val2, val2]
 have hc : (5 = 5 ∧ ((c.toNat : Int) = 43 ∨ (c.toNat : Int) = 45) ∧ [c, a, b, d, e] ≠ [45, 48, 48, 48, 48] ∧ ([c, a, b, d, e].drop 1).all isDig = true) ↔ ((c.toNat = 43 ∨ c.toNat = 45) ∧ [c, a, b, d, e] ≠ [45, 48, 48, 48, 48] ∧ isDig a = true ∧ isDig b = true ∧ isDig d = true ∧ isDig e = true) := by
  rw [show [c, a, b, d, e].drop 1 = [a, b, d, e] from rfl]
  simp only [List.all_cons, List.all_nil, Bool.and_true, Bool.and_eq_true, true_and]
  constructor
  ·rintro ⟨h1, h2, h3⟩; exact ⟨by omega, h2, h3⟩
  ·rintro ⟨h1, h2, h3⟩; exact ⟨by omega, h2, h3⟩
 by_cases h : (c.toNat = 43 ∨ c.toNat = 45) ∧ [c, a, b, d, e] ≠ [45, 48, 48, 48, 48] ∧ isDig a = true ∧ isDig b = true ∧ isDig d = true ∧ isDig e = true
 ·rw [if_pos h, if_pos (hc.2 h)]
  by_cases h2 : 60 ≤ (10 * (d.toNat - 48) + (e.toNat - 48) : Nat)
  ·rw [if_pos h2, if_pos (by exact_mod_cast h2)]
  ·rw [if_neg h2, if_neg (by exact_mod_cast h2)]
   by_cases h3 : c.toNat = 45
   ·rw [if_pos h3, if_pos (by omega)]; congr 1; omega
   ·rw [if_neg h3, if_neg (by omega)]
 ·rw [if_neg h, if_neg (fun g => h (hc.1 g))]
def sgn (z : Int) : UInt8 := if z < 0 then 45 else 43
def zoneL (z : Int) : List UInt8 := sgn z :: (twoL (z.natAbs / 60) ++ twoL (z.natAbs % 60))
theorem zoneL_eq (z : Int) : zoneL z = [sgn z, dg (z.natAbs / 60 / 10 % 10), dg (z.natAbs / 60 % 10), dg (z.natAbs % 60 / 10 % 10), dg (z.natAbs % 60 % 10)] := by
 unfold zoneL; rw [twoL_eq, twoL_eq]; rfl
theorem tailL_eq (t z : Int) : tailL t z = Lib.itoa t ++ 32 :: zoneL z := rfl
theorem list5 {l : List UInt8} (h : l.length = 5) : ∃ a b c d e, l = [a, b, c, d, e] := by
 match l, h with
 | [a, b, c, d, e], _ => exact ⟨a, b, c, d, e, rfl⟩
theorem zone_read {l : List UInt8} {z : Int} (h : zoneB (mk l) = (z, true)) : l = zoneL z := by
 have h5 : l.length = 5 := by
  unfold zoneB at h
  by_cases h2 : (mk l).size = 5
  ·rw [← qbk_]; exact h2
  ·rw [if_neg (fun g => h2 g.1)] at h; simp at h
 obtain ⟨c, a, b, d, e, rfl⟩ := list5 h5
 rw [zone5] at h
 by_cases g : (c.toNat = 43 ∨ c.toNat = 45) ∧ [c, a, b, d, e] ≠ [45, 48, 48, 48, 48] ∧ isDig a = true ∧ isDig b = true ∧ isDig d = true ∧ isDig e = true
 ·rw [if_pos g] at h
  obtain ⟨gc, gn, ga, gb, gd, ge⟩ := g
  have la := isDig_lt ga
  have lb := isDig_lt gb
  have ld := isDig_lt gd
  have le := isDig_lt ge
  by_cases g2 : 60 ≤ (10 * (d.toNat - 48) + (e.toNat - 48) : Nat)
  ·rw [if_pos g2] at h; simp at h
  ·rw [if_neg g2] at h
   have key : z.natAbs = 60 * (10 * (a.toNat - 48) + (b.toNat - 48)) + (10 * (d.toNat - 48) + (e.toNat - 48)) ∧ c = sgn z := by
    by_cases g3 : c.toNat = 45
    ·rw [if_pos g3] at h
     have hz := (Prod.mk.inj h).1
     refine ⟨by omega, ?_⟩
     have hne : ¬ (a.toNat = 48 ∧ b.toNat = 48 ∧ d.toNat = 48 ∧ e.toNat = 48) := by
      rintro ⟨k1, k2, k3, k4⟩
      refine gn ?_
      rw [show c = 45 from UInt8.toNat_inj.1 g3, show a = 48 from UInt8.toNat_inj.1 k1, show b = 48 from UInt8.toNat_inj.1 k2, show d = 48 from UInt8.toNat_inj.1 k3, show e = 48 from UInt8.toNat_inj.1 k4]
     unfold sgn
     rw [if_pos (by omega)]
     exact UInt8.toNat_inj.1 g3
    ·rw [if_neg g3] at h
     have hz := (Prod.mk.inj h).1
     refine ⟨by omega, ?_⟩
     unfold sgn
     rw [if_neg (by omega)]
     exact UInt8.toNat_inj.1 (by rw [show (43 : UInt8).toNat = 43 from rfl]; omega)
   rw [zoneL_eq, ← key.2, key.1, dg_of ga, dg_of gb, dg_of gd, dg_of ge]
   rw [dg_val (d := a.toNat - 48) (by omega), dg_val (d := b.toNat - 48) (by omega), dg_val (d := d.toNat - 48) (by omega), dg_val (d := e.toNat - 48) (by omega)]
   congr 1
   congr 1
   ·congr 1; omega
   congr 1
   ·congr 1; omega
   congr 1
   ·congr 1; omega
   congr 1
   congr 1; omega
 ·rw [if_neg g] at h; simp at h
theorem digOk_of {l : List UInt8} (h : digOk (mk l) = true) : l ≠ [] ∧ l.length ≤ 18 ∧ (1 < l.length → l.head? ≠ some 48) ∧ l.all isDig = true := by
 unfold digOk at h
 rw [Bool.and_eq_true, Bool.not_eq_true', qbe_] at h
 obtain ⟨h1, h2⟩ := h
 unfold offD at h1
 rw [qbk_] at h1
 simp only [Bool.or_eq_false_iff, decide_eq_false_iff_not, Bool.and_eq_false_imp, decide_eq_true_eq] at h1
 cases l with
 | nil => simp at h1
 | cons c l =>
  rw [bt0] at h1
  refine ⟨by simp, by omega, fun g => ?_, h2⟩
  have := h1.2.2 g
  simp only [List.head?_cons, ne_eq, Option.some.injEq]
  rintro rfl
  exact this rfl
theorem who_again (s n m : ByteArray) (t z : Int) (h : qbb_ s = (n, m, t, z, 0)) : whoB n m t z = s ∧ qdh_ n m t z = true := by
 unfold qbb_ at h
 by_cases hw : wOk s
 ·rw [if_pos hw] at h
  obtain ⟨w1, w2, w3, w4, w5, w6, w7⟩ := hw
  obtain ⟨t1, _⟩ := qdy_ (l := s.data.toList) (s := [32, 60]) (a := (c1 s).1) (b := (c1 s).2.1) (by decide) (by rw [← w1]; rfl)
  obtain ⟨t2, _⟩ := qdy_ (l := (c1 s).2.1) (s := [62, 32]) (a := (c2 s).1) (b := (c2 s).2.1) (by decide) (by rw [← w2]; rfl)
  obtain ⟨t3, _⟩ := qdy_ (l := (c2 s).2.1) (s := [32]) (a := (c3 s).1) (b := (c3 s).2.1) (by decide) (by rw [← w3]; rfl)
  obtain ⟨d1, d2, d3, d4⟩ := digOk_of w4
  have hz := zone_read (l := (c3 s).2.1) (z := (zoneB (mk (c3 s).2.1)).1) (by rw [← w5])
  unfold finW at h
  by_cases hp : qdh_ (mk (c1 s).1) (mk (c2 s).1) (valI (mk (c3 s).1)) (zoneB (mk (c3 s).2.1)).1 = true
  ·rw [if_pos hp] at h
   obtain ⟨rfl, rfl, rfl, rfl⟩ : _ ∧ _ ∧ _ ∧ _ := ⟨(Prod.mk.inj h).1, (Prod.mk.inj (Prod.mk.inj h).2).1, (Prod.mk.inj (Prod.mk.inj (Prod.mk.inj h).2).2).1, (Prod.mk.inj (Prod.mk.inj (Prod.mk.inj (Prod.mk.inj h).2).2).2).1⟩
   refine ⟨?_, hp⟩
   unfold whoB whoL
   rw [qbe_, qbe_, tailL_eq, ← hz]
   have hv : Lib.itoa (valI (mk (c3 s).1)) = (c3 s).1 := by
    unfold valI
    rw [itoa_nat, qbe_, dec_canon d1 d4 d3]
   rw [hv, show (32 : UInt8) :: (c3 s).2.1 = [32] ++ (c3 s).2.1 from rfl, ← List.append_assoc, ← t3, show (62 : UInt8) :: 32 :: (c2 s).2.1 = [62, 32] ++ (c2 s).2.1 from rfl, ← List.append_assoc, ← t2, show (32 : UInt8) :: 60 :: (c1 s).2.1 = [32, 60] ++ (c1 s).2.1 from rfl, ← List.append_assoc, ← t1, mk_of]
  ·rw [if_neg hp] at h; simp at h
 ·rw [if_neg hw] at h; simp at h
theorem qel_ (n : Nat) (h : n ≤ 140737488351232) : wrap64 ((n : Int) + 1) = ((n + 1 : Nat) : Int) := by rw [qbw_ (by omega) (by omega)]; omega
def zeroB (s : ByteArray) : Bool := s.data.toList.any fun c => decide (c.toNat = 0)
theorem zero_l0 (s : ByteArray) (hs : s.size ≤ 140737488351232) : ∀ (t : List UInt8) (i : Nat), s.data.toList.drop i = t → Ev (fun k => qbl_.l0 k s i) (t.any fun c => decide (c.toNat = 0))
 | [], i, h => by
  have := qek_ h
  exact Ev.step (f := ?_) (fun k => by rw [qbl_.l0, if_neg (by omega)]) (Ev.now _)
 | c :: t, i, h => by
  obtain ⟨hlt, hb, ht⟩ := qeh_ h
  refine Ev.step (f := ?_) (fun k => by rw [qbl_.l0, if_pos (by omega), if_pos (by omega), hb, qel_ i (by omega)]) ?_
  refine qr_ (fun g => ev_eq (Ev.now _) ?_) (fun g => ev_eq (zero_l0 s hs t (i + 1) ht) ?_)
  ·rw [List.any_cons, decide_eq_true (by omega : c.toNat = 0), Bool.true_or]
  ·rw [List.any_cons, decide_eq_false (by omega : ¬ c.toNat = 0), Bool.false_or]
theorem zero_ev (s : ByteArray) (hs : s.size ≤ 140737488351232) : Ev (fun k => qbl_.f k s) (zeroB s) := zero_l0 s hs _ 0 rfl
theorem zeroB_iff (s : ByteArray) : zeroB s = true ↔ (0 : UInt8) ∈ s.data.toList := by
 unfold zeroB
 rw [List.any_eq_true]
 constructor
 ·rintro ⟨c, hc, h⟩
  rw [decide_eq_true_eq] at h
  rwa [← show c = 0 from UInt8.toNat_inj.1 h]
 ·intro h; exact ⟨0, h, rfl⟩
theorem qgv_ (s : ByteArray) (hs : s.size < 4294967281) : qci_.f s ⟨#[0]⟩ = some (zeroB s) := by
 unfold qci_.f
 rw [if_pos hs]
 congr 1
 have h1 := qgc_ 0 s.data.toList
 have hge := Lib.index_ge s.data.toList [0]
 rw [Bool.eq_iff_iff, zeroB_iff]
 unfold Lib.contains
 rw [decide_eq_true_eq]
 show 0 ≤ Lib.index s.data.toList [0] ↔ _
 constructor
 ·intro h
  refine Classical.byContradiction fun h2 => ?_
  have := h1.2 h2
  omega
 ·intro h
  refine Classical.byContradiction fun h2 => ?_
  exact h1.1 (by omega) h
def above (c : UInt8) : Bool := decide (32 < c.toNat)
def qff_ (s : ByteArray) : Bool := s.data.toList.all above && (decide (1 ≤ s.size) && decide (s.size ≤ 64))
theorem qgg_ (c : UInt8) (t : List UInt8) : (c :: t).all above = (above c && t.all above) := rfl
theorem tagged_l0 (s : ByteArray) (hs : s.size ≤ 140737488351232) : ∀ (t : List UInt8) (i : Nat), s.data.toList.drop i = t → Ev (fun k => qbc_.l0 k s (s.size : Int) i) (t.all above && (decide (1 ≤ s.size) && decide (s.size ≤ 64)))
 | [], i, h => by
  have := qek_ h
  refine Ev.step (f := ?_) (fun k => by rw [qbc_.l0, if_neg (by omega)]) (qr_ (fun g => ev_eq (Ev.now _) ?_) (fun g => ev_eq (Ev.now _) ?_))
  ·rw [List.all_nil, Bool.true_and, decide_eq_true (by omega : 1 ≤ s.size), Bool.true_and]
   exact decide_eq_decide.2 (by omega)
  ·rw [decide_eq_false (by omega : ¬ 1 ≤ s.size)]; simp
 | c :: t, i, h => by
  obtain ⟨hlt, hb, ht⟩ := qeh_ h
  refine Ev.step (f := ?_) (fun k => by rw [qbc_.l0, if_pos (by omega), if_pos (by omega), if_pos (by omega), hb, qel_ i (by omega)]) ?_
  refine qr_ (fun g => ev_eq (Ev.now _) ?_) (fun g => ev_eq (tagged_l0 s hs t (i + 1) ht) ?_)
  ·rw [qgg_, show above c = false from decide_eq_false (by omega)]; rfl
  ·rw [qgg_, show above c = true from decide_eq_true (by omega), Bool.true_and]
theorem tagged_ev (s : ByteArray) (hs : s.size ≤ 140737488351232) : Ev (fun k => qbc_.f k s) (qff_ s) := tagged_l0 s hs _ 0 rfl
def wordB (a : Int) : ByteArray := if a = 1 then ⟨#[98, 108, 111, 98]⟩ else if a = 2 then ⟨#[116, 114, 101, 101]⟩ else if a = 3 then ⟨#[99, 111, 109, 109, 105, 116]⟩ else if a = 4 then ⟨#[116, 97, 103]⟩ else ⟨#[]⟩
theorem wordF_eq (a : Int) : wordF a 4 0 = wordB a := by
 unfold wordB
 simp only [wordF, kindW]
 by_cases h1 : a = 1
 ·subst h1; rfl
 ·rw [if_neg (by omega), if_neg h1]
  by_cases h2 : a = 2
  ·subst h2; rfl
  ·rw [if_neg (by omega), if_neg h2]
   by_cases h3 : a = 3
   ·subst h3; rfl
   ·rw [if_neg (by omega), if_neg h3]
    by_cases h4 : a = 4
    ·subst h4; rfl
    ·rw [if_neg (by omega), if_neg h4]
theorem Word_eq (a : Int) : qcu_.f a = some (wordB a) := by unfold qcu_.f; rw [wordF_eq]
theorem refWord_eq (a : Int) : qct_.f a = some (wordB a) := by
 unfold qct_.f wordB
 repeat' split
 all_goals rfl
theorem word_none (a : Int) : (wordB a).toList = ([] : List UInt8) ↔ ¬ (1 ≤ a ∧ a ≤ 4) := by
 unfold wordB
 by_cases h1 : a = 1
 ·rw [if_pos h1, ByteArray.toList_eq]; simp; omega
 rw [if_neg h1]
 by_cases h2 : a = 2
 ·rw [if_pos h2, ByteArray.toList_eq]; simp; omega
 rw [if_neg h2]
 by_cases h3 : a = 3
 ·rw [if_pos h3, ByteArray.toList_eq]; simp; omega
 rw [if_neg h3]
 by_cases h4 : a = 4
 ·rw [if_pos h4, ByteArray.toList_eq]; simp; omega
 rw [if_neg h4, ByteArray.toList_eq]; simp; omega
def tagOk (o : ByteArray) (a : Int) (g n m : ByteArray) (t z : Int) (x : ByteArray) : Prop := idOk o = true ∧ (1 ≤ a ∧ a ≤ 4) ∧ qff_ g = true ∧ qdh_ n m t z = true ∧ zeroB x = false
instance (o : ByteArray) (a : Int) (g n m : ByteArray) (t z : Int) (x : ByteArray) : Decidable (tagOk o a g n m t z x) := by unfold tagOk; infer_instance
def qcz_ (o : ByteArray) (a : Int) (g n m : ByteArray) (t z : Int) (x : ByteArray) : Int := if tagOk o a g n m t z x then (if x.size > 4096 then 4 else 0) else 1
theorem CheckTag_ev (o : ByteArray) (a : Int) (g n m : ByteArray) (t z : Int) (x : ByteArray) (hg : g.size ≤ 140737488351232) (hn : n.size ≤ 140737488351232) (hm : m.size ≤ 140737488351232) (hx : x.size < 4294967281) : Ev (fun k => qak_.f k o a g n m t z x) (qcz_ o a g n m t z x) := by
 have bad : ¬ tagOk o a g n m t z x → Ev (fun k => qak_.j0 k true o a g n m t z x) (qcz_ o a g n m t z x) := fun h => by
  unfold qcz_; rw [if_neg h]
  exact Ev.step (f := ?_) (fun k => by rw [qak_.j0, if_pos rfl]) (Ev.now _)
 refine Ev.bind (qgk_ o) (qr_ (fun g1 => ?_) (fun g1 => bad (fun e => g1 e.1)))
 rw [Word_eq]
 simp only [Option.bind_some]
 refine qr_ (fun g2 => bad (fun e => (word_none a).1 g2 e.2.1)) (fun g2 => ?_)
 refine Ev.bind (tagged_ev g hg) (qr_ (fun g3 => ?_) (fun g3 => bad (fun e => g3 e.2.2.1)))
 refine Ev.bind (qfr_ n m t z hn hm) (qr_ (fun g4 => ?_) (fun g4 => bad (fun e => g4 e.2.2.2.1)))
 rw [qgv_ x hx]
 simp only [Option.bind_some]
 cases g5 : zeroB x with
 | true => exact bad (fun e => by have := e.2.2.2.2; rw [g5] at this; cases this)
 | false =>
  have ok : tagOk o a g n m t z x := ⟨g1, Classical.byContradiction (fun h => g2 ((word_none a).2 h)), g3, g4, g5⟩
  unfold qcz_
  rw [if_pos ok]
  refine Ev.step (f := ?_) (fun k => by rw [qak_.j0, if_neg (by decide)]) (qr_ (fun h => ?_) (fun h => ?_))
  ·rw [if_pos (by omega)]; exact Ev.now _
  ·rw [if_neg (by omega)]; exact Ev.now _
theorem qgq_ (o : ByteArray) (a : Int) (g n m : ByteArray) (t z : Int) (x : ByteArray) (hg : g.size ≤ 140737488351232) : ∀ (d i : Nat), i + d = g.size → Ev (fun k => qp_.l0 k true i o a g n m t z x) 1
 | 0, i, h => Ev.step (f := ?_) (fun k => by rw [qp_.l0, if_neg (by omega), if_pos rfl]) (Ev.now _)
 | d + 1, i, h => Ev.step (f := ?_) (fun k => by rw [qp_.l0, if_pos (by omega), if_pos rfl, qel_ i (by omega)]) (qgq_ o a g n m t z x hg d (i + 1) (by omega))
theorem refTag_good (o : ByteArray) (a : Int) (g n m : ByteArray) (t z : Int) (x : ByteArray) (hg : g.size ≤ 140737488351232) : ∀ (u : List UInt8) (i : Nat), g.data.toList.drop i = u → i ≤ g.size → Ev (fun k => qp_.l0 k false i o a g n m t z x) (if u.all above = true then (if x.size > 4096 then 4 else 0) else 1)
 | [], i, h, hi => by
  have := qek_ h
  refine Ev.step (f := ?_) (fun k => by rw [qp_.l0, if_neg (by omega), if_neg (by decide)]) (qr_ (fun g1 => ?_) (fun g1 => ?_))
  ·rw [if_pos List.all_nil, if_pos (by omega)]; exact Ev.now _
  ·rw [if_pos List.all_nil, if_neg (by omega)]; exact Ev.now _
 | c :: u, i, h, hi => by
  obtain ⟨hlt, hb, hu⟩ := qeh_ h
  by_cases hc : above c = true
  ·have hc2 : 32 < c.toNat := by unfold above at hc; simpa using hc
   refine Ev.step (f := ?_) (fun k => by rw [qp_.l0, if_pos (by omega), if_neg (by decide), if_pos (by omega), hb, qel_ i (by omega), decide_eq_false (by omega : ¬ ((c.toNat : Int) ≤ 32))]) ?_
   rw [qgg_, hc, Bool.true_and]
   exact refTag_good o a g n m t z x hg u (i + 1) hu (by omega)
  ·have hc2 : c.toNat ≤ 32 := by unfold above at hc; simpa using hc
   refine Ev.step (f := ?_) (fun k => by rw [qp_.l0, if_pos (by omega), if_neg (by decide), if_pos (by omega), hb, qel_ i (by omega), decide_eq_true (by omega : (c.toNat : Int) ≤ 32)]) ?_
   rw [qgg_, Bool.not_eq_true _ |>.mp hc, Bool.false_and, if_neg (by decide)]
   exact qgq_ o a g n m t z x hg (g.size - (i + 1)) (i + 1) (by omega)
theorem refCheckTag_ev (o : ByteArray) (a : Int) (g n m : ByteArray) (t z : Int) (x : ByteArray) (hg : g.size ≤ 140737488351232) (hn : n.size ≤ 140737488351232) (hm : m.size ≤ 140737488351232) (hx : x.size < 4294967281) : Ev (fun k => qp_.f k o a g n m t z x) (qcz_ o a g n m t z x) := by
 have bad : ¬ tagOk o a g n m t z x → Ev (fun k => qp_.j0 k true o a g n m t z x) (qcz_ o a g n m t z x) := fun h => by
  unfold qcz_; rw [if_neg h]
  exact Ev.step (f := ?_) (fun k => by rw [qp_.j0]) (qgq_ o a g n m t z x hg g.size 0 (by omega))
 have tg : qff_ g = true → 1 ≤ g.size ∧ g.size ≤ 64 := fun h => by
  unfold qff_ at h; simp only [Bool.and_eq_true, decide_eq_true_eq] at h; exact h.2
 refine Ev.bind (qeu_ o) (qr_ (fun g1 => ?_) (fun g1 => bad (fun e => g1 e.1)))
 refine qr_ (fun g2 => bad (fun e => by have := e.2.1; omega)) (fun g2 => ?_)
 refine qr_ (fun g3 => bad (fun e => by have := e.2.1; omega)) (fun g3 => ?_)
 refine qr_ (fun g4 => bad (fun e => by have := tg e.2.2.1; omega)) (fun g4 => ?_)
 refine qr_ (fun g5 => bad (fun e => by have := tg e.2.2.1; omega)) (fun g5 => ?_)
 refine Ev.bind (qgd_ n m t z hn hm) (qr_ (fun g6 => ?_) (fun g6 => bad (fun e => g6 e.2.2.2.1)))
 refine Ev.bind (zero_ev x (by omega)) ?_
 cases g7 : zeroB x with
 | true => exact bad (fun e => by have := e.2.2.2.2; rw [g7] at this; cases this)
 | false =>
  refine Ev.step (f := ?_) (fun k => by rw [qp_.j0]) (ev_eq (refTag_good o a g n m t z x hg _ 0 rfl (by omega)) ?_)
  unfold qcz_
  by_cases h : g.data.toList.drop 0 |>.all above
  ·have ht : qff_ g = true := by
    unfold qff_
    rw [List.drop_zero] at h
    rw [h, decide_eq_true (by omega : 1 ≤ g.size), decide_eq_true (by omega : g.size ≤ 64)]; rfl
   have ok : tagOk o a g n m t z x := ⟨g1, ⟨by omega, by omega⟩, ht, g6, g7⟩
   rw [if_pos h, if_pos ok]
  ·have no : ¬ tagOk o a g n m t z x := fun e => by
    have := e.2.2.1
    unfold qff_ at this
    rw [Bool.and_eq_true] at this
    exact h this.1
   rw [if_neg h, if_neg no]
def lineF (u p : List UInt8) : List UInt8 × List UInt8 × Bool := if (Lib.cut u [10]).2.2 = true ∧ (Lib.cut u [10]).1.take p.length = p then ((Lib.cut u [10]).1.drop p.length, (Lib.cut u [10]).2.1, true) else ([], u, false)
theorem qde_ (u p : List UInt8) : (lineF u p).1.length ≤ u.length ∧ (lineF u p).2.1.length ≤ u.length := by
 have h := cut_len u [10]
 unfold lineF
 split
 ·show (List.drop p.length (Lib.cut u [10]).1).length ≤ u.length ∧ (Lib.cut u [10]).2.1.length ≤ u.length
  rw [List.length_drop]; constructor <;> omega
 ·simp
theorem qfo_ (s : ByteArray) (e : Int) : qbg_.f s e 2 = some (s, 2) := by
 unfold qbg_.f
 by_cases h : e = 0
 ·rw [if_pos h]
 ·rw [if_neg h, if_pos rfl]
theorem CutPrefix_eq (s p : ByteArray) : qca_.f s p = some (if s.data.toList.take p.size = p.data.toList then (mk (s.data.toList.drop p.size), true) else (s, false)) := by
 have hx : (s.extract 0 p.size).toList = s.data.toList.take p.size := by rw [ByteArray.toList_eq, qer_]; simp
 have hy : s.extract p.size s.size = mk (s.data.toList.drop p.size) := by
  rw [ext_mk, List.take_of_length_le]
  rw [List.length_drop, qbr_]; omega
 unfold qca_.f qcq_.f qbz_.f
 by_cases h : (s.size : Int) ≥ (p.size : Int)
 ·rw [if_pos h, if_pos (by omega), if_pos (by omega), hx, ByteArray.toList_eq p]
  simp only [Option.bind_some]
  by_cases g : s.data.toList.take p.size = p.data.toList
  ·rw [if_pos g, if_pos (by rw [g]; simp), if_pos (by omega), if_pos (by omega), hy]; rfl
  ·rw [if_neg g, if_neg (by simpa using g)]; rfl
 ·rw [if_neg h]
  simp only [Option.bind_some]
  rw [if_neg (by decide), if_neg (fun e => ?_)]
  ·rfl
  ·have := congrArg List.length e
   rw [List.length_take, qbr_, qbr_] at this
   omega
theorem qfn_ (s : ByteArray) (e : Int) (p : ByteArray) (hs : s.size < 4294967281) : qba_.f s e p = some (mk (lineF s.data.toList p.data.toList).1, mk (lineF s.data.toList p.data.toList).2.1, if (lineF s.data.toList p.data.toList).2.2 = true then e else 2) := by
 unfold qba_.f
 rw [Cut_eq s ⟨#[10]⟩ hs]
 simp only [Option.bind_some]
 rw [CutPrefix_eq, qbe_]
 simp only [Option.bind_some]
 rw [qfo_]
 simp only [Option.bind_some]
 generalize hl : lineF s.data.toList p.data.toList = L
 unfold lineF at hl
 rw [qbr_] at hl
 show (if (Lib.cut s.data.toList [10]).2.2 = true then (if (if (Lib.cut s.data.toList [10]).1.take p.size = p.data.toList then (mk ((Lib.cut s.data.toList [10]).1.drop p.size), true) else (mk (Lib.cut s.data.toList [10]).1, false)).2 = true then some ((if (Lib.cut s.data.toList [10]).1.take p.size = p.data.toList then (mk ((Lib.cut s.data.toList [10]).1.drop p.size), true) else (mk (Lib.cut s.data.toList [10]).1, false)).1, mk (Lib.cut s.data.toList [10]).2.1, e) else some ((⟨#[]⟩ : ByteArray), s, 2)) else some ((⟨#[]⟩ : ByteArray), s, 2)) = _
 by_cases g1 : (Lib.cut s.data.toList [10]).2.2 = true
 ·by_cases g2 : (Lib.cut s.data.toList [10]).1.take p.size = p.data.toList
  ·rw [if_pos ⟨g1, g2⟩] at hl
   subst hl
   rw [if_pos g1, if_pos g2, if_pos rfl, if_pos rfl]
  ·rw [if_neg (fun h => g2 h.2)] at hl
   subst hl
   rw [if_pos g1, if_neg g2, if_neg Bool.false_ne_true, if_neg Bool.false_ne_true, mk_of]; rfl
 ·rw [if_neg (fun h => g1 h.1)] at hl
  subst hl
  rw [if_neg g1, if_neg Bool.false_ne_true, mk_of]; rfl
def lineR (s : ByteArray) (i : Nat) (p : List UInt8) : ByteArray × Int × Bool :=
 (mk (lineF (s.data.toList.drop i) p).1, ((s.size - (lineF (s.data.toList.drop i) p).2.1.length : Nat) : Int), (lineF (s.data.toList.drop i) p).2.2)
theorem rest_at {s : ByteArray} {i : Nat} {p : List UInt8} (hi : i ≤ s.size) : s.data.toList.drop (s.size - (lineF (s.data.toList.drop i) p).2.1.length) = (lineF (s.data.toList.drop i) p).2.1 := by
 have key : ∀ (u : List UInt8), (∃ a, s.data.toList = a ++ u) → s.data.toList.drop (s.size - u.length) = u := fun u ⟨a, e⟩ => by
  have := congrArg List.length e
  rw [qbr_, List.length_append] at this
  rw [e]
  exact qfx_ _ _ _ (by omega)
 refine key _ ?_
 unfold lineF
 split
 ·rename_i h
  obtain ⟨t1, _⟩ := qdy_ (l := s.data.toList.drop i) (s := [10]) (a := (Lib.cut (s.data.toList.drop i) [10]).1) (b := (Lib.cut (s.data.toList.drop i) [10]).2.1) (by decide) (by rw [← h.1])
  refine ⟨s.data.toList.take i ++ ((Lib.cut (s.data.toList.drop i) [10]).1 ++ [10]), ?_⟩
  show _ = _ ++ (Lib.cut (s.data.toList.drop i) [10]).2.1
  rw [List.append_assoc, ← t1, List.take_append_drop]
 ·exact ⟨s.data.toList.take i, (List.take_append_drop _ _).symm⟩
theorem w_sub (i a : Nat) (h : i + a ≤ 5000000000) : wrap64 (((i + a : Nat) : Int) - (i : Int)) = (a : Int) := by rw [qbw_ (by omega) (by omega)]; omega
theorem w_add (i a : Nat) (h : i + a ≤ 5000000000) : wrap64 ((i : Int) + ((a : Nat) : Int)) = ((i + a : Nat) : Int) := by rw [qbw_ (by omega) (by omega)]; omega
theorem refLine_ev (s w : ByteArray) (x : Int) (i : Nat) (hx : x = i) (hi : i ≤ s.size) (hs : s.size ≤ 4294967000) (hw : w.size ≤ 1000) : Ev (fun k => qau_.f k s x w) (lineR s i (w.data.toList ++ [32])) := by
 subst hx
 have hs' : s.size ≤ 140737488351232 := by omega
 have hul : (s.data.toList.drop i).length = s.size - i := by rw [List.length_drop, qbr_]
 have no : ¬ ((Lib.cut (s.data.toList.drop i) [10]).2.2 = true ∧ (Lib.cut (s.data.toList.drop i) [10]).1.take (w.data.toList ++ [32]).length = w.data.toList ++ [32]) → Ev (fun _ => some ((⟨#[]⟩ : ByteArray), (i : Int), false)) (lineR s i (w.data.toList ++ [32])) := fun h => by
  unfold lineR lineF
  rw [if_neg h]
  refine ev_eq (Ev.now _) ?_
  rw [hul, show s.size - (s.size - i) = i by omega]; rfl
 refine Ev.bind (find_ev s ⟨#[10]⟩ i i rfl hs' (Nat.le_refl 1) (show 1 ≤ 1000 by omega) (by omega)) ?_
 generalize hu : s.data.toList.drop i = u at *
 cases h1 : (Lib.cut u [10]).2.2 with
 | false =>
  have hi1 : Lib.index u [10] = -1 := (qgi_ (l := u) (s := [10]) (a := (Lib.cut u [10]).1) (b := (Lib.cut u [10]).2.1) (by rw [← h1])).2.2
  have : findV i u [10] = -1 := by unfold findV; rw [if_pos hi1]
  refine qav_ (show findV i u [10] < 0 by omega) (no (fun e => ?_))
  have := e.1; rw [h1] at this; cases this
 | true =>
  obtain ⟨t1, i1⟩ := qdy_ (l := u) (s := [10]) (a := (Lib.cut u [10]).1) (b := (Lib.cut u [10]).2.1) (by decide) (by rw [← h1])
  generalize hA : (Lib.cut u [10]).1 = A at *
  generalize hB : (Lib.cut u [10]).2.1 = B at *
  have f1 : findV i u [10] = ((i + A.length : Nat) : Int) := by unfold findV; rw [i1, if_neg (by omega)]; omega
  show Ev (fun k => if findV i u [10] < 0 then _ else _) _
  rw [f1]
  clear f1 i1
  refine ev_no (by omega) ?_
  have hlen := congrArg List.length t1
  simp only [List.length_append, List.length_cons, List.length_nil] at hlen
  have hwl : w.data.toList.length = w.size := qbr_ w
  have hAl : i + A.length ≤ 5000000000 := by omega
  have hiw : i + (w.size + 1) ≤ 5000000000 := by omega
  have e1 := w_sub i A.length hAl
  have e2 := w_one w.size (by omega)
  have e3 := w_add i (w.size + 1) hiw
  have e4 := w_one (i + A.length) hAl
  rw [e1, e2]
  simp only [e3, e4]
  clear e1 e2 e3 e4
  refine qr_ (fun g => no (fun e => ?_)) (fun g => ?_)
  ·have := congrArg List.length e.2
   rw [List.length_take, List.length_append, hwl] at this
   simp only [List.length_cons, List.length_nil] at this
   omega
  have b0 : (0 : Int) ≤ (i : Int) := Int.natCast_nonneg i
  have b1 : (i : Int) ≤ ((i + (w.size + 1) : Nat) : Int) := by omega
  have b2 : ((i + (w.size + 1) : Nat) : Int) ≤ (s.size : Int) := by omega
  have b3 : w.size + 1 ≤ 9223372036854775807 := by omega
  have b4 : (0 : Int) ≤ ((i + (w.size + 1) : Nat) : Int) := Int.natCast_nonneg _
  have b5 : ((i + (w.size + 1) : Nat) : Int) ≤ ((i + A.length : Nat) : Int) := by omega
  have b6 : ((i + A.length : Nat) : Int) ≤ (s.size : Int) := by omega
  have b7 : i + A.length + 1 = s.size - B.length := by omega
  refine qav_ b0 (qav_ b1 (qav_ b2 (qav_ b3 ?_)))
  have x1 : (s.extract i (i + (w.size + 1))).toList = A.take (w.size + 1) := by
   rw [ByteArray.toList_eq, qer_, hu, t1, List.append_assoc, List.take_append_of_le_length (by omega)]
   congr 1; omega
  have x2 : (w ++ (⟨#[32]⟩ : ByteArray)).toList = w.data.toList ++ [32] := by rw [ByteArray.toList_eq, qdr_]
  have x3 : s.extract (i + (w.size + 1)) (i + A.length) = mk (A.drop (w.size + 1)) := by
   rw [ext_mk, ← List.drop_drop, hu, t1, List.append_assoc, List.drop_append_of_le_length (by omega)]
   congr 1
   exact qga_ _ _ _ (by rw [List.length_drop]; omega)
  simp only [Int.toNat_natCast, x1, x2, x3]
  have hpl : (w.data.toList ++ [32]).length = w.size + 1 := by rw [List.length_append, hwl]; rfl
  refine qr_ (fun g2 => ?_) (fun g2 => no (fun e => g2 (by rw [← hpl]; exact e.2)))
  refine qav_ b4 (qav_ b5 (qav_ b6 ?_))
  refine ev_eq (Ev.now _) ?_
  unfold lineR lineF
  rw [hu, hA, hB, hpl, if_pos ⟨h1, g2⟩]
  show _ = (mk _, ((s.size - B.length : Nat) : Int), true)
  rw [b7]
theorem qeq_ (s : ByteArray) : (qbb_ s).2.2.2.2 = 0 ∨ (qbb_ s).2.2.2.2 = 1 ∨ (qbb_ s).2.2.2.2 = 2 := by
 unfold qbb_ finW
 repeat' split
 all_goals simp
theorem id_ev (s : ByteArray) (e : Int) (p : ByteArray) (hs : s.size < 4294967281) : Ev (fun k => qbf_.f k s e p) (mk (lineF s.data.toList p.data.toList).1, mk (lineF s.data.toList p.data.toList).2.1, if (lineF s.data.toList p.data.toList).2.2 = true ∧ idOk (mk (lineF s.data.toList p.data.toList).1) = true then e else 2) := by
 unfold qbf_.f
 rw [qfn_ s e p hs]
 simp only [Option.bind_some]
 generalize lineF s.data.toList p.data.toList = L
 refine Ev.bind (qgk_ _) (qr_ (fun g => ev_eq (Ev.now _) ?_) (fun g => ?_))
 ·by_cases h : L.2.2 = true
  ·rw [if_pos h, if_pos ⟨h, g⟩]
  ·rw [if_neg h, if_neg (fun q => h q.1)]
 ·rw [qfo_]
  simp only [Option.bind_some]
  rw [if_neg (fun q => g q.2)]
  exact Ev.now _
def errW2 (e c : Int) : Int := if c = 0 then e else if e = 0 then c else if c = 2 then 2 else e
theorem who_ev (s : ByteArray) (e : Int) (p : ByteArray) (hs : s.size ≤ 4294967000) : Ev (fun k => qay_.f k s e p)
  ((qbb_ (mk (lineF s.data.toList p.data.toList).1)).1, (qbb_ (mk (lineF s.data.toList p.data.toList).1)).2.1, (qbb_ (mk (lineF s.data.toList p.data.toList).1)).2.2.1, (qbb_ (mk (lineF s.data.toList p.data.toList).1)).2.2.2.1, mk (lineF s.data.toList p.data.toList).2.1,
   errW2 (if (lineF s.data.toList p.data.toList).2.2 = true then e else 2) (qbb_ (mk (lineF s.data.toList p.data.toList).1)).2.2.2.2) := by
 have hl := (qde_ s.data.toList p.data.toList).1
 rw [qbr_] at hl
 unfold qay_.f
 rw [qfn_ s e p (by omega)]
 simp only [Option.bind_some]
 generalize lineF s.data.toList p.data.toList = L at *
 refine Ev.bind (ParseWho_ev _ (by rw [qbk_]; omega)) ?_
 generalize qbb_ (mk L.1) = W
 generalize (if L.2.2 = true then e else 2) = f
 refine qr_ (fun g => ev_eq (Ev.now _) ?_) (fun g => ?_)
 ·unfold errW2; rw [if_pos g]
 ·unfold errW2; rw [if_neg g]
  unfold qbg_.f
  by_cases h : f = 0
  ·rw [if_pos h, if_pos h]; exact Ev.now _
  ·rw [if_neg h, if_neg h]
   by_cases h2 : W.2.2.2.2 = 2
   ·rw [if_pos h2, if_pos h2, h2]; exact Ev.now _
   ·rw [if_neg h2, if_neg h2]; exact Ev.now _
def tL1 (s : ByteArray) := lineF s.data.toList [111, 98, 106, 101, 99, 116, 32]
def tL2 (s : ByteArray) := lineF (tL1 s).2.1 [116, 121, 112, 101, 32]
def tL3 (s : ByteArray) := lineF (tL2 s).2.1 [116, 97, 103, 32]
def tL4 (s : ByteArray) := lineF (tL3 s).2.1 [116, 97, 103, 103, 101, 114, 32]
def tL5 (s : ByteArray) := lineF (tL4 s).2.1 []
def tWho (s : ByteArray) := qbb_ (mk (tL4 s).1)
def tKind (s : ByteArray) : Int := kindF (mk (tL2 s).1) 4 0
def tGood (s : ByteArray) : Prop := (tL1 s).2.2 = true ∧ idOk (mk (tL1 s).1) = true ∧ (tL2 s).2.2 = true ∧ tKind s ≠ 0 ∧ (tL3 s).2.2 = true ∧ (tL4 s).2.2 = true ∧ (tWho s).2.2.2.2 ≠ 2 ∧ (tL5 s).2.2 = true ∧ (tL5 s).1 = []
instance (s : ByteArray) : Decidable (tGood s) := by unfold tGood; infer_instance
abbrev TagR := ByteArray × Int × ByteArray × ByteArray × ByteArray × Int × Int × ByteArray × Int
def noTag (c : Int) : TagR := (⟨#[]⟩, 0, ⟨#[]⟩, ⟨#[]⟩, ⟨#[]⟩, 0, 0, ⟨#[]⟩, c)
def tCheck (s : ByteArray) : Int := qcz_ (mk (tL1 s).1) (tKind s) (mk (tL3 s).1) (tWho s).1 (tWho s).2.1 (tWho s).2.2.1 (tWho s).2.2.2.1 (mk (tL5 s).2.1)
def qdj_ (s : ByteArray) : TagR :=
 if tGood s then (if (tWho s).2.2.2.2 = 1 then noTag 1 else if tCheck s = 0 then (mk (tL1 s).1, tKind s, mk (tL3 s).1, (tWho s).1, (tWho s).2.1, (tWho s).2.2.1, (tWho s).2.2.2.1, mk (tL5 s).2.1, 0) else noTag (tCheck s)) else noTag 2
theorem who_len (s : ByteArray) : (qbb_ s).1.size ≤ s.size ∧ (qbb_ s).2.1.size ≤ s.size := by
 obtain ⟨l1, l2, l3⟩ := c_len s
 unfold qbb_ finW
 repeat' split
 all_goals (try simp only [qbk_]); (try constructor) <;> (first | omega | exact Nat.zero_le _)
theorem t_len (s : ByteArray) : (tL1 s).1.length ≤ s.size ∧ (tL1 s).2.1.length ≤ s.size ∧ (tL2 s).1.length ≤ s.size ∧ (tL2 s).2.1.length ≤ s.size ∧ (tL3 s).1.length ≤ s.size ∧ (tL3 s).2.1.length ≤ s.size ∧ (tL4 s).1.length ≤ s.size ∧ (tL4 s).2.1.length ≤ s.size ∧ (tL5 s).1.length ≤ s.size ∧ (tL5 s).2.1.length ≤ s.size := by
 have h1 := qde_ s.data.toList [111, 98, 106, 101, 99, 116, 32]
 have h2 := qde_ (tL1 s).2.1 [116, 121, 112, 101, 32]
 have h3 := qde_ (tL2 s).2.1 [116, 97, 103, 32]
 have h4 := qde_ (tL3 s).2.1 [116, 97, 103, 103, 101, 114, 32]
 have h5 := qde_ (tL4 s).2.1 []
 rw [qbr_] at h1
 change (tL1 s).1.length ≤ _ ∧ (tL1 s).2.1.length ≤ _ at h1
 change (tL2 s).1.length ≤ _ ∧ (tL2 s).2.1.length ≤ _ at h2
 change (tL3 s).1.length ≤ _ ∧ (tL3 s).2.1.length ≤ _ at h3
 change (tL4 s).1.length ≤ _ ∧ (tL4 s).2.1.length ≤ _ at h4
 change (tL5 s).1.length ≤ _ ∧ (tL5 s).2.1.length ≤ _ at h5
 omega
theorem tag_j1 (s : ByteArray) (hs : s.size ≤ 4294967000) (e : Int) (x : ByteArray) (he : e = if tGood s then (tWho s).2.2.2.2 else 2) : Ev (fun k => qu_.j1 k (mk (tL5 s).2.1) e (mk (tL1 s).1) (tKind s) (mk (tL3 s).1) (tWho s).1 (tWho s).2.1 (tWho s).2.2.1 (tWho s).2.2.2.1 x) (qdj_ s) := by
 obtain ⟨l1, l2, l3, l4, l5, l6, l7, l8, l9, l10⟩ := t_len s
 have hw := who_len (mk (tL4 s).1)
 rw [qbk_] at hw
 change (tWho s).1.size ≤ _ ∧ (tWho s).2.1.size ≤ _ at hw
 refine Ev.step (f := ?_) (fun k => by rw [qu_.j1]) ?_
 unfold qdj_
 by_cases hg : tGood s
 ·rw [if_pos hg] at he ⊢
  rcases qeq_ (mk (tL4 s).1) with h | h | h
  ·have h' : (tWho s).2.2.2.2 = 0 := h
   rw [h'] at he
   rw [h', if_neg (by decide)]
   refine qav_ he (Ev.bind (CheckTag_ev _ _ _ _ _ _ _ _ (by rw [qbk_]; omega) (by omega) (by omega) (by rw [qbk_]; omega)) ?_)
   refine qr_ (fun g => ?_) (fun g => ?_)
   ·rw [if_pos (show tCheck s = 0 from g)]; exact Ev.now _
   ·rw [if_neg (show ¬ tCheck s = 0 from g)]; exact Ev.now _
  ·have h' : (tWho s).2.2.2.2 = 1 := h
   rw [h'] at he
   rw [h', if_pos rfl]
   refine ev_no (by omega) ?_
   rw [he]; exact Ev.now _
  ·exact absurd h hg.2.2.2.2.2.2.1
 ·rw [if_neg hg] at he ⊢
  refine ev_no (by omega) ?_
  rw [he]; exact Ev.now _
theorem tag_j0 (s : ByteArray) (hs : s.size ≤ 4294967000) (e : Int) (x y z w : ByteArray) (a b : Int) (he : e = if (tL1 s).2.2 = true ∧ idOk (mk (tL1 s).1) = true ∧ (tL2 s).2.2 = true ∧ tKind s ≠ 0 then 0 else 2) : Ev (fun k => qu_.j0 k (mk (tL2 s).2.1) e (mk (tL1 s).1) (tKind s) x y z a b w) (qdj_ s) := by
 obtain ⟨l1, l2, l3, l4, l5, l6, l7, l8, l9, l10⟩ := t_len s
 refine Ev.step (f := ?_) (fun k => by rw [qu_.j0]) ?_
 rw [qfn_ _ _ _ (by rw [qbk_]; omega)]
 simp only [Option.bind_some]
 rw [qbe_]
 change Ev (fun k => (qay_.f k (mk (tL3 s).2.1) (if (tL3 s).2.2 = true then e else 2) ⟨#[116, 97, 103, 103, 101, 114, 32]⟩).bind _) _
 refine Ev.bind (who_ev _ _ _ (by rw [qbk_]; omega)) ?_
 rw [qbe_]
 change Ev (fun k => (qba_.f (mk (tL4 s).2.1) (errW2 (if (tL4 s).2.2 = true then (if (tL3 s).2.2 = true then e else 2) else 2) (tWho s).2.2.2.2) ⟨#[]⟩).bind _) _
 rw [qfn_ _ _ _ (by rw [qbk_]; omega)]
 simp only [Option.bind_some]
 rw [qbe_]
 change Ev (fun k => if (mk (tL5 s).1).toList = ([] : List UInt8) then qu_.j1 k (mk (tL5 s).2.1) (if (tL5 s).2.2 = true then errW2 (if (tL4 s).2.2 = true then (if (tL3 s).2.2 = true then e else 2) else 2) (tWho s).2.2.2.2 else 2) (mk (tL1 s).1) (tKind s) (mk (tL3 s).1) (tWho s).1 (tWho s).2.1 (tWho s).2.2.1 (tWho s).2.2.2.1 w else _) _
 have hwc := qeq_ (mk (tL4 s).1)
 change (tWho s).2.2.2.2 = 0 ∨ (tWho s).2.2.2.2 = 1 ∨ (tWho s).2.2.2.2 = 2 at hwc
 refine qr_ (fun g => ?_) (fun g => ?_)
 ·rw [qge_] at g
  refine tag_j1 s hs _ _ ?_
  by_cases hg : tGood s
  ·rw [if_pos hg]
   obtain ⟨g1, g2, g3, g4, g5, g6, g7, g8, g9⟩ := hg
   rw [if_pos g8, if_pos g6, if_pos g5, he, if_pos ⟨g1, g2, g3, g4⟩]
   unfold errW2
   rcases hwc with h | h | h
   ·rw [h]; rfl
   ·rw [h]; rfl
   ·exact absurd h g7
  ·rw [if_neg hg]
   by_cases g8 : (tL5 s).2.2 = true
   ·rw [if_pos g8]
    have : (if (tL4 s).2.2 = true then (if (tL3 s).2.2 = true then e else 2) else 2) = 0 → (tWho s).2.2.2.2 = 2 := fun h0 => by
     rcases hwc with h | h | h
     ·exfalso
      refine hg ?_
      by_cases a4 : (tL4 s).2.2 = true
      ·rw [if_pos a4] at h0
       by_cases a3 : (tL3 s).2.2 = true
       ·rw [if_pos a3, he] at h0
        by_cases a1 : (tL1 s).2.2 = true ∧ idOk (mk (tL1 s).1) = true ∧ (tL2 s).2.2 = true ∧ tKind s ≠ 0
        ·exact ⟨a1.1, a1.2.1, a1.2.2.1, a1.2.2.2, a3, a4, by rw [h]; decide, g8, g⟩
        ·rw [if_neg a1] at h0; cases h0
       ·rw [if_neg a3] at h0; cases h0
      ·rw [if_neg a4] at h0; cases h0
     ·exfalso
      refine hg ?_
      by_cases a4 : (tL4 s).2.2 = true
      ·rw [if_pos a4] at h0
       by_cases a3 : (tL3 s).2.2 = true
       ·rw [if_pos a3, he] at h0
        by_cases a1 : (tL1 s).2.2 = true ∧ idOk (mk (tL1 s).1) = true ∧ (tL2 s).2.2 = true ∧ tKind s ≠ 0
        ·exact ⟨a1.1, a1.2.1, a1.2.2.1, a1.2.2.2, a3, a4, by rw [h]; decide, g8, g⟩
        ·rw [if_neg a1] at h0; cases h0
       ·rw [if_neg a3] at h0; cases h0
      ·rw [if_neg a4] at h0; cases h0
     ·exact h
    have two : (if (tL4 s).2.2 = true then (if (tL3 s).2.2 = true then e else 2) else 2) = 0 ∨ (if (tL4 s).2.2 = true then (if (tL3 s).2.2 = true then e else 2) else 2) = 2 := by
     rw [he]
     repeat' split
     all_goals simp
    generalize (if (tL4 s).2.2 = true then (if (tL3 s).2.2 = true then e else 2) else 2) = f at *
    unfold errW2
    rcases two with h | h
    ·rw [this h, h]; rfl
    ·subst h
     rcases hwc with h | h | h <;> rw [h] <;> rfl
   ·rw [if_neg g8]
 ·rw [qfo_]
  simp only [Option.bind_some]
  refine tag_j1 s hs 2 _ ?_
  rw [if_neg (fun hg => g (by rw [qge_]; exact hg.2.2.2.2.2.2.2.2))]
theorem ParseTag_ev (s : ByteArray) (hs : s.size ≤ 4294967000) : Ev (fun k => qu_.f k s) (qdj_ s) := by
 obtain ⟨l1, l2, l3, l4, l5, l6, l7, l8, l9, l10⟩ := t_len s
 refine Ev.bind (id_ev s 0 _ (by omega)) ?_
 change Ev (fun k => (qba_.f (mk (tL1 s).2.1) (if (tL1 s).2.2 = true ∧ idOk (mk (tL1 s).1) = true then 0 else 2) ⟨#[116, 121, 112, 101, 32]⟩).bind _) _
 rw [qfn_ _ _ _ (by rw [qbk_]; omega)]
 simp only [Option.bind_some]
 rw [qbe_]
 change Ev (fun k => (qet_.f (mk (tL2 s).1)).bind _) _
 unfold qet_.f
 simp only [Option.bind_some]
 refine qr_ (fun g => ?_) (fun g => ?_)
 ·rw [qfo_]
  simp only [Option.bind_some]
  exact tag_j0 s hs 2 _ _ _ _ _ _ (by rw [if_neg (fun h => h.2.2.2 g)])
 ·refine tag_j0 s hs _ _ _ _ _ _ _ ?_
  change (if (tL2 s).2.2 = true then (if (tL1 s).2.2 = true ∧ idOk (mk (tL1 s).1) = true then (0 : Int) else 2) else 2) = if (tL1 s).2.2 = true ∧ idOk (mk (tL1 s).1) = true ∧ (tL2 s).2.2 = true ∧ tKind s ≠ 0 then 0 else 2
  have g' : tKind s ≠ 0 := g
  by_cases a1 : (tL1 s).2.2 = true <;> by_cases a2 : idOk (mk (tL1 s).1) = true <;> by_cases b : (tL2 s).2.2 = true <;> simp [a1, a2, b, g']
end Go.Proofs.YtbhfbbfjdklfgaaGreatDoor.Q

