/- The law CommitTags holds: for every input it returns true, and each argument reads afterwards as it read before. -/
import Derived.Test.YtbhfbbfjdklfgaaGreatDoorMYCommitTags1
import Derived.Test.YtbhfbbfjdklfgaaGreatDoorMCommitTags1
import Derived.Test.YtbhfbbfjdklfgaaGreatDoorMCommitTags2
import Derived.Test.YtbhfbbfjdklfgaaGreatDoorMCommitTags3
import Derived.Laws.Cover1
import Derived.Maps.OwnOps
import Derived.Maps.OwnSet
import Derived.Maps.Views
set_option linter.unusedVariables false
set_option linter.unusedSimpArgs false
namespace Go.Proofs.YtbhfbbfjdklfgaaGreatDoor.Q
open Go.RowKit Go.Proofs.YtbhfbbfjdklfgaaGreatDoorW.PrintWords Go.Proofs.YtbhfbbfjdklfgaaGreatDoorW.PrintLast Go.Proofs.YtbhfbbfjdklfgaaGreatDoorW.PrintMore
attribute [local go_sem] max2_int min2_int max_two min_two max_three min_three max_four min_four   -- for this text's walks alone

def ident_Hex.l0 : Nat → ByteArray → List Int → Int → Int → Option (ByteArray)
 | 0, _, _, _, _ => none
 | k + 1, x0, x3, x10, x11 => if x11 < x10 then (if 0 ≤ x11 then (if x11 < (x0.size : Int) then (if 0 ≤ ((bt x0 x11) / 16) then (if ((bt x0 x11) / 16) < 16 then (if 0 ≤ (Go.bits .and .u8 (bt x0 x11) 15) then (if (Go.bits .and .u8 (bt x0 x11) 15) < 16 then ((some (([bt (⟨#[48, 49, 50, 51, 52, 53, 54, 55, 56, 57, 97, 98, 99, 100, 101, 102]⟩ : ByteArray) ((bt x0 x11) / 16), bt (⟨#[48, 49, 50, 51, 52, 53, 54, 55, 56, 57, 97, 98, 99, 100, 101, 102]⟩ : ByteArray) (Go.bits .and .u8 (bt x0 x11) 15)] : List Int) : List Int)).bind fun y184 => (if x3.length + y184.length < 140737488355328 then (ident_Hex.l0 k x0 (x3 ++ y184) x10 (wrap64 (x11 + 1))) else (none))) else (none)) else (none)) else (none)) else (none)) else (none)) else (none)) else (some (strOfNums x3))
def ident_Hex.f (k : Nat) (a0 : ByteArray) : Option (ByteArray) := if 0 ≤ (wrap64 (2 * (a0.size : Int))) then (if (wrap64 (2 * (a0.size : Int)) : Int).toNat ≤ 281474976710656 then (ident_Hex.l0 k a0 (([] : List Int)) (a0.size : Int) 0) else (none)) else (none)
theorem ident_Hex.mono_l : ∀ k, (∀ y0 y1 y2 y3, LeO (ident_Hex.l0 k y0 y1 y2 y3) (ident_Hex.l0 (k + 1) y0 y1 y2 y3))
 | 0 => fun _ _ _ _ r h => by simp [ident_Hex.l0] at h
 | k + 1 => by
  have ih0 := ident_Hex.mono_l k
  ·intro y0 y1 y2 y3
   unfold ident_Hex.l0
   have m0_ := @ih0
   exact mz_
theorem ident_Hex.mono : ∀ a0 k, LeO (ident_Hex.f k a0) (ident_Hex.f (k + 1) a0) := by
 intro a0 k
 have ih0 := ident_Hex.mono_l k
 unfold ident_Hex.f
 have m0_ := @ih0
 exact mz_
def ident_Hex.T5 : Bool × List (List Nat × List Nat) := (true, [([], []), ([], []), ([], []), ([1, 2], [1, 2]), ([3], [3]), ([4], [4]), ([], []), ([], []), ([6, 7], [6, 7]), ([8], [8]), ([9], [9]), ([5, 10], [5, 10]), ([0, 11], [0, 11]), ([12, 12, 0, 1, 2, 3, 4, 5, 6, 7, 8, 9, 10, 11, 12], [0, 12])])
def ident_Hex.B5 : List Nat := [0, 0, 0, 6, 14, 30, 0, 0, 192, 448, 960, 2046, 4095, 8191]
theorem ident_Hex.tab5 : rtab .any (opsOf Tryz.f149 5) = ident_Hex.T5 := by kernel_rfl
theorem ident_Hex.bits5 : waitsOk ident_Hex.T5.2 ident_Hex.B5 = true := by kernel_rfl
set_option maxHeartbeats 8000000 in
set_option maxRecDepth 100000 in
theorem ident_Hex.calls (k : Nat) (a0 : ByteArray) (r : ByteArray) (w : World) (h : ident_Hex.f k a0 = some r) :
  Calls Tryz.prog 149 #[.string a0] w fun e w' => e = .returned (.string r) ∧ Below w.heap.size w w' := by
 have HB := Aside0.mk (Below.refl w.heap.size w)
 have H : (if 0 ≤ (wrap64 (2 * (a0.size : Int))) then (if (wrap64 (2 * (a0.size : Int)) : Int).toNat ≤ 281474976710656 then (ident_Hex.l0 k a0 (([] : List Int)) (a0.size : Int) 0) else (none)) else (none)) = some r := h
 clear h
 obtain ⟨ji2, hji2⟩ : ∃ j_ : Int, (wrap64 (2 * (a0.size : Int))) = j_ := ⟨_, rfl⟩
 replace H : (if 0 ≤ (ji2) then (if (ji2 : Int).toNat ≤ 281474976710656 then (ident_Hex.l0 k a0 (([] : List Int)) (a0.size : Int) 0) else (none)) else (none)) = some r := by first | (rw [hji2] at H; exact H) | (simp only [hji2] at H ⊢; exact H)
 have hji2w : (IntKind.i64.wrap (2 * (a0.size : Int))) = ji2 := (i64_w _).trans hji2
 by_cases c3 : 0 ≤ (ji2)
 ·rw [if_pos c3] at H
  have c3b0 := eq_true c3
  have c3b1 := decide_eq_true c3
  clear c3
  by_cases c4 : (ji2 : Int).toNat ≤ 281474976710656
  ·rw [if_pos c4] at H
   have c4b0 := eq_true c4
   have c4b1 := decide_eq_true c4
   clear c4
   obtain ⟨y181, hy181⟩ : ∃ y_ : List Int, y_ = (([] : List Int)) := ⟨_, rfl⟩
   replace H : (ident_Hex.l0 k a0 y181 (a0.size : Int) 0) = some r := by first | (rw [hy181]; with_reducible exact H) | (have H2_ := (Option.bind_some _ _).symm.trans H; rw [hy181]; with_reducible exact H2_) | (have H2_ := (Option.bind_some _ _).symm.trans H; with_reducible exact H2_) | with_reducible exact H | (rw [hy181]; exact H) | exact H
   have Ny181 := Aside0.mk hy181
   clear hy181
   have H' := Aside0.mk H
   clear H
   go_enter Tryz.func149, Tryz.ntmps149
   go_wp2_with (first | ((with_reducible refine gate_dst (N := 8) rfl ?_); refine R_makecap (Kd.int .u8) _ 5 rfl (N := 8) rfl 103 _ _ rfl ji2 rfl rfl Tryz.underlying103 (.int .u8 0) 1 info5 rfl (by decide) (ok := fun _ => True) trivial (of_decide_eq_true z0_) (Nat.le_trans (Nat.mul_le_mul_right _ (of_decide_eq_true z0_ : ji2.toNat ≤ 281474976710656)) (by omega)) (Below.refl _ _) (Nat.le_refl _) ?_; intro v182 w5 ho6 hb hg_ hnew_; clear hg_ hnew_; (first | rw [← Ny181.out] at ho6 | (simp only [Int.reduceToNat] at ho6; rw [← Ny181.out] at ho6)); have HO183 := Aside0.mk (Kd.R_lower ho6 (below_size (hb_ HB.out))); replace HB := Aside0.mk (below_step (hb_ HB.out) hb); clear hb ho6))
   go_loopg [3, 11] k (fun kq v3 v11 w' => ∃ (x3_1 : List Int) (x11_1 : Int), v11 = .int .i64 x11_1 ∧ Aside0 (ident_Hex.l0 kq a0 x3_1 (a0.size : Int) x11_1 = some r) ∧ Aside0 (kq ≤ k) ∧ Aside0 (Kd.R (Kd.int .u8) 5 w' w.heap.size (fun _ => True) v3 x3_1) ∧ Aside0 (Below w.heap.size w w'))
   case atStart => exact ⟨(y181), (0), z1_, H', ⟨Nat.le_refl _⟩, ⟨by (with_reducible repeat (first | apply Kd.R_alloc | apply Kd.R_drewN | apply Kd.R_drew)); exact HO183.out⟩, ⟨hb_ HB.out⟩⟩
   case round =>
    clear H'
    try clear c1
    try clear p2
    try clear c3
    try clear c3b0
    try clear c3b1
    try clear c4
    try clear c4b0
    try clear c4b1
    try clear p6
    obtain ⟨x3_1, x11_1, rfl, HA, HK1, HO_3, HB⟩ := hrel
    cases gk with
    | zero => exact absurd HA.out (by simp [ident_Hex.l0])
    | succ k1 =>
     have H := HA.out
     clear HA
     simp only [ident_Hex.l0] at H
     by_cases c7 : x11_1 < (a0.size : Int)
     ·rw [if_pos c7] at H
      have c7b0 := decide_eq_true c7
      clear c7
      by_cases c8 : 0 ≤ x11_1
      ·rw [if_pos c8] at H
       have c8b0 := decide_eq_true c8
       clear c8
       by_cases c9 : x11_1 < (a0.size : Int)
       ·rw [if_pos c9] at H
        have c9b0 := decide_eq_true c9
        clear c9
        obtain ⟨ji11, hji11⟩ : ∃ j_ : Int, ((bt a0 x11_1) / 16) = j_ := ⟨_, rfl⟩
        replace H : (if 0 ≤ (ji11) then (if (ji11) < 16 then (if 0 ≤ (Go.bits .and .u8 (bt a0 x11_1) 15) then (if (Go.bits .and .u8 (bt a0 x11_1) 15) < 16 then ((some (([bt (⟨#[48, 49, 50, 51, 52, 53, 54, 55, 56, 57, 97, 98, 99, 100, 101, 102]⟩ : ByteArray) (ji11), bt (⟨#[48, 49, 50, 51, 52, 53, 54, 55, 56, 57, 97, 98, 99, 100, 101, 102]⟩ : ByteArray) (Go.bits .and .u8 (bt a0 x11_1) 15)] : List Int) : List Int)).bind fun y184 => (if x3_1.length + y184.length < 140737488355328 then (ident_Hex.l0 k1 a0 (x3_1 ++ y184) (a0.size : Int) (wrap64 (x11_1 + 1))) else (none))) else (none)) else (none)) else (none)) else (none)) = some r := by first | (rw [hji11] at H; exact H) | (simp only [hji11] at H ⊢; exact H)
        by_cases c12 : 0 ≤ (ji11)
        ·rw [if_pos c12] at H
         have c12b0 := decide_eq_true c12
         clear c12
         by_cases c13 : (ji11) < 16
         ·rw [if_pos c13] at H
          have c13b0 := decide_eq_true c13
          clear c13
          by_cases c16 : 0 ≤ (Go.bits .and .u8 (bt a0 x11_1) 15)
          ·rw [if_pos c16] at H
           have c16b0 := decide_eq_true c16
           clear c16
           by_cases c17 : (Go.bits .and .u8 (bt a0 x11_1) 15) < 16
           ·rw [if_pos c17] at H
            have c17b0 := decide_eq_true c17
            clear c17
            obtain ⟨y184, hy184⟩ : ∃ y_ : List Int, y_ = (([bt (⟨#[48, 49, 50, 51, 52, 53, 54, 55, 56, 57, 97, 98, 99, 100, 101, 102]⟩ : ByteArray) (ji11), bt (⟨#[48, 49, 50, 51, 52, 53, 54, 55, 56, 57, 97, 98, 99, 100, 101, 102]⟩ : ByteArray) (Go.bits .and .u8 (bt a0 x11_1) 15)] : List Int)) := ⟨_, rfl⟩
            replace H : (if x3_1.length + y184.length < 140737488355328 then (ident_Hex.l0 k1 a0 (x3_1 ++ y184) (a0.size : Int) (wrap64 (x11_1 + 1))) else (none)) = some r := by first | (rw [hy184]; with_reducible exact H) | (have H2_ := (Option.bind_some _ _).symm.trans H; rw [hy184]; with_reducible exact H2_) | (have H2_ := (Option.bind_some _ _).symm.trans H; with_reducible exact H2_) | with_reducible exact H | (rw [hy184]; exact H) | exact H
            have Ny184 := Aside0.mk hy184
            clear hy184
            by_cases c19 : x3_1.length + y184.length < 140737488355328
            ·rw [if_pos c19] at H
             have LMc19 := Aside0.mk c19
             clear c19
             obtain ⟨y187, hy187⟩ : ∃ y_ : List Int, y_ = (x3_1 ++ y184) := ⟨_, rfl⟩
             replace H : (ident_Hex.l0 k1 a0 y187 (a0.size : Int) (wrap64 (x11_1 + 1))) = some r := by first | (rw [hy187]; with_reducible exact H) | (have H2_ := (Option.bind_some _ _).symm.trans H; rw [hy187]; with_reducible exact H2_) | (have H2_ := (Option.bind_some _ _).symm.trans H; with_reducible exact H2_) | with_reducible exact H | (rw [hy187]; exact H) | exact H
             have Ny187 := Aside0.mk hy187
             clear hy187
             have H' := Aside0.mk H
             clear H
             try go_wp2
             replace HO_3 := Aside0.mk (Kd.R_drew HO_3.out)
             replace HB := Aside0.mk (below_drew1 HB.out)
             have p10 : 0 ≤ (x11_1 : Int) := of_decide_eq_true z0_
             have q10 : x11_1 < (a0.size : Int) := of_decide_eq_true z0_
             have hx10 := bt_at a0 x11_1
             replace p10 := eq_true p10
             replace q10 := eq_true q10
             have p14 : 0 ≤ ((ji11) : Int) := of_decide_eq_true z0_
             have q14 : (ji11) < (16 : Int) := of_decide_eq_true z0_
             have hx14 := bt_at (⟨#[48, 49, 50, 51, 52, 53, 54, 55, 56, 57, 97, 98, 99, 100, 101, 102]⟩ : ByteArray) (ji11)
             replace p14 := eq_true p14
             replace q14 := eq_true q14
             have p15 : 0 ≤ (x11_1 : Int) := of_decide_eq_true z0_
             have q15 : x11_1 < (a0.size : Int) := of_decide_eq_true z0_
             have hx15 := bt_at a0 x11_1
             replace p15 := eq_true p15
             replace q15 := eq_true q15
             have p18 : 0 ≤ ((Go.bits .and .u8 (bt a0 x11_1) 15) : Int) := of_decide_eq_true z0_
             have q18 : (Go.bits .and .u8 (bt a0 x11_1) 15) < (16 : Int) := of_decide_eq_true z0_
             have hx18 := bt_at (⟨#[48, 49, 50, 51, 52, 53, 54, 55, 56, 57, 97, 98, 99, 100, 101, 102]⟩ : ByteArray) (Go.bits .and .u8 (bt a0 x11_1) 15)
             replace p18 := eq_true p18
             replace q18 := eq_true q18
             refine start_ (n := 14) (S := fun w' => True) (ds := []) (bs 14 0) (by kernel_rfl) rfl rfl trivial (fun hHeld => ?_); refine with_tabW ident_Hex.tab5 ident_Hex.bits5 (fun HT_ HW_ => ?_)
             generalize wr.drew = w20 at HO_3 HB hHeld ⊢
             refine pu_ (i := 0) (N := some 14) (bs 14 1) rfl rfl ?_
             refine pu_ (i := 1) (N := some 15) (bs 14 3) rfl rfl ?_
             refine pu_ (i := 2) (N := some 16) (bs 14 7) rfl rfl ?_
             refine pu_ (i := 6) (N := some 20) (bs 14 71) rfl rfl ?_
             refine pu_ (i := 7) (N := some 21) (bs 14 199) rfl rfl ?_
             refine tkW0_ (i := 3) (N := some 17) (bs 14 207) rfl rfl hHeld ?_
             refine pu_ (i := 4) (N := some 18) (bs 14 223) rfl rfl ?_
             refine tkW0_ (i := 5) (N := some 19) (bs 14 255) rfl rfl hHeld ?_
             refine tkW0_ (i := 8) (N := some 22) (bs 14 511) rfl rfl hHeld ?_
             refine pu_ (i := 9) (N := some 23) (bs 14 1023) rfl rfl ?_
             refine tkW0_ (i := 10) (N := some 24) (bs 14 2047) rfl rfl hHeld ?_
             refine one_ (i := 11) (N := some 25) (bs 14 4095) rfl rfl (one_of HT_.out (by kernel_rfl)) (by decide) (fun K hK => ?_)
             refine Kd.R_lit_step (Kd.int .u8) _ 5 ?hg (N := 25) ?hd (xs := ([bt (⟨#[48, 49, 50, 51, 52, 53, 54, 55, 56, 57, 97, 98, 99, 100, 101, 102]⟩ : ByteArray) (ji11), bt (⟨#[48, 49, 50, 51, 52, 53, 54, 55, 56, 57, 97, 98, 99, 100, 101, 102]⟩ : ByteArray) (Go.bits .and .u8 (bt a0 x11_1) 15)] : List Int)) (inner := [.int .u8 (bt (⟨#[48, 49, 50, 51, 52, 53, 54, 55, 56, 57, 97, 98, 99, 100, 101, 102]⟩ : ByteArray) (ji11)), .int .u8 (bt (⟨#[48, 49, 50, 51, 52, 53, 54, 55, 56, 57, 97, 98, 99, 100, 101, 102]⟩ : ByteArray) (Go.bits .and .u8 (bt a0 x11_1) 15))]) (ok := fun _ => True) (okp := fun _ => True) ?hr ?hp (fun _ hk => hk) trivial (Below.refl _ _) (Nat.le_refl _) (by simp) ?_; (case hd => rfl); (case hg => rfl); (case hr => first | (go_simp; done) | (go_simp; rfl)); (case hp => exact (Reps.one (show Kd.M (Kd.int .u8) _ _ _ (bt (⟨#[48, 49, 50, 51, 52, 53, 54, 55, 56, 57, 97, 98, 99, 100, 101, 102]⟩ : ByteArray) (ji11)) [.int .u8 (bt (⟨#[48, 49, 50, 51, 52, 53, 54, 55, 56, 57, 97, 98, 99, 100, 101, 102]⟩ : ByteArray) (ji11))] from rfl) (Reps.one (show Kd.M (Kd.int .u8) _ _ _ (bt (⟨#[48, 49, 50, 51, 52, 53, 54, 55, 56, 57, 97, 98, 99, 100, 101, 102]⟩ : ByteArray) (Go.bits .and .u8 (bt a0 x11_1) 15)) [.int .u8 (bt (⟨#[48, 49, 50, 51, 52, 53, 54, 55, 56, 57, 97, 98, 99, 100, 101, 102]⟩ : ByteArray) (Go.bits .and .u8 (bt a0 x11_1) 15))] from rfl) (Reps.none _ _))))
             intro v185 w21 ho22 hb hg_ hnew_
             clear hg_ hnew_
             (first | rw [← Ny184.out] at ho22 | (simp only [Int.reduceToNat] at ho22; rw [← Ny184.out] at ho22))
             have HO186 := Aside0.mk (Kd.R_lower (Kd.R_new' ho22 (Kd.R_lt (rk_ HO_3.out))) (below_size (hb_ HB.out)))
             replace HO_3 := Aside0.mk (Kd.R_elder' (rk_ HO_3.out) (Kd.R_base ho22) hb)
             replace HB := Aside0.mk (below_step (hb_ HB.out) hb)
             clear hb ho22
             obtain ⟨Ao24, co24, eo24⟩ := Kd.R_slice HO186.out
             (first | subst eo24 | (injection eo24 with f1_ f2_ f3_; have f4_ := f1_.symm; have f5_ := f3_.symm; clear f1_ f2_ f3_; subst f4_; subst f5_))
             refine hK.out _ _ trivial (fun hHeld => ?_)
             clear hK K
             refine norm_ (a' := ?_) ?_ ?_
             rotate_left
             ·show Act.put _ (some 25) _ = _
              simp only [Act.put, List.setIfInBounds_toArray, List.set_cons_zero, List.set_cons_succ, i64_w, i32_w]
              rfl
             refine one_ (i := 12) (N := some 26) (bs 14 8191) rfl rfl (one_of HT_.out (by kernel_rfl)) (by decide) (fun K hK => ?_)
             refine Kd.R_append_rows_step (Kd.int .u8) (w0 := w) w.heap.size (by rfl) (.tmp 14) (.tmp 25) 103 5 (.int .u8 0) 1 rfl Tryz.underlying103 info5 rfl (by decide) (by omega) u3 x3_1 y184 _ _ _ (fun k_ => some k_ ≠ (.slice Ao24 y184.length co24 : Value).ownBlock) (fun _ => False) rfl rfl ?aO ?aR (fun _ _ h => h) (fun _ h => h.elim) ?aF ?aB ?aS ?aL ?_
             (case aR => repeat (first | exact (Kd.R_reads' HO186.out).2.2 | (with_reducible refine Kd.C_alloc ?_ _) | (with_reducible refine Kd.C_drewN ?_ _) | (with_reducible refine Kd.C_drew ?_)))
             (case aB => exact (hb_ HB.out))
             (case aF => exact (fun k_ hk => Kd.fresh' (Kd.R_lt (rk_ HO186.out)) k_ hk))
             (case aO => exact (by (with_reducible repeat (first | apply Kd.R_alloc | apply Kd.R_drewN | apply Kd.R_drew)); exact Kd.R_mono HO_3.out (fun _ hk => hk.2)))
             (case aS => exact (below_size (hb_ HB.out)))
             (case aL => have := LMc19.out; omega)
             intro v188 w23 ho hb hg hat
             rw [← Ny187.out] at ho
             have n0_ := Aside0.mk (Kd.R_after (ok := (fun _ => True)) (rk_ HO186.out) hg hat)
             have n1_ := Aside0.mk (hb)
             have n2_ := Aside0.mk (ho)
             clear HO186
             clear HB
             clear HO_3
             have HO186 := n0_
             have HB := n1_
             have HO189 := n2_
             clear n0_ n1_ n2_
             clear ho hb hg hat
             refine hK.out _ _ trivial (fun hHeld => ?_)
             clear hK K
             refine norm_ (a' := ?_) ?_ ?_
             rotate_left
             ·show Act.put _ (some 26) _ = _
              simp only [Act.put, List.setIfInBounds_toArray, List.set_cons_zero, List.set_cons_succ, i64_w, i32_w]
              rfl
             refine pu_ (i := 13) (N := some 3) (bs 14 16383) rfl rfl ?_
             refine done_ (done_of HT_.out (by kernel_rfl)) ?_
             try go_wp2
             go_roundg k1
             case measure => have := HK1.out; omega
             case rel => exact ⟨(y187), (wrap64 (x11_1 + 1)), z1_, H', ⟨by have := HK1.out; omega⟩, ⟨by (with_reducible repeat (first | apply Kd.R_alloc | apply Kd.R_drewN | apply Kd.R_drew)); exact Kd.R_mono HO189.out (fun _ hk => trivial)⟩, ⟨hb_ HB.out⟩⟩
            ·rw [if_neg c19] at H
             exact absurd H (by simp)
           ·rw [if_neg c17] at H
            exact absurd H (by simp)
          ·rw [if_neg c16] at H
           exact absurd H (by simp)
         ·rw [if_neg c13] at H
          exact absurd H (by simp)
        ·rw [if_neg c12] at H
         exact absurd H (by simp)
       ·rw [if_neg c9] at H
        exact absurd H (by simp)
      ·rw [if_neg c8] at H
       exact absurd H (by simp)
     ·rw [if_neg c7] at H
      have c7b0 := decide_eq_false c7
      clear c7
      obtain rfl := Option.some.inj H
      have hcv25 := own_string (P := Tryz.prog) Tryz.underlying103 Tryz.underlying5 Tryz.underlying9 (Kd.own_of_R HO_3.out)
      go_wp2
      go_ret
      exact ⟨by first | rfl | (simp [errW_none, errW_some] <;> rfl) | (simp only [← hji2]; first | rfl | (simp [errW_none, errW_some] <;> rfl)) | (simp [*, errW_none, errW_some] <;> rfl) | (simp [ne_nil_bool]; done) | (simp [*, ne_nil_bool]; done), hb_ HB.out⟩
  ·rw [if_neg c4] at H
   exact absurd H (by simp)
 ·rw [if_neg c3] at H
  exact absurd H (by simp)


def graftageref02_Hex.T6 : Bool × List (List Nat × List Nat) := (true, [([], []), ([], []), ([], []), ([], []), ([2, 3], [2, 3]), ([4], [4]), ([1, 5], [1, 5]), ([], []), ([], []), ([], []), ([8, 9], [8, 9]), ([10], [10]), ([7, 11], [7, 11]), ([6, 12], [6, 12]), ([0, 13], [0, 13]), ([14, 14, 0, 1, 2, 3, 4, 5, 6, 7, 8, 9, 10, 11, 12, 13, 14], [0, 14])])
def graftageref02_Hex.B6 : List Nat := [0, 0, 0, 0, 12, 28, 62, 0, 0, 0, 768, 1792, 3968, 8190, 16383, 32767]
theorem graftageref02_Hex.tab6 : rtab .any (opsOf Tryz.f197 6) = graftageref02_Hex.T6 := by kernel_rfl
theorem graftageref02_Hex.bits6 : waitsOk graftageref02_Hex.T6.2 graftageref02_Hex.B6 = true := by kernel_rfl
end Go.Proofs.YtbhfbbfjdklfgaaGreatDoor.Q


/- Ids: digits, bytes and their digits; the program's and the reference's. -/
namespace Go.Proofs.YtbhfbbfjdklfgaaGreatDoor.Q
open Go.RowKit Go.Proofs.YtbhfbbfjdklfgaaGreatDoorW.PrintWords Go.Proofs.YtbhfbbfjdklfgaaGreatDoorW.PrintLast Go.Proofs.YtbhfbbfjdklfgaaGreatDoorW.PrintMore

def hexD : List UInt8 := [48, 49, 50, 51, 52, 53, 54, 55, 56, 57, 97, 98, 99, 100, 101, 102]
/-- A digit's value; -1. -/
def dv (b : Int) : Int := Lib.indexByte hexD b.toNat.toUInt8
theorem dv_table : ∀ n : Fin 256, graftageref02_Digit.f 2 (n.val : Int) = some (dv (n.val : Int)) ∧ -1 ≤ dv (n.val : Int) ∧ dv (n.val : Int) ≤ 15 := by decide +kernel
theorem bt_fin (s : ByteArray) (i : Int) : ∃ n : Fin 256, bt s i = (n.val : Int) := by
  obtain ⟨h0, h1⟩ := bt_range s i
  exact ⟨⟨(bt s i).toNat, by omega⟩, by simp; omega⟩
theorem value_eq (b : Int) : ident_value.f b = some (dv b) := rfl
theorem Digit_bt (s : ByteArray) (i : Int) (k : Nat) (hk : 2 ≤ k) : graftageref02_Digit.f k (bt s i) = some (dv (bt s i)) := by
  obtain ⟨n, hn⟩ := bt_fin s i
  rw [hn]
  exact at_rounds (fun k => graftageref02_Digit.mono _ k) hk (dv_table n).1
/-- Are all digits, from a place on? -/
def hexF (s : ByteArray) : Nat → Nat → Bool
  | 0, _ => true
  | d + 1, i => decide (0 ≤ dv (bt s i)) && hexF s d (i + 1)
theorem all_l0 (s : ByteArray) (hs : s.size ≤ 140737488351232) : ∀ (d k i : Nat), i + d = s.size → d < k → ident_all.l0 k s s.size i = some (hexF s d i) := by
  intro d
  induction d with
  | zero =>
    intro k i hi hk
    obtain ⟨k, rfl⟩ : ∃ m, k = m + 1 := ⟨k - 1, by omega⟩
    simp only [ident_all.l0]
    rw [if_neg (by omega)]; rfl
  | succ d ih =>
    intro k i hi hk
    obtain ⟨k, rfl⟩ : ∃ m, k = m + 1 := ⟨k - 1, by omega⟩
    have := ih k (i + 1) (by omega) (by omega)
    simp only [ident_all.l0]
    rw [if_pos (by omega), if_pos (by omega), if_pos (by omega), value_eq, wrap_id (by omega) (by omega)]
    simp only [Option.bind_some]
    rw [hexF]
    by_cases h : dv (bt s i) < 0
    · rw [if_pos h, decide_eq_false (by omega)]; rfl
    · rw [if_neg h, decide_eq_true (by omega), Bool.true_and]; exact_mod_cast this
theorem digits_l0 (s : ByteArray) (hs : s.size ≤ 140737488351232) : ∀ (d k i : Nat), i + d = s.size → d + 2 < k → graftageref02_digits.l0 k s i = some (hexF s d i) := by
  intro d
  induction d with
  | zero =>
    intro k i hi hk
    obtain ⟨k, rfl⟩ : ∃ m, k = m + 1 := ⟨k - 1, by omega⟩
    simp only [graftageref02_digits.l0]
    rw [if_neg (by omega)]; rfl
  | succ d ih =>
    intro k i hi hk
    obtain ⟨k, rfl⟩ : ∃ m, k = m + 1 := ⟨k - 1, by omega⟩
    have := ih k (i + 1) (by omega) (by omega)
    simp only [graftageref02_digits.l0]
    rw [if_pos (by omega), if_pos (by omega), Digit_bt s i k (by omega), wrap_id (by omega) (by omega)]
    simp only [Option.bind_some]
    rw [hexF]
    by_cases h : dv (bt s i) < 0
    · rw [if_pos h, decide_eq_false (by omega)]; rfl
    · rw [if_neg h, decide_eq_true (by omega), Bool.true_and]; exact_mod_cast this
def idOk (s : ByteArray) : Bool := decide (s.size = 40) && hexF s s.size 0
theorem ident_Is_ev (s : ByteArray) : Ev (fun k => ident_Is.f k s) (idOk s) := by
  unfold idOk
  by_cases h : s.size = 40
  · refine Ev.congr (f := fun k => (ident_all.f k s).bind fun t => some t) (fun k => by unfold ident_Is.f; rw [if_pos (by omega)]) ?_
    refine Ev.bind (Ev.of (fun k => ident_all.mono s k) (k := 60) (r := hexF s s.size 0) ?_) ?_
    · unfold ident_all.f
      exact_mod_cast all_l0 s (by omega) s.size 60 0 (by omega) (by omega)
    · rw [decide_eq_true h, Bool.true_and]; exact Ev.now _
  · refine Ev.congr (f := fun _ => some false) (fun k => by unfold ident_Is.f; rw [if_neg (by omega)]) ?_
    rw [decide_eq_false h, Bool.false_and]; exact Ev.now _
theorem ref_idIs_ev (s : ByteArray) : Ev (fun k => graftageref02_Is.f k s) (idOk s) := by
  unfold idOk
  by_cases h : s.size = 40
  · refine Ev.congr (f := fun k => (graftageref02_digits.f k s).bind fun t => some t) (fun k => by unfold graftageref02_Is.f; rw [if_pos (by omega)]) ?_
    refine Ev.bind (Ev.of (fun k => graftageref02_digits.mono s k) (k := 60) (r := hexF s s.size 0) ?_) ?_
    · unfold graftageref02_digits.f
      exact_mod_cast digits_l0 s (by omega) s.size 60 0 (by omega) (by omega)
    · rw [decide_eq_true h, Bool.true_and]; exact Ev.now _
  · refine Ev.congr (f := fun _ => some false) (fun k => by unfold graftageref02_Is.f; rw [if_neg (by omega)]) ?_
    rw [decide_eq_false h, Bool.false_and]; exact Ev.now _
theorem hexF_at (s : ByteArray) : ∀ (d i : Nat), hexF s d i = true → ∀ j, i ≤ j → j < i + d → 0 ≤ dv (bt s j)
  | 0, _, _, j, h1, h2 => by omega
  | d + 1, i, h, j, h1, h2 => by
    rw [hexF, Bool.and_eq_true, decide_eq_true_eq] at h
    by_cases e : j = i
    · rw [e]; exact h.1
    · exact hexF_at s d (i + 1) h.2 j (by omega) (by omega)
def hx (n : Int) : Int := bt (⟨#[48, 49, 50, 51, 52, 53, 54, 55, 56, 57, 97, 98, 99, 100, 101, 102]⟩ : ByteArray) n
end Go.Proofs.YtbhfbbfjdklfgaaGreatDoor.Q


/- A closure of commit.Check, told without rounds: no id? -/
namespace Go.Proofs.YtbhfbbfjdklfgaaGreatDoor.Q
open Go.RowKit Go.Proofs.YtbhfbbfjdklfgaaGreatDoorW.PrintWords Go.Proofs.YtbhfbbfjdklfgaaGreatDoorW.PrintLast Go.Proofs.YtbhfbbfjdklfgaaGreatDoorW.PrintMore
theorem ev_take {α : Type} {g : Nat → Option α} {r : α} (h : Ev g r) : ∃ k, g k = some r := h.rounds
def commit_Check_1.f (a0 : ByteArray) : Option Bool := some (!idOk a0)
theorem commit_Check_1.calls (a0 : ByteArray) (r : Bool) (w : World) (h : commit_Check_1.f a0 = some r) :
    Calls Tryz.prog 64 #[.string a0] w fun e w' => e = .returned (.bool r) ∧ Drawn0 w w' := by
  obtain rfl := Option.some.inj h
  clear h
  obtain ⟨k, hk⟩ := ev_take (ident_Is_ev a0)
  have HK := Aside0.mk hk
  clear hk
  obtain ⟨b, hb⟩ : ∃ b, b = idOk a0 := ⟨_, rfl⟩
  rw [← hb] at HK ⊢
  clear hb
  go_enter Tryz.func64, Tryz.ntmps64
  go_wp2_with (go_at_call 65; (with_reducible refine (ident_Is.calls k a0 b _ HK.out).mono ?_); rintro e w1 ⟨rfl, hb⟩; have HB := Aside0.mk hb; clear hb)
  go_ret
  exact ⟨rfl, HB.out⟩
end Go.Proofs.YtbhfbbfjdklfgaaGreatDoor.Q


/- A map from strings to truth values that the call makes, as a state: how often it was written, and what stands at a key. -/
namespace Go.Proofs.YtbhfbbfjdklfgaaGreatDoor.Q
open Go.RowKit Go.Maps Go.Proofs.YtbhfbbfjdklfgaaGreatDoorW.PrintWords Go.Proofs.YtbhfbbfjdklfgaaGreatDoorW.PrintLast Go.Proofs.YtbhfbbfjdklfgaaGreatDoorW.PrintMore
structure MSB where
  n : Nat
  f : List UInt8 → Option Bool
def MSB.nil : MSB := ⟨0, fun _ => none⟩
def MSB.get (m : MSB) (k : ByteArray) : Bool := (m.f k.data.toList).getD false
def MSB.has (m : MSB) (k : ByteArray) : Bool := (m.f k.data.toList).isSome
def MSB.put (m : MSB) (k : ByteArray) (v : Bool) : MSB := ⟨m.n + 1, fun x => if x = k.data.toList then some v else m.f x⟩
def IsS84 (w0 W : World) (g : Nat) (f0 : MSB) : Prop := w0.heap.size ≤ g ∧ ∃ D : DataW Unit, W.ownsMap Tryz.prog 9 (plainElem Tryz.prog 4) g f0.n D ∧
  ∀ s : List UInt8, s.length ≤ maxLen → D.atKey (.string s) (.lit (.bool false)) = .lit (.bool ((f0.f s).getD false)) ∧ Maps.has D (.string s) = (f0.f s).isSome
theorem plainElem_bool_inv {H : Type} {P : Program} {e : TypeId} (he : P.underlying e = some .bool) {v : Value} {z : DataW H × List MemPlace} (h : plainElem P e v = some z) : ∃ a, v = .bool a ∧ z = (.lit (.bool a), []) := by
  unfold plainElem at h
  rw [he] at h
  cases v <;> simp at h
  subst h
  exact ⟨_, rfl, rfl⟩
theorem wpList_lookup_own_bool {H : Type} {P : Program} (w : World) {ops : Array Oper} {rest : List Oper} {o : Oper} {a : Act} {Q : Exit → Act → World → Prop}
    (hg : o.guard = none) (m x : Operand) (t : TypeId) (hop : o.op = Op.lookup t m x false)
    (k e : TypeId) (K : Keyed P k) (ht : P.underlying t = some (.map k e)) (he : P.underlying e = some .bool) (hz : (zeroValue e).run P w = .ok (.bool false) w) (b n : Nat) (D : DataW H)
    (hm : a.eval m = .map (some b)) (hown : w.ownsMap P k (plainElem P e) b n D) (key : Value) (kl : Lit) (hx : a.eval x = key) (hkey : keyOf P k key = some kl)
    (hK : ∀ c : Bool, D.atKey kl (.lit (.bool false)) = .lit (.bool c) → wpList P ops Q rest (a.put o.dst (.bool c)) w) :
    wpList P ops Q (o :: rest) a w := by
  refine wpList_plain hg fun K' hK' => ?_
  obtain ⟨v, ps, hrun, hv⟩ := hown.lookup K ht hz (plainElem_bool he false) hkey
  obtain ⟨c, rfl, hc⟩ := plainElem_bool_inv he hv
  unfold Oper.wp
  simp [execOp, hop, hm, hx, hrun, Result.andThen]
  exact hK' _ _ (hK c (congrArg Prod.fst hc))
theorem mapLawB : Keyed Tryz.prog 9 := string_keyed Tryz.underlying9
theorem mapZeroB (w : World) : (zeroValue 4).run Tryz.prog w = .ok (.bool false) w := by kernel_rfl
section
variable {w0 W W1 : World} {g : Nat} {f0 : MSB}
theorem IsS84.block (h : IsS84 w0 W g f0) : ∃ es clock, W.heap[g]? = some (.map es clock) := by
  obtain ⟨_, D, ⟨es, c, hb, _⟩, _⟩ := h
  exact ⟨es, c, hb⟩
theorem IsS84.grown {row : Option Nat} (h : IsS84 w0 W g f0) (hw : W.grownBy W1 row) (hne : some g ≠ row) : IsS84 w0 W1 g f0 := by
  obtain ⟨h0, D, h1, h2⟩ := h
  exact ⟨h0, D, h1.kept hw hne, h2⟩
theorem IsS84.below (h : IsS84 w0 W g f0) (hw : Below W.heap.size W W1) : IsS84 w0 W1 g f0 := h.grown (grown_of_below hw none) (by simp)
theorem IsS84.alloc (h : IsS84 w0 W g f0) (o : Obj) : IsS84 w0 (W.alloc o) g f0 := h.below (below_alloc (Below.refl _ _) o)
theorem IsS84.drewN (h : IsS84 w0 W g f0) (m : Nat) : IsS84 w0 (W.drewN m) g f0 := h
theorem IsS84.drew (h : IsS84 w0 W g f0) : IsS84 w0 W.drew g f0 := h
theorem IsS84.at_ {m : Nat} (hq : W.drewN m = W1) (h : IsS84 w0 W g f0) : IsS84 w0 W1 g f0 := by subst hq; exact h
theorem IsS84.ge (h : IsS84 w0 W g f0) : w0.heap.size ≤ g := h.1
theorem IsS84.lt (h : IsS84 w0 W g f0) : g < W.heap.size := by
  obtain ⟨_, D, h1, _⟩ := h
  exact h1.lt
theorem IsS84.fresh (h : IsS84 w0 W g f0) : ∀ k, W.heap.size ≤ k → k ≠ g := fun k hk e => by have := h.lt; omega
theorem IsS84.far {p : Addr} (h : IsS84 w0 W g f0) (hne : g ≠ p.block) (u : Value) : IsS84 w0 (W.setCell p u) g f0 := by
  obtain ⟨h0, D, h1, h2⟩ := h
  exact ⟨h0, D, h1.setCell hne u, h2⟩
theorem IsS84.apart {α : Type} {d : Kd α} {e : Nat} {base : Nat} {ok : Nat → Prop} {v : Value} {xs : List α} (h : IsS84 w0 W g f0) (ho : d.R e W base ok v xs) (ht : ∀ q, q ∈ e :: d.E → q ≠ 84) : d.R e W base (fun k => ok k ∧ k ≠ g) v xs := by
  obtain ⟨es, c, hb⟩ := h.block
  refine Kd.R_mono (Kd.R_bound ho) (fun k hk => ⟨hk.1, ?_⟩)
  rintro rfl
  obtain ⟨_, _, _, q, _, cells, hc⟩ := hk
  rw [hc] at hb
  cases hb
theorem IsS84.own_ne {α : Type} {d : Kd α} {e : Nat} {base : Nat} {ok : Nat → Prop} {v : Value} {xs : List α} (h : IsS84 w0 W g f0) (ho : d.R e W base ok v xs) (ht : e ≠ 84) : some g ≠ v.ownBlock := by
  obtain ⟨es, c, hb⟩ := h.block
  intro he
  obtain ⟨_, _, _, q, _, cells, hc⟩ := (Kd.R_bound ho).1 g he.symm
  rw [hc] at hb
  cases hb
theorem IsS84.made (hb : W.ownsMap Tryz.prog 9 (plainElem (H := Unit) Tryz.prog 4) g 0 (.map [])) (hg : w0.heap.size ≤ g) : IsS84 w0 W g MSB.nil :=
  ⟨hg, .map [], hb, fun s hs => ⟨by simp [DataW.atKey, MSB.nil], by simp [Maps.has, MSB.nil]⟩⟩
end
section
variable {ops : Array Oper} {rest : List Oper} {o : Oper} {a : Act} {Q : Exit → Act → World → Prop} {w0 W : World} {g : Nat} {f0 : MSB}
theorem mkmapB_event (hgd : o.guard = none) {N : Tmp} (hd : o.dst = some N) (hop : o.op = .makeMap 84 none)
    (h : ∀ g, g = W.heap.size → ∀ w1, w1.ownsMap Tryz.prog 9 (plainElem (H := Unit) Tryz.prog 4) g 0 (.map []) → Below W.heap.size W w1 → wpList Tryz.prog ops Q rest (a.put o.dst (.map (some g))) w1) : wpList Tryz.prog ops Q (o :: rest) a W := by
  have hmm := @run_makeMap Tryz.prog
  refine Kd.event_run hgd (v := .map (some W.heap.size)) (w1 := W.alloc (.map #[] 0)) ?_ (h _ rfl _ (World.ownsMap_made _ _ _ _) (below_alloc (Below.refl _ _) _))
  simp [execOp, hop, hmm, Result.andThen]
theorem IsS84.look {m x : Operand} {k : ByteArray} (h : IsS84 w0 W g f0) (hgd : o.guard = none) (hop : o.op = .lookup 84 m x false) (hm : a.eval m = .map (some g)) (hx : a.eval x = .string k) (hs : k.size ≤ 9223372036854775807)
    {c_ : Bool} (he_ : MSB.get f0 k = c_) (K : wpList Tryz.prog ops Q rest (a.put o.dst (.bool c_)) W) : wpList Tryz.prog ops Q (o :: rest) a W := by
  subst he_
  obtain ⟨h0, D, h1, h2⟩ := h
  refine wpList_lookup_own_bool _ hgd m x 84 hop 9 4 mapLawB Tryz.underlying84 Tryz.underlying4 (mapZeroB _) g f0.n D hm h1 _ _ hx (WideMaps.keyOf_string_mk Tryz.underlying9 (by unfold maxLen; exact hs)) ?_
  intro c hat
  have := (h2 k.data.toList (by unfold maxLen; exact hs)).1
  rw [this] at hat
  have e : c = MSB.get f0 k := by
    injection hat with hat
    injection hat with hat
    exact hat.symm
  rw [e]
  exact K
theorem IsS84.put_ {m x v : Operand} {k : ByteArray} {n : Bool} (h : IsS84 w0 W g f0) (hgd : o.guard = none) (hop : o.op = .mapUpdate 84 m x v) (hm : a.eval m = .map (some g)) (hx : a.eval x = .string k) (hv : a.eval v = .bool n) (hs : k.size ≤ 9223372036854775807) (hn : f0.n < 4611686018427387904) (hw : True)
    (K : ∀ w1, IsS84 w0 w1 g (MSB.put f0 k n) → W.grownBy w1 (some g) → wpList Tryz.prog ops Q rest (a.put o.dst undef) w1) : wpList Tryz.prog ops Q (o :: rest) a W := by
  obtain ⟨h0, D, h1, h2⟩ := h
  have hk : keyOf Tryz.prog 9 (.string k) = some (.string k.data.toList) := WideMaps.keyOf_string_mk Tryz.underlying9 (by unfold maxLen; exact hs)
  refine wpList_mapUpdate_own _ hgd m x v 84 hop 9 4 mapLawB Tryz.underlying84 _ g f0.n D hm h1 (by unfold maxLen; omega) _ _ _ hx hv hk _ [] (plainElem_bool Tryz.underlying4 n) ?_
  intro w1 hown hg
  refine K w1 ⟨h0, _, hown, fun s hl => ?_⟩ hg
  have hD : IsMap D := by
    obtain ⟨es, c, _, _, _, rfl⟩ := h1
    exact ⟨_, rfl⟩
  have hkl : WideAt.IsKeyLit (.string k.data.toList) := trivial
  by_cases e : s = k.data.toList
  · subst e
    refine ⟨?_, ?_⟩
    · rw [atKey_put_same hD hkl]; simp [MSB.put]
    · rw [has_put_same hD hkl]; simp [MSB.put]
  · have hne : (Lit.string s) ≠ .string k.data.toList := fun h => e (by injection h)
    have := h2 s hl
    refine ⟨?_, ?_⟩
    · rw [atKey_put_other hne, this.1]; simp [MSB.put, e]
    · rw [has_put_other hne, this.2]; simp [MSB.put, e]
end
end Go.Proofs.YtbhfbbfjdklfgaaGreatDoor.Q


namespace Go.Proofs.YtbhfbbfjdklfgaaGreatDoor.Q
open Go.RowKit Go.Proofs.YtbhfbbfjdklfgaaGreatDoorW.PrintWords Go.Proofs.YtbhfbbfjdklfgaaGreatDoorW.PrintLast Go.Proofs.YtbhfbbfjdklfgaaGreatDoorW.PrintMore
attribute [local go_sem] max2_int min2_int max_two min_two max_three min_three max_four min_four   -- for this text's walks alone

mutual
def commit_Check.j0 : Nat → Bool → ByteArray → List ByteArray → ByteArray → ByteArray → Int → Int → ByteArray → ByteArray → Int → Int → ByteArray → Option (Int)
 | 0, _, _, _, _, _, _, _, _, _, _, _, _ => none
 | k + 1, x33, x102000, x102001, x102002, x102003, x102004, x102005, x102006, x102007, x102008, x102009, x102010 => if x33 = true then (some 1) else (if (x102010.size : Int) > 4096 then (commit_Check.j1 k true x102000 x102001 x102002 x102003 x102004 x102005 x102006 x102007 x102008 x102009 x102010) else (commit_Check.j1 k (decide ((x102001.length : Int) > 8)) x102000 x102001 x102002 x102003 x102004 x102005 x102006 x102007 x102008 x102009 x102010))
def commit_Check.j1 : Nat → Bool → ByteArray → List ByteArray → ByteArray → ByteArray → Int → Int → ByteArray → ByteArray → Int → Int → ByteArray → Option (Int)
 | 0, _, _, _, _, _, _, _, _, _, _, _, _ => none
 | k + 1, x43, x102000, x102001, x102002, x102003, x102004, x102005, x102006, x102007, x102008, x102009, x102010 => if x43 = true then (some 4) else (commit_Check.l0 k x102001 (x102001.length : Int) 0 MSB.nil)
def commit_Check.l0 : Nat → List ByteArray → Int → Int → MSB → Option (Int)
 | 0, _, _, _, _ => none
 | k + 1, x46, x47, x48, x108000 => if x48 < x47 then (if 0 ≤ x48 then (if x48 < (x46.length : Int) then (if (rdOf ByteArray.empty x46 x48).size ≤ 9223372036854775807 then (if MSB.get x108000 (rdOf ByteArray.empty x46 x48) = true then (some 6) else (if x108000.n < 4611686018427387904 then (commit_Check.l0 k x46 x47 (wrap64 (x48 + 1)) (MSB.put x108000 (rdOf ByteArray.empty x46 x48) true)) else (none))) else (none)) else (none)) else (none)) else (some 0)
end
def commit_Check.f (k : Nat) (a0_0 : ByteArray) (l0_1 : List ByteArray) (a0_2 : ByteArray) (a0_3 : ByteArray) (a0_4 : Int) (a0_5 : Int) (a0_6 : ByteArray) (a0_7 : ByteArray) (a0_8 : Int) (a0_9 : Int) (a0_10 : ByteArray) : Option (Int) := (commit_Check_1.f a0_0).bind fun t102 => (if t102 = true then (commit_Check.j0 k true a0_0 l0_1 a0_2 a0_3 a0_4 a0_5 a0_6 a0_7 a0_8 a0_9 a0_10) else ((slices_ContainsFunc_string_string.f k l0_1 (fun z0 => commit_Check_1.f z0)).bind fun t103 => (if t103 = true then (commit_Check.j0 k true a0_0 l0_1 a0_2 a0_3 a0_4 a0_5 a0_6 a0_7 a0_8 a0_9 a0_10) else ((commit_somebody.f k a0_2 a0_3 a0_4 a0_5).bind fun t104 => (if t104 = true then ((commit_somebody.f k a0_6 a0_7 a0_8 a0_9).bind fun t105 => (if t105 = true then ((strings_Contains2.f a0_10 (⟨#[0]⟩ : ByteArray)).bind fun t106 => (commit_Check.j0 k t106 a0_0 l0_1 a0_2 a0_3 a0_4 a0_5 a0_6 a0_7 a0_8 a0_9 a0_10)) else (commit_Check.j0 k true a0_0 l0_1 a0_2 a0_3 a0_4 a0_5 a0_6 a0_7 a0_8 a0_9 a0_10))) else (commit_Check.j0 k true a0_0 l0_1 a0_2 a0_3 a0_4 a0_5 a0_6 a0_7 a0_8 a0_9 a0_10))))))
theorem commit_Check.mono_l : ∀ k, (∀ y0 y1 y2 y3 y4 y5 y6 y7 y8 y9 y10 y11, LeO (commit_Check.j0 k y0 y1 y2 y3 y4 y5 y6 y7 y8 y9 y10 y11) (commit_Check.j0 (k + 1) y0 y1 y2 y3 y4 y5 y6 y7 y8 y9 y10 y11)) ∧ (∀ y0 y1 y2 y3 y4 y5 y6 y7 y8 y9 y10 y11, LeO (commit_Check.j1 k y0 y1 y2 y3 y4 y5 y6 y7 y8 y9 y10 y11) (commit_Check.j1 (k + 1) y0 y1 y2 y3 y4 y5 y6 y7 y8 y9 y10 y11)) ∧ (∀ y0 y1 y2 y3, LeO (commit_Check.l0 k y0 y1 y2 y3) (commit_Check.l0 (k + 1) y0 y1 y2 y3))
 | 0 => ⟨fun _ _ _ _ _ _ _ _ _ _ _ _ r h => by simp [commit_Check.j0] at h, fun _ _ _ _ _ _ _ _ _ _ _ _ r h => by simp [commit_Check.j1] at h, fun _ _ _ _ r h => by simp [commit_Check.l0] at h⟩
 | k + 1 => by
  obtain ⟨ih0, ih1, ih2⟩ := commit_Check.mono_l k
  refine ⟨?_, ?_, ?_⟩
  ·intro y0 y1 y2 y3 y4 y5 y6 y7 y8 y9 y10 y11
   unfold commit_Check.j0
   have m0_ := @ih0
   have m1_ := @ih1
   have m2_ := @ih2
   have m3_ := @commit_somebody.mono
   have m4_ := @slices_ContainsFunc_string_string.mono
   exact mz_
  ·intro y0 y1 y2 y3 y4 y5 y6 y7 y8 y9 y10 y11
   unfold commit_Check.j1
   have m0_ := @ih0
   have m1_ := @ih1
   have m2_ := @ih2
   have m3_ := @commit_somebody.mono
   have m4_ := @slices_ContainsFunc_string_string.mono
   exact mz_
  ·intro y0 y1 y2 y3
   unfold commit_Check.l0
   have m0_ := @ih0
   have m1_ := @ih1
   have m2_ := @ih2
   have m3_ := @commit_somebody.mono
   have m4_ := @slices_ContainsFunc_string_string.mono
   exact mz_
theorem commit_Check.mono : ∀ a0 a1 a2 a3 a4 a5 a6 a7 a8 a9 a10 k, LeO (commit_Check.f k a0 a1 a2 a3 a4 a5 a6 a7 a8 a9 a10) (commit_Check.f (k + 1) a0 a1 a2 a3 a4 a5 a6 a7 a8 a9 a10) := by
 intro a0 a1 a2 a3 a4 a5 a6 a7 a8 a9 a10 k
 obtain ⟨ih0, ih1, ih2⟩ := commit_Check.mono_l k
 unfold commit_Check.f
 have m0_ := @ih0
 have m1_ := @ih1
 have m2_ := @ih2
 have m3_ := @commit_somebody.mono
 have m4_ := @slices_ContainsFunc_string_string.mono
 exact mz_
set_option maxHeartbeats 8000000 in
set_option maxRecDepth 100000 in
theorem commit_Check.calls (k : Nat) (a0_0 : ByteArray) (A0_1 : Option Addr) (c0_1 : Nat) (l0_1 : List ByteArray) (a0_2 : ByteArray) (a0_3 : ByteArray) (a0_4 : Int) (a0_5 : Int) (a0_6 : ByteArray) (a0_7 : ByteArray) (a0_8 : Int) (a0_9 : Int) (a0_10 : ByteArray) (r : Int) (w : World) (hr0_1 : Kd.C Kd.string w A0_1 l0_1.length l0_1) (hc0_1 : l0_1.length ≤ c0_1) (hgv : GV w) (h : commit_Check.f k a0_0 l0_1 a0_2 a0_3 a0_4 a0_5 a0_6 a0_7 a0_8 a0_9 a0_10 = some r) :
  Calls Tryz.prog 18 #[.agg #[.string a0_0, .slice A0_1 l0_1.length c0_1, .string a0_2, .string a0_3, .int .i64 a0_4, .int .i64 a0_5, .string a0_6, .string a0_7, .int .i64 a0_8, .int .i64 a0_9, .string a0_10]] w fun e w' => e = .returned (.int .i64 r) ∧ Below w.heap.size w w' := by
 have hu26 := Tryz.underlying26
 have hu24 := Tryz.underlying24
 have HR0_1 := Aside0.mk hr0_1
 have HC0_1 := Aside0.mk hc0_1
 clear hr0_1 hc0_1
 have HB := Aside0.mk (Below.refl w.heap.size w)
 have H : ((commit_Check_1.f a0_0).bind fun t102 => (if t102 = true then (commit_Check.j0 k true a0_0 l0_1 a0_2 a0_3 a0_4 a0_5 a0_6 a0_7 a0_8 a0_9 a0_10) else ((slices_ContainsFunc_string_string.f k l0_1 (fun z0 => commit_Check_1.f z0)).bind fun t103 => (if t103 = true then (commit_Check.j0 k true a0_0 l0_1 a0_2 a0_3 a0_4 a0_5 a0_6 a0_7 a0_8 a0_9 a0_10) else ((commit_somebody.f k a0_2 a0_3 a0_4 a0_5).bind fun t104 => (if t104 = true then ((commit_somebody.f k a0_6 a0_7 a0_8 a0_9).bind fun t105 => (if t105 = true then ((strings_Contains2.f a0_10 (⟨#[0]⟩ : ByteArray)).bind fun t106 => (commit_Check.j0 k t106 a0_0 l0_1 a0_2 a0_3 a0_4 a0_5 a0_6 a0_7 a0_8 a0_9 a0_10)) else (commit_Check.j0 k true a0_0 l0_1 a0_2 a0_3 a0_4 a0_5 a0_6 a0_7 a0_8 a0_9 a0_10))) else (commit_Check.j0 k true a0_0 l0_1 a0_2 a0_3 a0_4 a0_5 a0_6 a0_7 a0_8 a0_9 a0_10))))))) = some r := h
 clear h
 have HC2 := Aside0.mk H
 clear H
 go_enter Tryz.func18, Tryz.ntmps18
 go_upto_region 2 with (first | ((with_reducible refine gate_dst (N := 1) rfl ?_); (try (refine gate_guard (by rfl) ?_; dsimp only)); refine be_ (cs := #[.string a0_0, .slice A0_1 l0_1.length c0_1, .string a0_2, .string a0_3, .int .i64 a0_4, .int .i64 a0_5, .string a0_6, .string a0_7, .int .i64 a0_8, .int .i64 a0_9, .string a0_10]) (t := 26) ?_; intro gb101 hg w3 hbox hb; have BK101 := Aside0.mk (hbox); have GW101 := Aside0.mk (gw_ hg HB.out); have GE101 := Aside0.mk (gw_ hg HB.out); replace HB := Aside0.mk (below_step (hb_ HB.out) hb); clear hb hbox hg))
 (try simp only [Act.put, List.setIfInBounds_toArray, List.set_cons_zero, List.set_cons_succ])
 go_cut [33] (fun v33 wc => ∃ (kq : Nat) (x33_1 : Bool), v33 = .bool x33_1 ∧ Aside0 (commit_Check.j0 kq x33_1 a0_0 l0_1 a0_2 a0_3 a0_4 a0_5 a0_6 a0_7 a0_8 a0_9 a0_10 = some r) ∧ Aside0 (kq ≤ k) ∧ Aside0 (wc.heap[gb101]? = some (.cells #[.string a0_0, (.slice A0_1 l0_1.length c0_1), .string a0_2, .string a0_3, .int .i64 a0_4, .int .i64 a0_5, .string a0_6, .string a0_7, .int .i64 a0_8, .int .i64 a0_9, .string a0_10] 26 (0, 0))) ∧ Aside0 (Below w.heap.size w wc))
 case first =>
  have H := HC2.out
  clear HC2
  replace H := Option.bind_eq_some_iff.mp H
  obtain ⟨t102, A40, H⟩ := H
  have A4 := Aside0.mk A40
  clear A40
  by_cases c5 : t102 = true
  ·subst c5
   have H1 : (commit_Check.j0 k true a0_0 l0_1 a0_2 a0_3 a0_4 a0_5 a0_6 a0_7 a0_8 a0_9 a0_10) = some r := by rw [if_pos rfl] at H; exact H
   clear H
   have H := H1
   clear H1
   have H' := Aside0.mk H
   clear H
   obtain ⟨hcz6_0, hcz6_1, hcz6_2, hcz6_3, hcz6_4, hcz6_5, hcz6_6, hcz6_7, hcz6_8, hcz6_9, hcz6_10, hfz6_0, hfz6_1, hfz6_2, hfz6_3, hfz6_4, hfz6_5, hfz6_6, hfz6_7, hfz6_8, hfz6_9, hfz6_10⟩ := bc11 BK101.out
   go_wp2_with (first | (refine goesF_ (some 10) rfl rfl (g := 64) (lb := #[]) (fun args w => enters_ Tryz.func64 rfl rfl args w) #[.string a0_0] rfl rfl z8_ #[.string a0_0] (by first | rfl | simp) ?_; (with_reducible refine (commit_Check_1.calls a0_0  true _ A4.out).mono ?_); rintro e w' ⟨rfl, ⟨nd, rfl⟩⟩; refine ⟨_, rfl, ?_⟩))
   go_meet
   case rel => exact ⟨_, (true), z1_, H', ⟨z5_⟩, ⟨bk_ BK101.out⟩, ⟨hs_⟩⟩
  ·replace c5 := Bool.eq_false_iff.mpr c5
   subst c5
   have H1 : ((slices_ContainsFunc_string_string.f k l0_1 (fun z0 => commit_Check_1.f z0)).bind fun t103 => (if t103 = true then (commit_Check.j0 k true a0_0 l0_1 a0_2 a0_3 a0_4 a0_5 a0_6 a0_7 a0_8 a0_9 a0_10) else ((commit_somebody.f k a0_2 a0_3 a0_4 a0_5).bind fun t104 => (if t104 = true then ((commit_somebody.f k a0_6 a0_7 a0_8 a0_9).bind fun t105 => (if t105 = true then ((strings_Contains2.f a0_10 (⟨#[0]⟩ : ByteArray)).bind fun t106 => (commit_Check.j0 k t106 a0_0 l0_1 a0_2 a0_3 a0_4 a0_5 a0_6 a0_7 a0_8 a0_9 a0_10)) else (commit_Check.j0 k true a0_0 l0_1 a0_2 a0_3 a0_4 a0_5 a0_6 a0_7 a0_8 a0_9 a0_10))) else (commit_Check.j0 k true a0_0 l0_1 a0_2 a0_3 a0_4 a0_5 a0_6 a0_7 a0_8 a0_9 a0_10))))) = some r := by rw [if_neg (show ¬ (false = true) by decide)] at H; exact H
   clear H
   have H := H1
   clear H1
   replace H := Option.bind_eq_some_iff.mp H
   obtain ⟨t103, A70, H⟩ := H
   have A7 := Aside0.mk A70
   clear A70
   by_cases c8 : t103 = true
   ·subst c8
    have H1 : (commit_Check.j0 k true a0_0 l0_1 a0_2 a0_3 a0_4 a0_5 a0_6 a0_7 a0_8 a0_9 a0_10) = some r := by rw [if_pos rfl] at H; exact H
    clear H
    have H := H1
    clear H1
    have H' := Aside0.mk H
    clear H
    obtain ⟨hcz9_0, hcz9_1, hcz9_2, hcz9_3, hcz9_4, hcz9_5, hcz9_6, hcz9_7, hcz9_8, hcz9_9, hcz9_10, hfz9_0, hfz9_1, hfz9_2, hfz9_3, hfz9_4, hfz9_5, hfz9_6, hfz9_7, hfz9_8, hfz9_9, hfz9_10⟩ := bc11 BK101.out
    go_wp2_with (first | (refine goesF_ (some 10) rfl rfl (g := 64) (lb := #[]) (fun args w => enters_ Tryz.func64 rfl rfl args w) #[.string a0_0] rfl rfl z8_ #[.string a0_0] (by first | rfl | simp) ?_; (with_reducible refine (commit_Check_1.calls a0_0  false _ A4.out).mono ?_); rintro e w' ⟨rfl, ⟨nd, rfl⟩⟩; refine ⟨_, rfl, ?_⟩) | (go_at_call 66; (with_reducible refine (slices_ContainsFunc_string_string.calls k _ _ l0_1 64 #[] (fun z0 => commit_Check_1.f z0) true _ ?side1 ?side2 ?side3 ?side4 A7.out).mono ?_); (case side1 => repeat (first | exact (Kd.C_below HR0_1.out (hs_)) | (with_reducible refine Kd.C_alloc ?_ _) | (with_reducible refine Kd.C_drewN ?_ _) | (with_reducible refine Kd.C_drew ?_))); (case side2 => exact HC0_1.out); (case side3 => exact fun args w => enters_ Tryz.func64 rfl rfl args w); (case side4 => intro z0_ z1_ W_ hB_ h_; exact (commit_Check_1.calls z0_ z1_ W_  h_).mono (fun e w' hx_ => ⟨hx_.1, hx_.2.below⟩)); rintro e w10 ⟨rfl, hb⟩; replace BK101 := Aside0.mk (bb_ BK101.out hb); replace HB := Aside0.mk (below_step (hs_) hb); (try clear hb); (try clear hb2); (try clear hk); (try clear hi)))
    go_meet
    case rel => exact ⟨_, (true), z1_, H', ⟨z5_⟩, ⟨bk_ BK101.out⟩, ⟨hs_⟩⟩
   ·replace c8 := Bool.eq_false_iff.mpr c8
    subst c8
    have H1 : ((commit_somebody.f k a0_2 a0_3 a0_4 a0_5).bind fun t104 => (if t104 = true then ((commit_somebody.f k a0_6 a0_7 a0_8 a0_9).bind fun t105 => (if t105 = true then ((strings_Contains2.f a0_10 (⟨#[0]⟩ : ByteArray)).bind fun t106 => (commit_Check.j0 k t106 a0_0 l0_1 a0_2 a0_3 a0_4 a0_5 a0_6 a0_7 a0_8 a0_9 a0_10)) else (commit_Check.j0 k true a0_0 l0_1 a0_2 a0_3 a0_4 a0_5 a0_6 a0_7 a0_8 a0_9 a0_10))) else (commit_Check.j0 k true a0_0 l0_1 a0_2 a0_3 a0_4 a0_5 a0_6 a0_7 a0_8 a0_9 a0_10))) = some r := by rw [if_neg (show ¬ (false = true) by decide)] at H; exact H
    clear H
    have H := H1
    clear H1
    replace H := Option.bind_eq_some_iff.mp H
    obtain ⟨t104, A110, H⟩ := H
    have A11 := Aside0.mk A110
    clear A110
    by_cases c12 : t104 = true
    ·subst c12
     have H1 : ((commit_somebody.f k a0_6 a0_7 a0_8 a0_9).bind fun t105 => (if t105 = true then ((strings_Contains2.f a0_10 (⟨#[0]⟩ : ByteArray)).bind fun t106 => (commit_Check.j0 k t106 a0_0 l0_1 a0_2 a0_3 a0_4 a0_5 a0_6 a0_7 a0_8 a0_9 a0_10)) else (commit_Check.j0 k true a0_0 l0_1 a0_2 a0_3 a0_4 a0_5 a0_6 a0_7 a0_8 a0_9 a0_10))) = some r := by rw [if_pos rfl] at H; exact H
     clear H
     have H := H1
     clear H1
     replace H := Option.bind_eq_some_iff.mp H
     obtain ⟨t105, A130, H⟩ := H
     have A13 := Aside0.mk A130
     clear A130
     by_cases c14 : t105 = true
     ·subst c14
      have H1 : ((strings_Contains2.f a0_10 (⟨#[0]⟩ : ByteArray)).bind fun t106 => (commit_Check.j0 k t106 a0_0 l0_1 a0_2 a0_3 a0_4 a0_5 a0_6 a0_7 a0_8 a0_9 a0_10)) = some r := by rw [if_pos rfl] at H; exact H
      clear H
      have H := H1
      clear H1
      replace H := Option.bind_eq_some_iff.mp H
      obtain ⟨t106, A150, H⟩ := H
      have A15 := Aside0.mk A150
      clear A150
      have H' := Aside0.mk H
      clear H
      obtain ⟨hcz16_0, hcz16_1, hcz16_2, hcz16_3, hcz16_4, hcz16_5, hcz16_6, hcz16_7, hcz16_8, hcz16_9, hcz16_10, hfz16_0, hfz16_1, hfz16_2, hfz16_3, hfz16_4, hfz16_5, hfz16_6, hfz16_7, hfz16_8, hfz16_9, hfz16_10⟩ := bc11 BK101.out
      have tk1_ : True := trivial
      have tk2_ : True := trivial
      go_wp2_with (first | (refine goesF_ (some 10) rfl rfl (g := 64) (lb := #[]) (fun args w => enters_ Tryz.func64 rfl rfl args w) #[.string a0_0] rfl rfl z8_ #[.string a0_0] (by first | rfl | simp) ?_; (with_reducible refine (commit_Check_1.calls a0_0  false _ A4.out).mono ?_); rintro e w' ⟨rfl, ⟨nd, rfl⟩⟩; refine ⟨_, rfl, ?_⟩) | (go_at_call 66; (with_reducible refine (slices_ContainsFunc_string_string.calls k _ _ l0_1 64 #[] (fun z0 => commit_Check_1.f z0) false _ ?side1 ?side2 ?side3 ?side4 A7.out).mono ?_); (case side1 => repeat (first | exact (Kd.C_below HR0_1.out (hs_)) | (with_reducible refine Kd.C_alloc ?_ _) | (with_reducible refine Kd.C_drewN ?_ _) | (with_reducible refine Kd.C_drew ?_))); (case side2 => exact HC0_1.out); (case side3 => exact fun args w => enters_ Tryz.func64 rfl rfl args w); (case side4 => intro z0_ z1_ W_ hB_ h_; exact (commit_Check_1.calls z0_ z1_ W_  h_).mono (fun e w' hx_ => ⟨hx_.1, hx_.2.below⟩)); rintro e w17 ⟨rfl, hb⟩; replace BK101 := Aside0.mk (bb_ BK101.out hb); replace HB := Aside0.mk (below_step (hs_) hb); (try clear hb); (try clear hb2); (try clear hk); (try clear hi); obtain ⟨hcz18_0, hcz18_1, hcz18_2, hcz18_3, hcz18_4, hcz18_5, hcz18_6, hcz18_7, hcz18_8, hcz18_9, hcz18_10, hfz18_0, hfz18_1, hfz18_2, hfz18_3, hfz18_4, hfz18_5, hfz18_6, hfz18_7, hfz18_8, hfz18_9, hfz18_10⟩ := bc11 BK101.out) | (go_at_call 67; have _t := tk1_; (with_reducible refine (commit_somebody.calls k a0_2 a0_3 a0_4 a0_5 true _ A11.out).mono ?_); rintro e w19 ⟨rfl, hb⟩; replace BK101 := Aside0.mk (bb_ BK101.out hb); replace HB := Aside0.mk (below_step (hs_) hb); (try clear hb); (try clear hb2); (try clear hk); (try clear hi); obtain ⟨hcz20_0, hcz20_1, hcz20_2, hcz20_3, hcz20_4, hcz20_5, hcz20_6, hcz20_7, hcz20_8, hcz20_9, hcz20_10, hfz20_0, hfz20_1, hfz20_2, hfz20_3, hfz20_4, hfz20_5, hfz20_6, hfz20_7, hfz20_8, hfz20_9, hfz20_10⟩ := bc11 BK101.out; clear tk1_) | (go_at_call 67; have _t := tk2_; (with_reducible refine (commit_somebody.calls k a0_6 a0_7 a0_8 a0_9 true _ A13.out).mono ?_); rintro e w21 ⟨rfl, hb⟩; replace BK101 := Aside0.mk (bb_ BK101.out hb); replace HB := Aside0.mk (below_step (hs_) hb); (try clear hb); (try clear hb2); (try clear hk); (try clear hi); obtain ⟨hcz22_0, hcz22_1, hcz22_2, hcz22_3, hcz22_4, hcz22_5, hcz22_6, hcz22_7, hcz22_8, hcz22_9, hcz22_10, hfz22_0, hfz22_1, hfz22_2, hfz22_3, hfz22_4, hfz22_5, hfz22_6, hfz22_7, hfz22_8, hfz22_9, hfz22_10⟩ := bc11 BK101.out; clear tk2_) | (go_at_call 68; (with_reducible refine (strings_Contains2.calls a0_10 (⟨#[0]⟩ : ByteArray) t106 _ ?side1 A15.out).mono ?_); (case side1 => exact GV.below hgv (hs_)); rintro e w' ⟨rfl, ⟨nd, rfl⟩⟩))
      go_meet
      case rel => exact ⟨_, (t106), z1_, H', ⟨z5_⟩, ⟨bk_ BK101.out⟩, ⟨hs_⟩⟩
     ·replace c14 := Bool.eq_false_iff.mpr c14
      subst c14
      have H1 : (commit_Check.j0 k true a0_0 l0_1 a0_2 a0_3 a0_4 a0_5 a0_6 a0_7 a0_8 a0_9 a0_10) = some r := by rw [if_neg (show ¬ (false = true) by decide)] at H; exact H
      clear H
      have H := H1
      clear H1
      have H' := Aside0.mk H
      clear H
      obtain ⟨hcz23_0, hcz23_1, hcz23_2, hcz23_3, hcz23_4, hcz23_5, hcz23_6, hcz23_7, hcz23_8, hcz23_9, hcz23_10, hfz23_0, hfz23_1, hfz23_2, hfz23_3, hfz23_4, hfz23_5, hfz23_6, hfz23_7, hfz23_8, hfz23_9, hfz23_10⟩ := bc11 BK101.out
      have tk3_ : True := trivial
      have tk4_ : True := trivial
      go_wp2_with (first | (refine goesF_ (some 10) rfl rfl (g := 64) (lb := #[]) (fun args w => enters_ Tryz.func64 rfl rfl args w) #[.string a0_0] rfl rfl z8_ #[.string a0_0] (by first | rfl | simp) ?_; (with_reducible refine (commit_Check_1.calls a0_0  false _ A4.out).mono ?_); rintro e w' ⟨rfl, ⟨nd, rfl⟩⟩; refine ⟨_, rfl, ?_⟩) | (go_at_call 66; (with_reducible refine (slices_ContainsFunc_string_string.calls k _ _ l0_1 64 #[] (fun z0 => commit_Check_1.f z0) false _ ?side1 ?side2 ?side3 ?side4 A7.out).mono ?_); (case side1 => repeat (first | exact (Kd.C_below HR0_1.out (hs_)) | (with_reducible refine Kd.C_alloc ?_ _) | (with_reducible refine Kd.C_drewN ?_ _) | (with_reducible refine Kd.C_drew ?_))); (case side2 => exact HC0_1.out); (case side3 => exact fun args w => enters_ Tryz.func64 rfl rfl args w); (case side4 => intro z0_ z1_ W_ hB_ h_; exact (commit_Check_1.calls z0_ z1_ W_  h_).mono (fun e w' hx_ => ⟨hx_.1, hx_.2.below⟩)); rintro e w24 ⟨rfl, hb⟩; replace BK101 := Aside0.mk (bb_ BK101.out hb); replace HB := Aside0.mk (below_step (hs_) hb); (try clear hb); (try clear hb2); (try clear hk); (try clear hi); obtain ⟨hcz25_0, hcz25_1, hcz25_2, hcz25_3, hcz25_4, hcz25_5, hcz25_6, hcz25_7, hcz25_8, hcz25_9, hcz25_10, hfz25_0, hfz25_1, hfz25_2, hfz25_3, hfz25_4, hfz25_5, hfz25_6, hfz25_7, hfz25_8, hfz25_9, hfz25_10⟩ := bc11 BK101.out) | (go_at_call 67; have _t := tk3_; (with_reducible refine (commit_somebody.calls k a0_2 a0_3 a0_4 a0_5 true _ A11.out).mono ?_); rintro e w26 ⟨rfl, hb⟩; replace BK101 := Aside0.mk (bb_ BK101.out hb); replace HB := Aside0.mk (below_step (hs_) hb); (try clear hb); (try clear hb2); (try clear hk); (try clear hi); obtain ⟨hcz27_0, hcz27_1, hcz27_2, hcz27_3, hcz27_4, hcz27_5, hcz27_6, hcz27_7, hcz27_8, hcz27_9, hcz27_10, hfz27_0, hfz27_1, hfz27_2, hfz27_3, hfz27_4, hfz27_5, hfz27_6, hfz27_7, hfz27_8, hfz27_9, hfz27_10⟩ := bc11 BK101.out; clear tk3_) | (go_at_call 67; have _t := tk4_; (with_reducible refine (commit_somebody.calls k a0_6 a0_7 a0_8 a0_9 false _ A13.out).mono ?_); rintro e w28 ⟨rfl, hb⟩; replace BK101 := Aside0.mk (bb_ BK101.out hb); replace HB := Aside0.mk (below_step (hs_) hb); (try clear hb); (try clear hb2); (try clear hk); (try clear hi); clear tk4_))
      go_meet
      case rel => exact ⟨_, (true), z1_, H', ⟨z5_⟩, ⟨bk_ BK101.out⟩, ⟨hs_⟩⟩
    ·replace c12 := Bool.eq_false_iff.mpr c12
     subst c12
     have H1 : (commit_Check.j0 k true a0_0 l0_1 a0_2 a0_3 a0_4 a0_5 a0_6 a0_7 a0_8 a0_9 a0_10) = some r := by rw [if_neg (show ¬ (false = true) by decide)] at H; exact H
     clear H
     have H := H1
     clear H1
     have H' := Aside0.mk H
     clear H
     obtain ⟨hcz29_0, hcz29_1, hcz29_2, hcz29_3, hcz29_4, hcz29_5, hcz29_6, hcz29_7, hcz29_8, hcz29_9, hcz29_10, hfz29_0, hfz29_1, hfz29_2, hfz29_3, hfz29_4, hfz29_5, hfz29_6, hfz29_7, hfz29_8, hfz29_9, hfz29_10⟩ := bc11 BK101.out
     go_wp2_with (first | (refine goesF_ (some 10) rfl rfl (g := 64) (lb := #[]) (fun args w => enters_ Tryz.func64 rfl rfl args w) #[.string a0_0] rfl rfl z8_ #[.string a0_0] (by first | rfl | simp) ?_; (with_reducible refine (commit_Check_1.calls a0_0  false _ A4.out).mono ?_); rintro e w' ⟨rfl, ⟨nd, rfl⟩⟩; refine ⟨_, rfl, ?_⟩) | (go_at_call 66; (with_reducible refine (slices_ContainsFunc_string_string.calls k _ _ l0_1 64 #[] (fun z0 => commit_Check_1.f z0) false _ ?side1 ?side2 ?side3 ?side4 A7.out).mono ?_); (case side1 => repeat (first | exact (Kd.C_below HR0_1.out (hs_)) | (with_reducible refine Kd.C_alloc ?_ _) | (with_reducible refine Kd.C_drewN ?_ _) | (with_reducible refine Kd.C_drew ?_))); (case side2 => exact HC0_1.out); (case side3 => exact fun args w => enters_ Tryz.func64 rfl rfl args w); (case side4 => intro z0_ z1_ W_ hB_ h_; exact (commit_Check_1.calls z0_ z1_ W_  h_).mono (fun e w' hx_ => ⟨hx_.1, hx_.2.below⟩)); rintro e w30 ⟨rfl, hb⟩; replace BK101 := Aside0.mk (bb_ BK101.out hb); replace HB := Aside0.mk (below_step (hs_) hb); (try clear hb); (try clear hb2); (try clear hk); (try clear hi); obtain ⟨hcz31_0, hcz31_1, hcz31_2, hcz31_3, hcz31_4, hcz31_5, hcz31_6, hcz31_7, hcz31_8, hcz31_9, hcz31_10, hfz31_0, hfz31_1, hfz31_2, hfz31_3, hfz31_4, hfz31_5, hfz31_6, hfz31_7, hfz31_8, hfz31_9, hfz31_10⟩ := bc11 BK101.out) | (go_at_call 67; (with_reducible refine (commit_somebody.calls k a0_2 a0_3 a0_4 a0_5 false _ A11.out).mono ?_); rintro e w32 ⟨rfl, hb⟩; replace BK101 := Aside0.mk (bb_ BK101.out hb); replace HB := Aside0.mk (below_step (hs_) hb); (try clear hb); (try clear hb2); (try clear hk); (try clear hi)))
     go_meet
     case rel => exact ⟨_, (true), z1_, H', ⟨z5_⟩, ⟨bk_ BK101.out⟩, ⟨hs_⟩⟩
 case rest =>
  clear HC2
  try clear c1
  try clear p2
  try clear c5
  try clear c6
  try clear c8
  try clear c12
  try clear c14
  try clear c18
  try clear hcz16_0 hcz16_1 hcz16_10 hcz16_2 hcz16_3 hcz16_4 hcz16_5 hcz16_6 hcz16_7 hcz16_8 hcz16_9
  try clear hcz18_0 hcz18_1 hcz18_10 hcz18_2 hcz18_3 hcz18_4 hcz18_5 hcz18_6 hcz18_7 hcz18_8 hcz18_9
  try clear hcz20_0 hcz20_1 hcz20_10 hcz20_2 hcz20_3 hcz20_4 hcz20_5 hcz20_6 hcz20_7 hcz20_8 hcz20_9
  try clear hcz22_0 hcz22_1 hcz22_10 hcz22_2 hcz22_3 hcz22_4 hcz22_5 hcz22_6 hcz22_7 hcz22_8 hcz22_9
  try clear hcz23_0 hcz23_1 hcz23_10 hcz23_2 hcz23_3 hcz23_4 hcz23_5 hcz23_6 hcz23_7 hcz23_8 hcz23_9
  try clear hcz25_0 hcz25_1 hcz25_10 hcz25_2 hcz25_3 hcz25_4 hcz25_5 hcz25_6 hcz25_7 hcz25_8 hcz25_9
  try clear hcz27_0 hcz27_1 hcz27_10 hcz27_2 hcz27_3 hcz27_4 hcz27_5 hcz27_6 hcz27_7 hcz27_8 hcz27_9
  try clear hcz29_0 hcz29_1 hcz29_10 hcz29_2 hcz29_3 hcz29_4 hcz29_5 hcz29_6 hcz29_7 hcz29_8 hcz29_9
  try clear hcz31_0 hcz31_1 hcz31_10 hcz31_2 hcz31_3 hcz31_4 hcz31_5 hcz31_6 hcz31_7 hcz31_8 hcz31_9
  try clear hcz6_0 hcz6_1 hcz6_10 hcz6_2 hcz6_3 hcz6_4 hcz6_5 hcz6_6 hcz6_7 hcz6_8 hcz6_9
  try clear hcz9_0 hcz9_1 hcz9_10 hcz9_2 hcz9_3 hcz9_4 hcz9_5 hcz9_6 hcz9_7 hcz9_8 hcz9_9
  try clear hfz16_0 hfz16_1 hfz16_10 hfz16_2 hfz16_3 hfz16_4 hfz16_5 hfz16_6 hfz16_7 hfz16_8 hfz16_9
  try clear hfz18_0 hfz18_1 hfz18_10 hfz18_2 hfz18_3 hfz18_4 hfz18_5 hfz18_6 hfz18_7 hfz18_8 hfz18_9
  try clear hfz20_0 hfz20_1 hfz20_10 hfz20_2 hfz20_3 hfz20_4 hfz20_5 hfz20_6 hfz20_7 hfz20_8 hfz20_9
  try clear hfz22_0 hfz22_1 hfz22_10 hfz22_2 hfz22_3 hfz22_4 hfz22_5 hfz22_6 hfz22_7 hfz22_8 hfz22_9
  try clear hfz23_0 hfz23_1 hfz23_10 hfz23_2 hfz23_3 hfz23_4 hfz23_5 hfz23_6 hfz23_7 hfz23_8 hfz23_9
  try clear hfz25_0 hfz25_1 hfz25_10 hfz25_2 hfz25_3 hfz25_4 hfz25_5 hfz25_6 hfz25_7 hfz25_8 hfz25_9
  try clear hfz27_0 hfz27_1 hfz27_10 hfz27_2 hfz27_3 hfz27_4 hfz27_5 hfz27_6 hfz27_7 hfz27_8 hfz27_9
  try clear hfz29_0 hfz29_1 hfz29_10 hfz29_2 hfz29_3 hfz29_4 hfz29_5 hfz29_6 hfz29_7 hfz29_8 hfz29_9
  try clear hfz31_0 hfz31_1 hfz31_10 hfz31_2 hfz31_3 hfz31_4 hfz31_5 hfz31_6 hfz31_7 hfz31_8 hfz31_9
  try clear hfz6_0 hfz6_1 hfz6_10 hfz6_2 hfz6_3 hfz6_4 hfz6_5 hfz6_6 hfz6_7 hfz6_8 hfz6_9
  try clear hfz9_0 hfz9_1 hfz9_10 hfz9_2 hfz9_3 hfz9_4 hfz9_5 hfz9_6 hfz9_7 hfz9_8 hfz9_9
  obtain ⟨kq, x33_1, rfl, HA, HJ1, BK101, HB⟩ := hcut
  cases kq with
  | zero => exact absurd HA.out (by simp [commit_Check.j0])
  | succ kj1 =>
   have H := HA.out
   clear HA
   simp only [commit_Check.j0] at H
   by_cases c33 : x33_1 = true
   ·subst c33
    have H1 : (some 1) = some r := by rw [if_pos rfl] at H; exact H
    clear H
    have H := H1
    clear H1
    obtain rfl := Option.some.inj H
    go_wp2
    go_ret
    exact ⟨z4_, hs_⟩
   ·replace c33 := Bool.eq_false_iff.mpr c33
    subst c33
    have H1 : (if (a0_10.size : Int) > 4096 then (commit_Check.j1 kj1 true a0_0 l0_1 a0_2 a0_3 a0_4 a0_5 a0_6 a0_7 a0_8 a0_9 a0_10) else (commit_Check.j1 kj1 (decide ((l0_1.length : Int) > 8)) a0_0 l0_1 a0_2 a0_3 a0_4 a0_5 a0_6 a0_7 a0_8 a0_9 a0_10)) = some r := by rw [if_neg (show ¬ (false = true) by decide)] at H; exact H
    clear H
    have H := H1
    clear H1
    have HC34 := Aside0.mk H
    clear H
    go_upto_region 4 with (fail)
    go_cut [43] (fun v43 wc => ∃ (kq : Nat) (x43_33 : Bool), v43 = .bool x43_33 ∧ Aside0 (commit_Check.j1 kq x43_33 a0_0 l0_1 a0_2 a0_3 a0_4 a0_5 a0_6 a0_7 a0_8 a0_9 a0_10 = some r) ∧ Aside0 (kq ≤ kj1) ∧ Aside0 (wc.heap[gb101]? = some (.cells #[.string a0_0, (.slice A0_1 l0_1.length c0_1), .string a0_2, .string a0_3, .int .i64 a0_4, .int .i64 a0_5, .string a0_6, .string a0_7, .int .i64 a0_8, .int .i64 a0_9, .string a0_10] 26 (0, 0))) ∧ Aside0 (Below w.heap.size w wc))
    case first =>
     have H := HC34.out
     clear HC34
     by_cases c35 : (a0_10.size : Int) > 4096
     ·rw [if_pos c35] at H
      have c35b0 := decide_eq_true c35
      have c35b1 : decide (4096 < a0_10.size) = true := decide_eq_true (by omega)
      clear c35
      (first | rw [c35b0] | (simp only [i64_w, i32_w]; rw [c35b0]) | skip)
      have H' := Aside0.mk H
      clear H
      obtain ⟨hcz36_0, hcz36_1, hcz36_2, hcz36_3, hcz36_4, hcz36_5, hcz36_6, hcz36_7, hcz36_8, hcz36_9, hcz36_10, hfz36_0, hfz36_1, hfz36_2, hfz36_3, hfz36_4, hfz36_5, hfz36_6, hfz36_7, hfz36_8, hfz36_9, hfz36_10⟩ := bc11 BK101.out
      go_wp2
      go_meet
      case rel => exact ⟨_, (true), z1_, H', ⟨by have := HJ1.out; first | omega | exact Nat.le_refl _⟩, ⟨bk_ BK101.out⟩, ⟨hs_⟩⟩
     ·rw [if_neg c35] at H
      have c35b0 := decide_eq_false c35
      have c35b1 : decide (4096 < a0_10.size) = false := decide_eq_false (by omega)
      clear c35
      (first | rw [c35b0] | (simp only [i64_w, i32_w]; rw [c35b0]) | skip)
      have H' := Aside0.mk H
      clear H
      obtain ⟨hcz37_0, hcz37_1, hcz37_2, hcz37_3, hcz37_4, hcz37_5, hcz37_6, hcz37_7, hcz37_8, hcz37_9, hcz37_10, hfz37_0, hfz37_1, hfz37_2, hfz37_3, hfz37_4, hfz37_5, hfz37_6, hfz37_7, hfz37_8, hfz37_9, hfz37_10⟩ := bc11 BK101.out
      go_wp2
      go_meet
      case rel => exact ⟨_, (decide ((l0_1.length : Int) > 8)), z1_, H', ⟨by have := HJ1.out; first | omega | exact Nat.le_refl _⟩, ⟨bk_ BK101.out⟩, ⟨hs_⟩⟩
    case rest =>
     clear HC34
     try clear c1
     try clear p2
     try clear c3
     try clear c5
     try clear c6
     try clear c8
     try clear c12
     try clear c14
     try clear c18
     try clear c33
     try clear c35
     try clear c35b0
     try clear c35b1
     try clear hcz16_0 hcz16_1 hcz16_10 hcz16_2 hcz16_3 hcz16_4 hcz16_5 hcz16_6 hcz16_7 hcz16_8 hcz16_9
     try clear hcz18_0 hcz18_1 hcz18_10 hcz18_2 hcz18_3 hcz18_4 hcz18_5 hcz18_6 hcz18_7 hcz18_8 hcz18_9
     try clear hcz20_0 hcz20_1 hcz20_10 hcz20_2 hcz20_3 hcz20_4 hcz20_5 hcz20_6 hcz20_7 hcz20_8 hcz20_9
     try clear hcz22_0 hcz22_1 hcz22_10 hcz22_2 hcz22_3 hcz22_4 hcz22_5 hcz22_6 hcz22_7 hcz22_8 hcz22_9
     try clear hcz23_0 hcz23_1 hcz23_10 hcz23_2 hcz23_3 hcz23_4 hcz23_5 hcz23_6 hcz23_7 hcz23_8 hcz23_9
     try clear hcz25_0 hcz25_1 hcz25_10 hcz25_2 hcz25_3 hcz25_4 hcz25_5 hcz25_6 hcz25_7 hcz25_8 hcz25_9
     try clear hcz27_0 hcz27_1 hcz27_10 hcz27_2 hcz27_3 hcz27_4 hcz27_5 hcz27_6 hcz27_7 hcz27_8 hcz27_9
     try clear hcz29_0 hcz29_1 hcz29_10 hcz29_2 hcz29_3 hcz29_4 hcz29_5 hcz29_6 hcz29_7 hcz29_8 hcz29_9
     try clear hcz31_0 hcz31_1 hcz31_10 hcz31_2 hcz31_3 hcz31_4 hcz31_5 hcz31_6 hcz31_7 hcz31_8 hcz31_9
     try clear hcz36_0 hcz36_1 hcz36_10 hcz36_2 hcz36_3 hcz36_4 hcz36_5 hcz36_6 hcz36_7 hcz36_8 hcz36_9
     try clear hcz37_0 hcz37_1 hcz37_10 hcz37_2 hcz37_3 hcz37_4 hcz37_5 hcz37_6 hcz37_7 hcz37_8 hcz37_9
     try clear hcz6_0 hcz6_1 hcz6_10 hcz6_2 hcz6_3 hcz6_4 hcz6_5 hcz6_6 hcz6_7 hcz6_8 hcz6_9
     try clear hcz9_0 hcz9_1 hcz9_10 hcz9_2 hcz9_3 hcz9_4 hcz9_5 hcz9_6 hcz9_7 hcz9_8 hcz9_9
     try clear hfz16_0 hfz16_1 hfz16_10 hfz16_2 hfz16_3 hfz16_4 hfz16_5 hfz16_6 hfz16_7 hfz16_8 hfz16_9
     try clear hfz18_0 hfz18_1 hfz18_10 hfz18_2 hfz18_3 hfz18_4 hfz18_5 hfz18_6 hfz18_7 hfz18_8 hfz18_9
     try clear hfz20_0 hfz20_1 hfz20_10 hfz20_2 hfz20_3 hfz20_4 hfz20_5 hfz20_6 hfz20_7 hfz20_8 hfz20_9
     try clear hfz22_0 hfz22_1 hfz22_10 hfz22_2 hfz22_3 hfz22_4 hfz22_5 hfz22_6 hfz22_7 hfz22_8 hfz22_9
     try clear hfz23_0 hfz23_1 hfz23_10 hfz23_2 hfz23_3 hfz23_4 hfz23_5 hfz23_6 hfz23_7 hfz23_8 hfz23_9
     try clear hfz25_0 hfz25_1 hfz25_10 hfz25_2 hfz25_3 hfz25_4 hfz25_5 hfz25_6 hfz25_7 hfz25_8 hfz25_9
     try clear hfz27_0 hfz27_1 hfz27_10 hfz27_2 hfz27_3 hfz27_4 hfz27_5 hfz27_6 hfz27_7 hfz27_8 hfz27_9
     try clear hfz29_0 hfz29_1 hfz29_10 hfz29_2 hfz29_3 hfz29_4 hfz29_5 hfz29_6 hfz29_7 hfz29_8 hfz29_9
     try clear hfz31_0 hfz31_1 hfz31_10 hfz31_2 hfz31_3 hfz31_4 hfz31_5 hfz31_6 hfz31_7 hfz31_8 hfz31_9
     try clear hfz36_0 hfz36_1 hfz36_10 hfz36_2 hfz36_3 hfz36_4 hfz36_5 hfz36_6 hfz36_7 hfz36_8 hfz36_9
     try clear hfz37_0 hfz37_1 hfz37_10 hfz37_2 hfz37_3 hfz37_4 hfz37_5 hfz37_6 hfz37_7 hfz37_8 hfz37_9
     try clear hfz6_0 hfz6_1 hfz6_10 hfz6_2 hfz6_3 hfz6_4 hfz6_5 hfz6_6 hfz6_7 hfz6_8 hfz6_9
     try clear hfz9_0 hfz9_1 hfz9_10 hfz9_2 hfz9_3 hfz9_4 hfz9_5 hfz9_6 hfz9_7 hfz9_8 hfz9_9
     try clear p2
     obtain ⟨kq, x43_33, rfl, HA, HJ33, BK101, HB⟩ := hcut
     cases kq with
     | zero => exact absurd HA.out (by simp [commit_Check.j1])
     | succ kj33 =>
      have H := HA.out
      clear HA
      simp only [commit_Check.j1] at H
      by_cases c38 : x43_33 = true
      ·subst c38
       have H1 : (some 4) = some r := by rw [if_pos rfl] at H; exact H
       clear H
       have H := H1
       clear H1
       obtain rfl := Option.some.inj H
       go_wp2
       go_ret
       exact ⟨z4_, hs_⟩
      ·replace c38 := Bool.eq_false_iff.mpr c38
       subst c38
       have H1 : (commit_Check.l0 kj33 l0_1 (l0_1.length : Int) 0 MSB.nil) = some r := by rw [if_neg (show ¬ (false = true) by decide)] at H; exact H
       clear H
       have H := H1
       clear H1
       have H' := Aside0.mk H
       clear H
       go_wp2_with (first | ((with_reducible refine gate_dst (N := 44) rfl ?_); (try (refine gate_guard (by rfl) ?_; dsimp only)); refine mkmapB_event rfl (N := 44) rfl rfl ?_; intro gb107 hg w39 hbox hb; have HI107 := Aside0.mk (IsS84.made hbox (by rw [hg]; exact (below_size (hs_)) : w.heap.size ≤ gb107)); replace HB := Aside0.mk (below_step (hs_) hb); have NB101_107 := Aside0.mk (nl2_ hg BK101.out); have NB107_101 := Aside0.mk (ng2_ hg BK101.out); replace BK101 := Aside0.mk (bb_ BK101.out hb); clear hb hbox hg; have hnb40 := NB101_107.out; have hnc40 := NB107_101.out; obtain ⟨hcz41_0, hcz41_1, hcz41_2, hcz41_3, hcz41_4, hcz41_5, hcz41_6, hcz41_7, hcz41_8, hcz41_9, hcz41_10, hfz41_0, hfz41_1, hfz41_2, hfz41_3, hfz41_4, hfz41_5, hfz41_6, hfz41_7, hfz41_8, hfz41_9, hfz41_10⟩ := bc11 BK101.out))
       go_loopg [48] kj33 (fun kq v48 w' => ∃ (x48_3 : Int) (x108000_3 : MSB), v48 = .int .i64 x48_3 ∧ Aside0 (commit_Check.l0 kq l0_1 (l0_1.length : Int) x48_3 x108000_3 = some r) ∧ Aside0 (kq ≤ kj33) ∧ Aside0 (w'.heap[gb101]? = some (.cells #[.string a0_0, (.slice A0_1 l0_1.length c0_1), .string a0_2, .string a0_3, .int .i64 a0_4, .int .i64 a0_5, .string a0_6, .string a0_7, .int .i64 a0_8, .int .i64 a0_9, .string a0_10] 26 (0, 0))) ∧ Aside0 (IsS84 w w' gb107 x108000_3) ∧ Aside0 (Below w.heap.size w w'))
       case atStart => exact ⟨(0), (MSB.nil), z1_, H', ⟨Nat.le_refl _⟩, ⟨bk_ BK101.out⟩, ⟨z29_⟩, ⟨z27_⟩⟩
       case round =>
        clear H'
        try clear c1
        try clear p2
        try clear c3
        try clear c4
        try clear c5
        try clear c6
        try clear c8
        try clear c12
        try clear c14
        try clear c18
        try clear c33
        try clear c35
        try clear c35b0
        try clear c35b1
        try clear c38
        try clear c40
        try clear hcz16_0 hcz16_1 hcz16_10 hcz16_2 hcz16_3 hcz16_4 hcz16_5 hcz16_6 hcz16_7 hcz16_8 hcz16_9
        try clear hcz18_0 hcz18_1 hcz18_10 hcz18_2 hcz18_3 hcz18_4 hcz18_5 hcz18_6 hcz18_7 hcz18_8 hcz18_9
        try clear hcz20_0 hcz20_1 hcz20_10 hcz20_2 hcz20_3 hcz20_4 hcz20_5 hcz20_6 hcz20_7 hcz20_8 hcz20_9
        try clear hcz22_0 hcz22_1 hcz22_10 hcz22_2 hcz22_3 hcz22_4 hcz22_5 hcz22_6 hcz22_7 hcz22_8 hcz22_9
        try clear hcz23_0 hcz23_1 hcz23_10 hcz23_2 hcz23_3 hcz23_4 hcz23_5 hcz23_6 hcz23_7 hcz23_8 hcz23_9
        try clear hcz25_0 hcz25_1 hcz25_10 hcz25_2 hcz25_3 hcz25_4 hcz25_5 hcz25_6 hcz25_7 hcz25_8 hcz25_9
        try clear hcz27_0 hcz27_1 hcz27_10 hcz27_2 hcz27_3 hcz27_4 hcz27_5 hcz27_6 hcz27_7 hcz27_8 hcz27_9
        try clear hcz29_0 hcz29_1 hcz29_10 hcz29_2 hcz29_3 hcz29_4 hcz29_5 hcz29_6 hcz29_7 hcz29_8 hcz29_9
        try clear hcz31_0 hcz31_1 hcz31_10 hcz31_2 hcz31_3 hcz31_4 hcz31_5 hcz31_6 hcz31_7 hcz31_8 hcz31_9
        try clear hcz36_0 hcz36_1 hcz36_10 hcz36_2 hcz36_3 hcz36_4 hcz36_5 hcz36_6 hcz36_7 hcz36_8 hcz36_9
        try clear hcz37_0 hcz37_1 hcz37_10 hcz37_2 hcz37_3 hcz37_4 hcz37_5 hcz37_6 hcz37_7 hcz37_8 hcz37_9
        try clear hcz41_0 hcz41_1 hcz41_10 hcz41_2 hcz41_3 hcz41_4 hcz41_5 hcz41_6 hcz41_7 hcz41_8 hcz41_9
        try clear hcz6_0 hcz6_1 hcz6_10 hcz6_2 hcz6_3 hcz6_4 hcz6_5 hcz6_6 hcz6_7 hcz6_8 hcz6_9
        try clear hcz9_0 hcz9_1 hcz9_10 hcz9_2 hcz9_3 hcz9_4 hcz9_5 hcz9_6 hcz9_7 hcz9_8 hcz9_9
        try clear hfz16_0 hfz16_1 hfz16_10 hfz16_2 hfz16_3 hfz16_4 hfz16_5 hfz16_6 hfz16_7 hfz16_8 hfz16_9
        try clear hfz18_0 hfz18_1 hfz18_10 hfz18_2 hfz18_3 hfz18_4 hfz18_5 hfz18_6 hfz18_7 hfz18_8 hfz18_9
        try clear hfz20_0 hfz20_1 hfz20_10 hfz20_2 hfz20_3 hfz20_4 hfz20_5 hfz20_6 hfz20_7 hfz20_8 hfz20_9
        try clear hfz22_0 hfz22_1 hfz22_10 hfz22_2 hfz22_3 hfz22_4 hfz22_5 hfz22_6 hfz22_7 hfz22_8 hfz22_9
        try clear hfz23_0 hfz23_1 hfz23_10 hfz23_2 hfz23_3 hfz23_4 hfz23_5 hfz23_6 hfz23_7 hfz23_8 hfz23_9
        try clear hfz25_0 hfz25_1 hfz25_10 hfz25_2 hfz25_3 hfz25_4 hfz25_5 hfz25_6 hfz25_7 hfz25_8 hfz25_9
        try clear hfz27_0 hfz27_1 hfz27_10 hfz27_2 hfz27_3 hfz27_4 hfz27_5 hfz27_6 hfz27_7 hfz27_8 hfz27_9
        try clear hfz29_0 hfz29_1 hfz29_10 hfz29_2 hfz29_3 hfz29_4 hfz29_5 hfz29_6 hfz29_7 hfz29_8 hfz29_9
        try clear hfz31_0 hfz31_1 hfz31_10 hfz31_2 hfz31_3 hfz31_4 hfz31_5 hfz31_6 hfz31_7 hfz31_8 hfz31_9
        try clear hfz36_0 hfz36_1 hfz36_10 hfz36_2 hfz36_3 hfz36_4 hfz36_5 hfz36_6 hfz36_7 hfz36_8 hfz36_9
        try clear hfz37_0 hfz37_1 hfz37_10 hfz37_2 hfz37_3 hfz37_4 hfz37_5 hfz37_6 hfz37_7 hfz37_8 hfz37_9
        try clear hfz41_0 hfz41_1 hfz41_10 hfz41_2 hfz41_3 hfz41_4 hfz41_5 hfz41_6 hfz41_7 hfz41_8 hfz41_9
        try clear hfz6_0 hfz6_1 hfz6_10 hfz6_2 hfz6_3 hfz6_4 hfz6_5 hfz6_6 hfz6_7 hfz6_8 hfz6_9
        try clear hfz9_0 hfz9_1 hfz9_10 hfz9_2 hfz9_3 hfz9_4 hfz9_5 hfz9_6 hfz9_7 hfz9_8 hfz9_9
        try clear p2
        obtain ⟨x48_3, x108000_3, rfl, HA, HK3, BK101, HI107, HB⟩ := hrel
        cases gk with
        | zero => exact absurd HA.out (by simp [commit_Check.l0])
        | succ k3 =>
         have H := HA.out
         clear HA
         simp only [commit_Check.l0] at H
         by_cases c42 : x48_3 < (l0_1.length : Int)
         ·rw [if_pos c42] at H
          have c42b0 := decide_eq_true c42
          clear c42
          by_cases c43 : 0 ≤ x48_3
          ·rw [if_pos c43] at H
           have c43b0 := decide_eq_true c43
           clear c43
           by_cases c44 : x48_3 < (l0_1.length : Int)
           ·rw [if_pos c44] at H
            have c44b0 := decide_eq_true c44
            clear c44
            by_cases c45 : (rdOf ByteArray.empty l0_1 x48_3).size ≤ 9223372036854775807
            ·rw [if_pos c45] at H
             have c45b0 := eq_true c45
             have c45b1 := decide_eq_true c45
             try have c45b2 := nl_ c45
             clear c45
             by_cases c46 : MSB.get x108000_3 (rdOf ByteArray.empty l0_1 x48_3) = true
             ·rw [if_pos c46] at H
              have c46b0 : MSB.get x108000_3 (rdOf ByteArray.empty l0_1 x48_3) = true := c46
              clear c46
              obtain rfl := Option.some.inj H
              have p108 : 0 ≤ (x48_3 : Int) := of_decide_eq_true z0_
              have q108 : x48_3 < (l0_1.length : Int) := of_decide_eq_true z0_
              obtain ⟨ad108, e108, hx108_0⟩ := Kd.at_string HR0_1.out x48_3 p108 q108
              cases e108
              replace hx108_0 := (HB.out.cell (World.block_lt_of_cell? w _ hx108_0)).trans hx108_0
              replace p108 := eq_true p108
              replace q108 := eq_true q108
              go_wp2_with (first | ((with_reducible refine gate_dst (N := 54) rfl ?_); (try (refine gate_guard (by rfl) ?_; dsimp only)); refine IsS84.look (show IsS84 w _ gb107 x108000_3 from z29_) rfl rfl rfl rfl (of_decide_eq_true z0_ : (rdOf ByteArray.empty l0_1 x48_3).size ≤ 9223372036854775807) (by first | (with_reducible assumption) | exact rfl) ?_))
              go_ret
              exact ⟨z4_, z27_⟩
             ·rw [if_neg c46] at H
              have c46b0 : MSB.get x108000_3 (rdOf ByteArray.empty l0_1 x48_3) = false := by simpa using c46
              clear c46
              have c47b0 := eq_true (of_decide_eq_true z0_ : (rdOf ByteArray.empty l0_1 x48_3).size ≤ 9223372036854775807)
              by_cases c48 : x108000_3.n < 4611686018427387904
              ·rw [if_pos c48] at H
               have c48b0 := eq_true c48
               have c48b1 := decide_eq_true c48
               clear c48
               have H' := Aside0.mk H
               clear H
               have p108 : 0 ≤ (x48_3 : Int) := of_decide_eq_true z0_
               have q108 : x48_3 < (l0_1.length : Int) := of_decide_eq_true z0_
               obtain ⟨ad108, e108, hx108_0⟩ := Kd.at_string HR0_1.out x48_3 p108 q108
               cases e108
               replace hx108_0 := (HB.out.cell (World.block_lt_of_cell? w _ hx108_0)).trans hx108_0
               replace p108 := eq_true p108
               replace q108 := eq_true q108
               go_wp2_with (first | ((with_reducible refine gate_dst (N := 54) rfl ?_); (try (refine gate_guard (by rfl) ?_; dsimp only)); refine IsS84.look (show IsS84 w _ gb107 x108000_3 from z29_) rfl rfl rfl rfl (of_decide_eq_true z0_ : (rdOf ByteArray.empty l0_1 x48_3).size ≤ 9223372036854775807) (by first | (with_reducible assumption) | exact rfl) ?_) | (at_mapUpdate; refine IsS84.put_ (k := (rdOf ByteArray.empty l0_1 x48_3)) (n := true) (show IsS84 w _ gb107 x108000_3 from z29_) rfl rfl rfl rfl rfl (of_decide_eq_true z0_ : (rdOf ByteArray.empty l0_1 x48_3).size ≤ 9223372036854775807) (of_decide_eq_true z0_ : x108000_3.n < 4611686018427387904) trivial ?_; intro w49 hi hg; replace BK101 := Aside0.mk (blk_grown (g := gb101) (o := .cells #[.string a0_0, .slice (some ad108) l0_1.length c0_1, .string a0_2, .string a0_3, .int .i64 a0_4, .int .i64 a0_5, .string a0_6, .string a0_7, .int .i64 a0_8, .int .i64 a0_9, .string a0_10] 26 (0, 0)) (bk_ BK101.out) hg (fun e_ => NB101_107.out (Option.some.inj e_))); replace HB := Aside0.mk (Below.grown z27_ hg ((below_size z27_)) (fun k_ e_ => (Option.some.inj e_) ▸ (IsS84.ge hi))); replace HI107 := Aside0.mk (hi); clear hi hg))
               go_roundg k3
               case measure => have := HJ1.out; have := HJ33.out; have := HK3.out; omega
               case rel => exact ⟨(wrap64 (x48_3 + 1)), (MSB.put x108000_3 (rdOf ByteArray.empty l0_1 x48_3) true), z1_, H', ⟨by have := HJ1.out; have := HJ33.out; have := HK3.out; omega⟩, ⟨bk_ BK101.out⟩, ⟨z29_⟩, ⟨z27_⟩⟩
              ·rw [if_neg c48] at H
               exact absurd H (by simp)
            ·rw [if_neg c45] at H
             exact absurd H (by simp)
           ·rw [if_neg c44] at H
            exact absurd H (by simp)
          ·rw [if_neg c43] at H
           exact absurd H (by simp)
         ·rw [if_neg c42] at H
          have c42b0 := decide_eq_false c42
          clear c42
          obtain rfl := Option.some.inj H
          go_wp2
          go_ret
          exact ⟨z4_, z27_⟩


def commit_Body.l0 : Nat → ByteArray → List ByteArray → Int → Int → ByteArray → List ByteArray → ByteArray → ByteArray → Int → Int → ByteArray → ByteArray → Int → Int → ByteArray → Option (ByteArray × Int)
 | 0, _, _, _, _, _, _, _, _, _, _, _, _, _, _, _ => none
 | k + 1, x5, x18, x19, x20, x102000, x102001, x102002, x102003, x102004, x102005, x102006, x102007, x102008, x102009, x102010 => if x20 < x19 then (if 0 ≤ x20 then (if x20 < (x18.length : Int) then (if 7 + (rdOf ByteArray.empty x18 x20).size ≤ 9223372036854775807 then (if ((⟨#[112, 97, 114, 101, 110, 116, 32]⟩ : ByteArray) ++ (rdOf ByteArray.empty x18 x20)).size + 1 ≤ 9223372036854775807 then (if x5.size + (((⟨#[112, 97, 114, 101, 110, 116, 32]⟩ : ByteArray) ++ (rdOf ByteArray.empty x18 x20)) ++ (⟨#[10]⟩ : ByteArray)).size ≤ 9223372036854775807 then (commit_Body.l0 k (x5 ++ (((⟨#[112, 97, 114, 101, 110, 116, 32]⟩ : ByteArray) ++ (rdOf ByteArray.empty x18 x20)) ++ (⟨#[10]⟩ : ByteArray))) x18 x19 (wrap64 (x20 + 1)) x102000 x102001 x102002 x102003 x102004 x102005 x102006 x102007 x102008 x102009 x102010) else (none)) else (none)) else (none)) else (none)) else (none)) else (if x5.size + 7 ≤ 9223372036854775807 then ((commit_Who.f x102002 x102003 x102004 x102005).bind fun t104 => (if (x5 ++ (⟨#[97, 117, 116, 104, 111, 114, 32]⟩ : ByteArray)).size + t104.size ≤ 9223372036854775807 then (if ((x5 ++ (⟨#[97, 117, 116, 104, 111, 114, 32]⟩ : ByteArray)) ++ t104).size + 11 ≤ 9223372036854775807 then ((commit_Who.f x102006 x102007 x102008 x102009).bind fun t105 => (if (((x5 ++ (⟨#[97, 117, 116, 104, 111, 114, 32]⟩ : ByteArray)) ++ t104) ++ (⟨#[10, 99, 111, 109, 109, 105, 116, 116, 101, 114, 32]⟩ : ByteArray)).size + t105.size ≤ 9223372036854775807 then (if ((((x5 ++ (⟨#[97, 117, 116, 104, 111, 114, 32]⟩ : ByteArray)) ++ t104) ++ (⟨#[10, 99, 111, 109, 109, 105, 116, 116, 101, 114, 32]⟩ : ByteArray)) ++ t105).size + 2 ≤ 9223372036854775807 then (if (((((x5 ++ (⟨#[97, 117, 116, 104, 111, 114, 32]⟩ : ByteArray)) ++ t104) ++ (⟨#[10, 99, 111, 109, 109, 105, 116, 116, 101, 114, 32]⟩ : ByteArray)) ++ t105) ++ (⟨#[10, 10]⟩ : ByteArray)).size + x102010.size ≤ 9223372036854775807 then (some ((((((x5 ++ (⟨#[97, 117, 116, 104, 111, 114, 32]⟩ : ByteArray)) ++ t104) ++ (⟨#[10, 99, 111, 109, 109, 105, 116, 116, 101, 114, 32]⟩ : ByteArray)) ++ t105) ++ (⟨#[10, 10]⟩ : ByteArray)) ++ x102010, 0)) else (none)) else (none)) else (none))) else (none)) else (none))) else (none))
def commit_Body.f (k : Nat) (a0_0 : ByteArray) (l0_1 : List ByteArray) (a0_2 : ByteArray) (a0_3 : ByteArray) (a0_4 : Int) (a0_5 : Int) (a0_6 : ByteArray) (a0_7 : ByteArray) (a0_8 : Int) (a0_9 : Int) (a0_10 : ByteArray) : Option (ByteArray × Int) := (commit_Check.f k a0_0 l0_1 a0_2 a0_3 a0_4 a0_5 a0_6 a0_7 a0_8 a0_9 a0_10).bind fun t102 => (if t102 = 0 then (if 5 + a0_0.size ≤ 9223372036854775807 then (if ((⟨#[116, 114, 101, 101, 32]⟩ : ByteArray) ++ a0_0).size + 1 ≤ 9223372036854775807 then (commit_Body.l0 k (((⟨#[116, 114, 101, 101, 32]⟩ : ByteArray) ++ a0_0) ++ (⟨#[10]⟩ : ByteArray)) l0_1 (l0_1.length : Int) 0 a0_0 l0_1 a0_2 a0_3 a0_4 a0_5 a0_6 a0_7 a0_8 a0_9 a0_10) else (none)) else (none)) else (some ((⟨#[]⟩ : ByteArray), t102)))
theorem commit_Body.mono_l : ∀ k, (∀ y0 y1 y2 y3 y4 y5 y6 y7 y8 y9 y10 y11 y12 y13 y14, LeO (commit_Body.l0 k y0 y1 y2 y3 y4 y5 y6 y7 y8 y9 y10 y11 y12 y13 y14) (commit_Body.l0 (k + 1) y0 y1 y2 y3 y4 y5 y6 y7 y8 y9 y10 y11 y12 y13 y14))
 | 0 => fun _ _ _ _ _ _ _ _ _ _ _ _ _ _ _ r h => by simp [commit_Body.l0] at h
 | k + 1 => by
  have ih0 := commit_Body.mono_l k
  ·intro y0 y1 y2 y3 y4 y5 y6 y7 y8 y9 y10 y11 y12 y13 y14
   unfold commit_Body.l0
   have m0_ := @ih0
   have m1_ := @commit_Check.mono
   exact mz_
theorem commit_Body.mono : ∀ a0 a1 a2 a3 a4 a5 a6 a7 a8 a9 a10 k, LeO (commit_Body.f k a0 a1 a2 a3 a4 a5 a6 a7 a8 a9 a10) (commit_Body.f (k + 1) a0 a1 a2 a3 a4 a5 a6 a7 a8 a9 a10) := by
 intro a0 a1 a2 a3 a4 a5 a6 a7 a8 a9 a10 k
 have ih0 := commit_Body.mono_l k
 unfold commit_Body.f
 have m0_ := @ih0
 have m1_ := @commit_Check.mono
 exact mz_
def commit_Body.T10 : Bool × List (List Nat × List Nat) := (true, [([], []), ([0], [0]), ([], []), ([2], [2]), ([3], [3]), ([1, 4], [1, 4]), ([5], [5]), ([], []), ([7], [7]), ([8, 4], [8]), ([6, 9], [6, 9]), ([10], [10]), ([], []), ([12], [12]), ([11, 13], [11, 13]), ([14, 9, 0, 1, 2, 3, 4, 5, 6, 7, 8, 9, 10, 11, 12, 13, 14], [14]), ([15, 0, 1, 2, 3, 4, 5, 6, 7, 8, 9, 10, 11, 12, 13, 14, 15], [])])
def commit_Body.B10 : List Nat := [0, 1, 0, 4, 12, 31, 63, 0, 128, 412, 1023, 2047, 0, 4096, 16383, 32767, 65535]
theorem commit_Body.tab10 : rtab .any (opsOf Tryz.f16 10) = commit_Body.T10 := by kernel_rfl
theorem commit_Body.bits10 : waitsOk commit_Body.T10.2 commit_Body.B10 = true := by kernel_rfl
set_option maxHeartbeats 8000000 in
set_option maxRecDepth 100000 in
theorem commit_Body.calls (k : Nat) (a0_0 : ByteArray) (A0_1 : Option Addr) (c0_1 : Nat) (l0_1 : List ByteArray) (a0_2 : ByteArray) (a0_3 : ByteArray) (a0_4 : Int) (a0_5 : Int) (a0_6 : ByteArray) (a0_7 : ByteArray) (a0_8 : Int) (a0_9 : Int) (a0_10 : ByteArray) (r1 : ByteArray) (r2 : Int) (w : World) (hr0_1 : Kd.C Kd.string w A0_1 l0_1.length l0_1) (hc0_1 : l0_1.length ≤ c0_1) (hgv : GV w) (h : commit_Body.f k a0_0 l0_1 a0_2 a0_3 a0_4 a0_5 a0_6 a0_7 a0_8 a0_9 a0_10 = some (r1, r2)) :
  Calls Tryz.prog 16 #[.agg #[.string a0_0, .slice A0_1 l0_1.length c0_1, .string a0_2, .string a0_3, .int .i64 a0_4, .int .i64 a0_5, .string a0_6, .string a0_7, .int .i64 a0_8, .int .i64 a0_9, .string a0_10]] w fun e w' => e = .returned (.tuple #[.string r1, .int .i64 r2]) ∧ Below w.heap.size w w' := by
 have hu26 := Tryz.underlying26
 have hu24 := Tryz.underlying24
 have HR0_1 := Aside0.mk hr0_1
 have HC0_1 := Aside0.mk hc0_1
 clear hr0_1 hc0_1
 have HB := Aside0.mk (Below.refl w.heap.size w)
 have H : ((commit_Check.f k a0_0 l0_1 a0_2 a0_3 a0_4 a0_5 a0_6 a0_7 a0_8 a0_9 a0_10).bind fun t102 => (if t102 = 0 then (if 5 + a0_0.size ≤ 9223372036854775807 then (if ((⟨#[116, 114, 101, 101, 32]⟩ : ByteArray) ++ a0_0).size + 1 ≤ 9223372036854775807 then (commit_Body.l0 k (((⟨#[116, 114, 101, 101, 32]⟩ : ByteArray) ++ a0_0) ++ (⟨#[10]⟩ : ByteArray)) l0_1 (l0_1.length : Int) 0 a0_0 l0_1 a0_2 a0_3 a0_4 a0_5 a0_6 a0_7 a0_8 a0_9 a0_10) else (none)) else (none)) else (some ((⟨#[]⟩ : ByteArray), t102)))) = some (r1, r2) := h
 clear h
 replace H := Option.bind_eq_some_iff.mp H
 obtain ⟨t102, A20, H⟩ := H
 have A2 := Aside0.mk A20
 clear A20
 by_cases c3 : t102 = 0
 ·rw [if_pos c3] at H
  have c3b0 := beq_iff_eq.mpr c3
  have c3b1 := bne_eq_false_iff_eq.mpr c3
  clear c3
  by_cases c4 : 5 + a0_0.size ≤ 9223372036854775807
  ·rw [if_pos c4] at H
   have c4b0 := eq_true c4
   have c4b1 := decide_eq_true c4
   try have c4b2 := nl_ c4
   by_cases c5 : ((⟨#[116, 114, 101, 101, 32]⟩ : ByteArray) ++ a0_0).size + 1 ≤ 9223372036854775807
   ·rw [if_pos c5] at H
    have c5b0 := eq_true c5
    have c5b1 := decide_eq_true c5
    try have c5b3 : (9223372036854775807 < 5 + a0_0.size + 1) = False := have h_ := c5; ns_
    try have c5b2 := nl_ c5
    have H' := Aside0.mk H
    clear H
    go_enter Tryz.func16, Tryz.ntmps16
    go_wp2_with (first | ((with_reducible refine gate_dst (N := 1) rfl ?_); refine be_ (cs := #[.string a0_0, .slice A0_1 l0_1.length c0_1, .string a0_2, .string a0_3, .int .i64 a0_4, .int .i64 a0_5, .string a0_6, .string a0_7, .int .i64 a0_8, .int .i64 a0_9, .string a0_10]) (t := 26) ?_; intro gb101 hg w6 hbox hb; have BK101 := Aside0.mk (hbox); have GW101 := Aside0.mk (gw_ hg HB.out); have GE101 := Aside0.mk (gw_ hg HB.out); replace HB := Aside0.mk (below_step (hb_ HB.out) hb); clear hb hbox hg; obtain ⟨hcz7_0, hcz7_1, hcz7_2, hcz7_3, hcz7_4, hcz7_5, hcz7_6, hcz7_7, hcz7_8, hcz7_9, hcz7_10, hfz7_0, hfz7_1, hfz7_2, hfz7_3, hfz7_4, hfz7_5, hfz7_6, hfz7_7, hfz7_8, hfz7_9, hfz7_10⟩ := bc11 BK101.out) | ((with_reducible refine gate_callee (f := 18) rfl ?_); refine goesL_ (some 9) rfl rfl Tryz.func18 (by kernel_rfl) rfl #[.agg #[.string a0_0, .slice A0_1 l0_1.length c0_1, .string a0_2, .string a0_3, .int .i64 a0_4, .int .i64 a0_5, .string a0_6, .string a0_7, .int .i64 a0_8, .int .i64 a0_9, .string a0_10]] rfl z2_ ?_; (with_reducible refine (commit_Check.calls k a0_0 _ _ l0_1 a0_2 a0_3 a0_4 a0_5 a0_6 a0_7 a0_8 a0_9 a0_10 t102 _ ?side1 ?side2 ?side3 A2.out).mono ?_); (case side1 => repeat (first | exact (Kd.C_below HR0_1.out HB.out) | (with_reducible refine Kd.C_alloc ?_ _) | (with_reducible refine Kd.C_drewN ?_ _) | (with_reducible refine Kd.C_drew ?_))); (case side2 => exact HC0_1.out); (case side3 => exact GV.below hgv (hs_)); rintro e w8 ⟨rfl, hb⟩; refine ⟨_, rfl, ?_⟩; replace BK101 := Aside0.mk (bb_ BK101.out hb); replace HB := Aside0.mk (below_step (hs_) hb); (try clear hb); (try clear hb2); (try clear hk); (try clear hi); obtain ⟨hcz9_0, hcz9_1, hcz9_2, hcz9_3, hcz9_4, hcz9_5, hcz9_6, hcz9_7, hcz9_8, hcz9_9, hcz9_10, hfz9_0, hfz9_1, hfz9_2, hfz9_3, hfz9_4, hfz9_5, hfz9_6, hfz9_7, hfz9_8, hfz9_9, hfz9_10⟩ := bc11 BK101.out))
    go_loopg [5, 20] k (fun kq v5 v20 w' => ∃ (x5_1 : ByteArray) (x20_1 : Int), v5 = .string x5_1 ∧ v20 = .int .i64 x20_1 ∧ Aside0 (commit_Body.l0 kq x5_1 l0_1 (l0_1.length : Int) x20_1 a0_0 l0_1 a0_2 a0_3 a0_4 a0_5 a0_6 a0_7 a0_8 a0_9 a0_10 = some (r1, r2)) ∧ Aside0 (kq ≤ k) ∧ Aside0 (w'.heap[gb101]? = some (.cells #[.string a0_0, (.slice A0_1 l0_1.length c0_1), .string a0_2, .string a0_3, .int .i64 a0_4, .int .i64 a0_5, .string a0_6, .string a0_7, .int .i64 a0_8, .int .i64 a0_9, .string a0_10] 26 (0, 0))) ∧ Aside0 (Below w.heap.size w w'))
    case atStart => exact ⟨(((⟨#[116, 114, 101, 101, 32]⟩ : ByteArray) ++ a0_0) ++ (⟨#[10]⟩ : ByteArray)), (0), z1_, z1_, H', ⟨Nat.le_refl _⟩, ⟨bk_ BK101.out⟩, ⟨hs_⟩⟩
    case round =>
     clear H'
     try clear c1
     try clear p2
     try clear c3
     try clear c3b0
     try clear c3b1
     try clear c4
     try clear c4b0
     try clear c4b1
     try clear c4b2
     try clear c5
     try clear c5b0
     try clear c5b1
     try clear c5b2
     try clear hcz7_0 hcz7_1 hcz7_10 hcz7_2 hcz7_3 hcz7_4 hcz7_5 hcz7_6 hcz7_7 hcz7_8 hcz7_9
     try clear hcz9_0 hcz9_1 hcz9_10 hcz9_2 hcz9_3 hcz9_4 hcz9_5 hcz9_6 hcz9_7 hcz9_8 hcz9_9
     try clear hfz7_0 hfz7_1 hfz7_10 hfz7_2 hfz7_3 hfz7_4 hfz7_5 hfz7_6 hfz7_7 hfz7_8 hfz7_9
     try clear hfz9_0 hfz9_1 hfz9_10 hfz9_2 hfz9_3 hfz9_4 hfz9_5 hfz9_6 hfz9_7 hfz9_8 hfz9_9
     obtain ⟨x5_1, x20_1, rfl, rfl, HA, HK1, BK101, HB⟩ := hrel
     cases gk with
     | zero => exact absurd HA.out (by simp [commit_Body.l0])
     | succ k1 =>
      have H := HA.out
      clear HA
      simp only [commit_Body.l0] at H
      by_cases c10 : x20_1 < (l0_1.length : Int)
      ·rw [if_pos c10] at H
       have c10b0 := decide_eq_true c10
       clear c10
       by_cases c11 : 0 ≤ x20_1
       ·rw [if_pos c11] at H
        have c11b0 := decide_eq_true c11
        clear c11
        by_cases c12 : x20_1 < (l0_1.length : Int)
        ·rw [if_pos c12] at H
         have c12b0 := decide_eq_true c12
         clear c12
         by_cases c13 : 7 + (rdOf ByteArray.empty l0_1 x20_1).size ≤ 9223372036854775807
         ·rw [if_pos c13] at H
          have c13b0 := eq_true c13
          have c13b1 := decide_eq_true c13
          try have c13b2 := nl_ c13
          by_cases c14 : ((⟨#[112, 97, 114, 101, 110, 116, 32]⟩ : ByteArray) ++ (rdOf ByteArray.empty l0_1 x20_1)).size + 1 ≤ 9223372036854775807
          ·rw [if_pos c14] at H
           have c14b0 := eq_true c14
           have c14b1 := decide_eq_true c14
           try have c14b3 : (9223372036854775807 < 7 + (rdOf ByteArray.empty l0_1 x20_1).size + 1) = False := have h_ := c14; ns_
           try have c14b2 := nl_ c14
           by_cases c15 : x5_1.size + (((⟨#[112, 97, 114, 101, 110, 116, 32]⟩ : ByteArray) ++ (rdOf ByteArray.empty l0_1 x20_1)) ++ (⟨#[10]⟩ : ByteArray)).size ≤ 9223372036854775807
           ·rw [if_pos c15] at H
            have c15b0 := eq_true c15
            have c15b1 := decide_eq_true c15
            try have c15b3 : (9223372036854775807 < x5_1.size + (7 + (rdOf ByteArray.empty l0_1 x20_1).size + 1)) = False := have h_ := c15; ns_
            try have c15b2 := nl_ c15
            have H' := Aside0.mk H
            clear H
            have p103 : 0 ≤ (x20_1 : Int) := of_decide_eq_true z0_
            have q103 : x20_1 < (l0_1.length : Int) := of_decide_eq_true z0_
            obtain ⟨ad103, e103, hx103_0⟩ := Kd.at_string HR0_1.out x20_1 p103 q103
            cases e103
            replace hx103_0 := (HB.out.cell (World.block_lt_of_cell? w _ hx103_0)).trans hx103_0
            replace p103 := eq_true p103
            replace q103 := eq_true q103
            go_wp2
            go_roundg k1
            case measure => have := HK1.out; omega
            case rel => exact ⟨(x5_1 ++ (((⟨#[112, 97, 114, 101, 110, 116, 32]⟩ : ByteArray) ++ (rdOf ByteArray.empty l0_1 x20_1)) ++ (⟨#[10]⟩ : ByteArray))), (wrap64 (x20_1 + 1)), z1_, z1_, H', ⟨by have := HK1.out; omega⟩, ⟨bk_ BK101.out⟩, ⟨hs_⟩⟩
           ·rw [if_neg c15] at H
            exact absurd H (by simp)
          ·rw [if_neg c14] at H
           exact absurd H (by simp)
         ·rw [if_neg c13] at H
          exact absurd H (by simp)
        ·rw [if_neg c12] at H
         exact absurd H (by simp)
       ·rw [if_neg c11] at H
        exact absurd H (by simp)
      ·rw [if_neg c10] at H
       have c10b0 := decide_eq_false c10
       clear c10
       by_cases c16 : x5_1.size + 7 ≤ 9223372036854775807
       ·rw [if_pos c16] at H
        have c16b0 := eq_true c16
        have c16b1 := decide_eq_true c16
        try have c16b2 := nl_ c16
        replace H := Option.bind_eq_some_iff.mp H
        obtain ⟨t104, A170, H⟩ := H
        have A17 := Aside0.mk A170
        clear A170
        by_cases c18 : (x5_1 ++ (⟨#[97, 117, 116, 104, 111, 114, 32]⟩ : ByteArray)).size + t104.size ≤ 9223372036854775807
        ·rw [if_pos c18] at H
         have c18b0 := eq_true c18
         have c18b1 := decide_eq_true c18
         try have c18b3 : (9223372036854775807 < x5_1.size + 7 + t104.size) = False := have h_ := c18; ns_
         try have c18b2 := nl_ c18
         by_cases c19 : ((x5_1 ++ (⟨#[97, 117, 116, 104, 111, 114, 32]⟩ : ByteArray)) ++ t104).size + 11 ≤ 9223372036854775807
         ·rw [if_pos c19] at H
          have c19b0 := eq_true c19
          have c19b1 := decide_eq_true c19
          try have c19b3 : (9223372036854775807 < x5_1.size + 7 + t104.size + 11) = False := have h_ := c19; ns_
          try have c19b2 := nl_ c19
          replace H := Option.bind_eq_some_iff.mp H
          obtain ⟨t105, A200, H⟩ := H
          have A20 := Aside0.mk A200
          clear A200
          by_cases c21 : (((x5_1 ++ (⟨#[97, 117, 116, 104, 111, 114, 32]⟩ : ByteArray)) ++ t104) ++ (⟨#[10, 99, 111, 109, 109, 105, 116, 116, 101, 114, 32]⟩ : ByteArray)).size + t105.size ≤ 9223372036854775807
          ·rw [if_pos c21] at H
           have c21b0 := eq_true c21
           have c21b1 := decide_eq_true c21
           try have c21b3 : (9223372036854775807 < x5_1.size + 7 + t104.size + 11 + t105.size) = False := have h_ := c21; ns_
           try have c21b2 := nl_ c21
           by_cases c22 : ((((x5_1 ++ (⟨#[97, 117, 116, 104, 111, 114, 32]⟩ : ByteArray)) ++ t104) ++ (⟨#[10, 99, 111, 109, 109, 105, 116, 116, 101, 114, 32]⟩ : ByteArray)) ++ t105).size + 2 ≤ 9223372036854775807
           ·rw [if_pos c22] at H
            have c22b0 := eq_true c22
            have c22b1 := decide_eq_true c22
            try have c22b3 : (9223372036854775807 < x5_1.size + 7 + t104.size + 11 + t105.size + 2) = False := have h_ := c22; ns_
            try have c22b2 := nl_ c22
            by_cases c23 : (((((x5_1 ++ (⟨#[97, 117, 116, 104, 111, 114, 32]⟩ : ByteArray)) ++ t104) ++ (⟨#[10, 99, 111, 109, 109, 105, 116, 116, 101, 114, 32]⟩ : ByteArray)) ++ t105) ++ (⟨#[10, 10]⟩ : ByteArray)).size + a0_10.size ≤ 9223372036854775807
            ·rw [if_pos c23] at H
             have c23b0 := eq_true c23
             have c23b1 := decide_eq_true c23
             try have c23b3 : (9223372036854775807 < x5_1.size + 7 + t104.size + 11 + t105.size + 2 + a0_10.size) = False := have h_ := c23; ns_
             try have c23b2 := nl_ c23
             simp only [Option.some.injEq, Prod.mk.injEq] at H
             obtain ⟨rfl, rfl⟩ := H
             try go_wp2
             replace BK101 := Aside0.mk (blk_drew BK101.out)
             replace HB := Aside0.mk (below_drew1 HB.out)
             refine start_ (n := 17) (S := fun w' => w'.cell? ⟨gb101, 0, none⟩ = some (.string a0_0) ∧ w'.cell? ⟨gb101, 1, none⟩ = some (.slice A0_1 l0_1.length c0_1) ∧ w'.cell? ⟨gb101, 2, none⟩ = some (.string a0_2) ∧ w'.cell? ⟨gb101, 3, none⟩ = some (.string a0_3) ∧ w'.cell? ⟨gb101, 4, none⟩ = some (.int .i64 a0_4) ∧ w'.cell? ⟨gb101, 5, none⟩ = some (.int .i64 a0_5) ∧ w'.cell? ⟨gb101, 6, none⟩ = some (.string a0_6) ∧ w'.cell? ⟨gb101, 7, none⟩ = some (.string a0_7) ∧ w'.cell? ⟨gb101, 8, none⟩ = some (.int .i64 a0_8) ∧ w'.cell? ⟨gb101, 9, none⟩ = some (.int .i64 a0_9) ∧ w'.cell? ⟨gb101, 10, none⟩ = some (.string a0_10)) (ds := []) (bs 17 0) (by kernel_rfl) rfl rfl ⟨(blk_cell BK101.out 0).trans rfl, (blk_cell BK101.out 1).trans rfl, (blk_cell BK101.out 2).trans rfl, (blk_cell BK101.out 3).trans rfl, (blk_cell BK101.out 4).trans rfl, (blk_cell BK101.out 5).trans rfl, (blk_cell BK101.out 6).trans rfl, (blk_cell BK101.out 7).trans rfl, (blk_cell BK101.out 8).trans rfl, (blk_cell BK101.out 9).trans rfl, (blk_cell BK101.out 10).trans rfl⟩ (fun hHeld => ?_); refine with_tabW commit_Body.tab10 commit_Body.bits10 (fun HT_ HW_ => ?_)
             generalize wr.drew = w24 at BK101 HB hHeld ⊢
             refine pu_ (i := 0) (N := some 30) (bs 17 1) rfl rfl ?_
             refine pu_ (i := 1) (N := some 31) (bs 17 3) rfl rfl ?_
             refine pu_ (i := 2) (N := some 32) (bs 17 7) rfl rfl ?_
             refine pu_ (i := 7) (N := some 37) (bs 17 135) rfl rfl ?_
             refine pu_ (i := 12) (N := some 42) (bs 17 4231) rfl rfl ?_
             refine tkW11_ (i := 3) (N := some 33) (bs 17 4239) rfl rfl hHeld ?_
             refine tkW11_ (i := 8) (N := some 38) (bs 17 4495) rfl rfl hHeld ?_
             refine tkW11_ (i := 13) (N := some 43) (bs 17 12687) rfl rfl hHeld ?_
             refine one_ (i := 4) (N := some 34) (bs 17 12703) rfl rfl (one_of HT_.out (by kernel_rfl)) (by decide) (fun K hK => ?_)
             refine goes_ Tryz.func31 (by kernel_rfl) rfl #[.agg #[.string a0_2, .string a0_3, .int .i64 a0_4, .int .i64 a0_5]] (by rfl) rfl rfl z2_ ?_
             with_reducible refine (commit_Who.calls a0_2 a0_3 a0_4 a0_5 t104 _ ?side1 A17.out).mono ?_
             (case side1 => exact GV.below hgv (hs_))
             rintro e w25 ⟨rfl, hb⟩
             refine ⟨_, rfl, ?_⟩
             replace BK101 := Aside0.mk (bb_ BK101.out hb)
             replace HB := Aside0.mk (below_step (hs_) hb)
             (try clear hb)
             (try clear hb2)
             (try clear hk)
             (try clear hi)
             refine hK.out _ _ ⟨(blk_cell BK101.out 0).trans rfl, (blk_cell BK101.out 1).trans rfl, (blk_cell BK101.out 2).trans rfl, (blk_cell BK101.out 3).trans rfl, (blk_cell BK101.out 4).trans rfl, (blk_cell BK101.out 5).trans rfl, (blk_cell BK101.out 6).trans rfl, (blk_cell BK101.out 7).trans rfl, (blk_cell BK101.out 8).trans rfl, (blk_cell BK101.out 9).trans rfl, (blk_cell BK101.out 10).trans rfl⟩ (fun hHeld => ?_)
             clear hK K
             refine norm_ (a' := ?_) ?_ ?_
             rotate_left
             ·show Act.put _ (some 34) _ = _
              simp only [Act.put, List.setIfInBounds_toArray, List.set_cons_zero, List.set_cons_succ, i64_w, i32_w]
              rfl
             refine pu_ (i := 5) (N := some 35) (bs 17 12735) rfl rfl ?_
             refine pu_ (i := 6) (N := some 36) (bs 17 12799) rfl rfl ?_
             refine one_ (i := 9) (N := some 39) (bs 17 13311) rfl rfl (one_of HT_.out (by kernel_rfl)) (by decide) (fun K hK => ?_)
             refine goes_ Tryz.func31 (by kernel_rfl) rfl #[.agg #[.string a0_6, .string a0_7, .int .i64 a0_8, .int .i64 a0_9]] (by rfl) rfl rfl z2_ ?_
             with_reducible refine (commit_Who.calls a0_6 a0_7 a0_8 a0_9 t105 _ ?side1 A20.out).mono ?_
             (case side1 => exact GV.below hgv (hs_))
             rintro e w26 ⟨rfl, hb⟩
             refine ⟨_, rfl, ?_⟩
             replace BK101 := Aside0.mk (bb_ BK101.out hb)
             replace HB := Aside0.mk (below_step (hs_) hb)
             (try clear hb)
             (try clear hb2)
             (try clear hk)
             (try clear hi)
             refine hK.out _ _ ⟨(blk_cell BK101.out 0).trans rfl, (blk_cell BK101.out 1).trans rfl, (blk_cell BK101.out 2).trans rfl, (blk_cell BK101.out 3).trans rfl, (blk_cell BK101.out 4).trans rfl, (blk_cell BK101.out 5).trans rfl, (blk_cell BK101.out 6).trans rfl, (blk_cell BK101.out 7).trans rfl, (blk_cell BK101.out 8).trans rfl, (blk_cell BK101.out 9).trans rfl, (blk_cell BK101.out 10).trans rfl⟩ (fun hHeld => ?_)
             clear hK K
             refine norm_ (a' := ?_) ?_ ?_
             rotate_left
             ·show Act.put _ (some 39) _ = _
              simp only [Act.put, List.setIfInBounds_toArray, List.set_cons_zero, List.set_cons_succ, i64_w, i32_w]
              rfl
             refine pu_ (i := 10) (N := some 40) (bs 17 14335) rfl rfl ?_
             refine pu_ (i := 11) (N := some 41) (bs 17 16383) rfl rfl ?_
             refine pu_ (i := 14) (N := some 44) (bs 17 32767) rfl rfl ?_
             refine pu_ (i := 15) (N := some 2) (bs 17 65535) rfl rfl ?_
             refine pu_ (i := 16) (N := some 3) (bs 17 131071) rfl rfl ?_
             refine done_ (done_of HT_.out (by kernel_rfl)) ?_
             try go_wp2
             go_ret2
             exact ⟨z4_, hs_⟩
            ·rw [if_neg c23] at H
             exact absurd H (by simp)
           ·rw [if_neg c22] at H
            exact absurd H (by simp)
          ·rw [if_neg c21] at H
           exact absurd H (by simp)
         ·rw [if_neg c19] at H
          exact absurd H (by simp)
        ·rw [if_neg c18] at H
         exact absurd H (by simp)
       ·rw [if_neg c16] at H
        exact absurd H (by simp)
   ·rw [if_neg c5] at H
    exact absurd H (by simp)
  ·rw [if_neg c4] at H
   exact absurd H (by simp)
 ·rw [if_neg c3] at H
  have c3b0 := beq_eq_false_iff_ne.mpr c3
  have c3b1 := bne_iff_ne.mpr c3
  simp only [Option.some.injEq, Prod.mk.injEq] at H
  obtain ⟨rfl, rfl⟩ := H
  go_enter Tryz.func16, Tryz.ntmps16
  go_wp2_with (first | ((with_reducible refine gate_dst (N := 1) rfl ?_); refine be_ (cs := #[.string a0_0, .slice A0_1 l0_1.length c0_1, .string a0_2, .string a0_3, .int .i64 a0_4, .int .i64 a0_5, .string a0_6, .string a0_7, .int .i64 a0_8, .int .i64 a0_9, .string a0_10]) (t := 26) ?_; intro gb101 hg w27 hbox hb; have BK101 := Aside0.mk (hbox); have GW101 := Aside0.mk (gw_ hg HB.out); have GE101 := Aside0.mk (gw_ hg HB.out); replace HB := Aside0.mk (below_step (hb_ HB.out) hb); clear hb hbox hg; obtain ⟨hcz28_0, hcz28_1, hcz28_2, hcz28_3, hcz28_4, hcz28_5, hcz28_6, hcz28_7, hcz28_8, hcz28_9, hcz28_10, hfz28_0, hfz28_1, hfz28_2, hfz28_3, hfz28_4, hfz28_5, hfz28_6, hfz28_7, hfz28_8, hfz28_9, hfz28_10⟩ := bc11 BK101.out) | ((with_reducible refine gate_callee (f := 18) rfl ?_); refine goesL_ (some 9) rfl rfl Tryz.func18 (by kernel_rfl) rfl #[.agg #[.string a0_0, .slice A0_1 l0_1.length c0_1, .string a0_2, .string a0_3, .int .i64 a0_4, .int .i64 a0_5, .string a0_6, .string a0_7, .int .i64 a0_8, .int .i64 a0_9, .string a0_10]] rfl z2_ ?_; (with_reducible refine (commit_Check.calls k a0_0 _ _ l0_1 a0_2 a0_3 a0_4 a0_5 a0_6 a0_7 a0_8 a0_9 a0_10 t102 _ ?side1 ?side2 ?side3 A2.out).mono ?_); (case side1 => repeat (first | exact (Kd.C_below HR0_1.out HB.out) | (with_reducible refine Kd.C_alloc ?_ _) | (with_reducible refine Kd.C_drewN ?_ _) | (with_reducible refine Kd.C_drew ?_))); (case side2 => exact HC0_1.out); (case side3 => exact GV.below hgv (hs_)); rintro e w29 ⟨rfl, hb⟩; refine ⟨_, rfl, ?_⟩; replace BK101 := Aside0.mk (bb_ BK101.out hb); replace HB := Aside0.mk (below_step (hs_) hb); (try clear hb); (try clear hb2); (try clear hk); (try clear hi)))
  go_ret2
  exact ⟨z4_, hs_⟩


def object_Bytes.f (a0_0 : Int) (a0_1 : ByteArray) : Option (ByteArray × Int) := (object_Word.f a0_0).bind fun t135 => (if t135.toList = ([] : List UInt8) then (some ((⟨#[]⟩ : ByteArray), 140)) else (if (a0_1.size : Int) > 1048576 then (some ((⟨#[]⟩ : ByteArray), 4)) else (if t135.size + 1 ≤ 9223372036854775807 then ((strconv_Itoa.f (a0_1.size : Int)).bind fun t136 => (if (t135 ++ (⟨#[32]⟩ : ByteArray)).size + t136.size ≤ 9223372036854775807 then (if ((t135 ++ (⟨#[32]⟩ : ByteArray)) ++ t136).size + 1 ≤ 9223372036854775807 then (if (((t135 ++ (⟨#[32]⟩ : ByteArray)) ++ t136) ++ (⟨#[0]⟩ : ByteArray)).size + a0_1.size ≤ 9223372036854775807 then (some ((((t135 ++ (⟨#[32]⟩ : ByteArray)) ++ t136) ++ (⟨#[0]⟩ : ByteArray)) ++ a0_1, 0)) else (none)) else (none)) else (none))) else (none))))
def object_Bytes.T6 : Bool × List (List Nat × List Nat) := (true, [([], []), ([0], [0]), ([], []), ([2], [2]), ([3], [3]), ([4], [4]), ([1, 5], [1, 5]), ([6], [6]), ([], []), ([8], [8]), ([7, 9], [7, 9]), ([10, 5, 0, 1, 2, 3, 4, 5, 6, 7, 8, 9, 10], [10]), ([11, 0, 1, 2, 3, 4, 5, 6, 7, 8, 9, 10, 11], [])])
def object_Bytes.B6 : List Nat := [0, 1, 0, 4, 12, 28, 63, 127, 0, 256, 1023, 2047, 4095]
theorem object_Bytes.tab6 : rtab .any (opsOf Tryz.f97 6) = object_Bytes.T6 := by kernel_rfl
theorem object_Bytes.bits6 : waitsOk object_Bytes.T6.2 object_Bytes.B6 = true := by kernel_rfl
set_option maxHeartbeats 8000000 in
set_option maxRecDepth 100000 in
theorem object_Bytes.calls (a0_0 : Int) (a0_1 : ByteArray) (r1 : ByteArray) (r2 : Int) (w : World) (hgv : GV w) (h : object_Bytes.f a0_0 a0_1 = some (r1, r2)) :
  Calls Tryz.prog 97 #[.agg #[.int .i64 a0_0, .string a0_1]] w fun e w' => e = .returned (.tuple #[.string r1, .int .i64 r2]) ∧ Below w.heap.size w w' := by
 have hu50 := Tryz.underlying50
 have HB := Aside0.mk (Below.refl w.heap.size w)
 have H : ((object_Word.f a0_0).bind fun t135 => (if t135.toList = ([] : List UInt8) then (some ((⟨#[]⟩ : ByteArray), 140)) else (if (a0_1.size : Int) > 1048576 then (some ((⟨#[]⟩ : ByteArray), 4)) else (if t135.size + 1 ≤ 9223372036854775807 then ((strconv_Itoa.f (a0_1.size : Int)).bind fun t136 => (if (t135 ++ (⟨#[32]⟩ : ByteArray)).size + t136.size ≤ 9223372036854775807 then (if ((t135 ++ (⟨#[32]⟩ : ByteArray)) ++ t136).size + 1 ≤ 9223372036854775807 then (if (((t135 ++ (⟨#[32]⟩ : ByteArray)) ++ t136) ++ (⟨#[0]⟩ : ByteArray)).size + a0_1.size ≤ 9223372036854775807 then (some ((((t135 ++ (⟨#[32]⟩ : ByteArray)) ++ t136) ++ (⟨#[0]⟩ : ByteArray)) ++ a0_1, 0)) else (none)) else (none)) else (none))) else (none))))) = some (r1, r2) := h
 clear h
 replace H := Option.bind_eq_some_iff.mp H
 obtain ⟨t135, A20, H⟩ := H
 have A2 := Aside0.mk A20
 clear A20
 by_cases c3 : t135.toList = ([] : List UInt8)
 ·rw [if_pos c3] at H
  have c3b0 := beq_iff_eq.mpr c3
  have c3b1 := bne_eq_false_iff_eq.mpr c3
  clear c3
  simp only [Option.some.injEq, Prod.mk.injEq] at H
  obtain ⟨rfl, rfl⟩ := H
  go_enter Tryz.func97, Tryz.ntmps97
  go_wp2_with (first | ((with_reducible refine gate_dst (N := 1) rfl ?_); refine be_ (cs := #[.int .i64 a0_0, .string a0_1]) (t := 50) ?_; intro gb134 hg w4 hbox hb; have BK134 := Aside0.mk (hbox); have GW134 := Aside0.mk (gw_ hg HB.out); have GE134 := Aside0.mk (gw_ hg HB.out); replace HB := Aside0.mk (below_step (hb_ HB.out) hb); clear hb hbox hg; obtain ⟨hcz5_0, hcz5_1, hfz5_0, hfz5_1⟩ := bc2 BK134.out) | ((with_reducible refine gate_callee (f := 79) rfl ?_); refine goesL_ (some 7) rfl rfl Tryz.func79 (by kernel_rfl) rfl #[.int .i64 a0_0] rfl z2_ ?_; (with_reducible refine (object_Word.calls a0_0 t135 _ A2.out).mono ?_); rintro e w6 ⟨rfl, hb⟩; refine ⟨_, rfl, ?_⟩; replace BK134 := Aside0.mk (bb_ BK134.out hb); replace HB := Aside0.mk (below_step (hs_) hb); (try clear hb); (try clear hb2); (try clear hk); (try clear hi)))
  go_ret2
  exact ⟨z4_, hs_⟩
 ·rw [if_neg c3] at H
  have c3b0 := beq_eq_false_iff_ne.mpr c3
  have c3b1 := bne_iff_ne.mpr c3
  by_cases c7 : (a0_1.size : Int) > 1048576
  ·rw [if_pos c7] at H
   have c7b0 := decide_eq_true c7
   have c7b1 : decide (1048576 < a0_1.size) = true := decide_eq_true (by omega)
   clear c7
   simp only [Option.some.injEq, Prod.mk.injEq] at H
   obtain ⟨rfl, rfl⟩ := H
   go_enter Tryz.func97, Tryz.ntmps97
   go_wp2_with (first | ((with_reducible refine gate_dst (N := 1) rfl ?_); refine be_ (cs := #[.int .i64 a0_0, .string a0_1]) (t := 50) ?_; intro gb134 hg w8 hbox hb; have BK134 := Aside0.mk (hbox); have GW134 := Aside0.mk (gw_ hg HB.out); have GE134 := Aside0.mk (gw_ hg HB.out); replace HB := Aside0.mk (below_step (hb_ HB.out) hb); clear hb hbox hg; obtain ⟨hcz9_0, hcz9_1, hfz9_0, hfz9_1⟩ := bc2 BK134.out) | ((with_reducible refine gate_callee (f := 79) rfl ?_); refine goesL_ (some 7) rfl rfl Tryz.func79 (by kernel_rfl) rfl #[.int .i64 a0_0] rfl z2_ ?_; (with_reducible refine (object_Word.calls a0_0 t135 _ A2.out).mono ?_); rintro e w10 ⟨rfl, hb⟩; refine ⟨_, rfl, ?_⟩; replace BK134 := Aside0.mk (bb_ BK134.out hb); replace HB := Aside0.mk (below_step (hs_) hb); (try clear hb); (try clear hb2); (try clear hk); (try clear hi); obtain ⟨hcz11_0, hcz11_1, hfz11_0, hfz11_1⟩ := bc2 BK134.out))
   go_ret2
   exact ⟨z4_, hs_⟩
  ·rw [if_neg c7] at H
   have c7b0 := decide_eq_false c7
   have c7b1 : decide (1048576 < a0_1.size) = false := decide_eq_false (by omega)
   clear c7
   by_cases c12 : t135.size + 1 ≤ 9223372036854775807
   ·rw [if_pos c12] at H
    have c12b0 := eq_true c12
    have c12b1 := decide_eq_true c12
    try have c12b2 := nl_ c12
    replace H := Option.bind_eq_some_iff.mp H
    obtain ⟨t136, A130, H⟩ := H
    have A13 := Aside0.mk A130
    clear A130
    by_cases c14 : (t135 ++ (⟨#[32]⟩ : ByteArray)).size + t136.size ≤ 9223372036854775807
    ·rw [if_pos c14] at H
     have c14b0 := eq_true c14
     have c14b1 := decide_eq_true c14
     try have c14b3 : (9223372036854775807 < t135.size + 1 + t136.size) = False := have h_ := c14; ns_
     try have c14b2 := nl_ c14
     by_cases c15 : ((t135 ++ (⟨#[32]⟩ : ByteArray)) ++ t136).size + 1 ≤ 9223372036854775807
     ·rw [if_pos c15] at H
      have c15b0 := eq_true c15
      have c15b1 := decide_eq_true c15
      try have c15b3 : (9223372036854775807 < t135.size + 1 + t136.size + 1) = False := have h_ := c15; ns_
      try have c15b2 := nl_ c15
      by_cases c16 : (((t135 ++ (⟨#[32]⟩ : ByteArray)) ++ t136) ++ (⟨#[0]⟩ : ByteArray)).size + a0_1.size ≤ 9223372036854775807
      ·rw [if_pos c16] at H
       have c16b0 := eq_true c16
       have c16b1 := decide_eq_true c16
       try have c16b3 : (9223372036854775807 < t135.size + 1 + t136.size + 1 + a0_1.size) = False := have h_ := c16; ns_
       try have c16b2 := nl_ c16
       simp only [Option.some.injEq, Prod.mk.injEq] at H
       obtain ⟨rfl, rfl⟩ := H
       go_enter Tryz.func97, Tryz.ntmps97
       try go_wp2_with (first | ((with_reducible refine gate_dst (N := 1) rfl ?_); refine be_ (cs := #[.int .i64 a0_0, .string a0_1]) (t := 50) ?_; intro gb134 hg w17 hbox hb; have BK134 := Aside0.mk (hbox); have GW134 := Aside0.mk (gw_ hg HB.out); have GE134 := Aside0.mk (gw_ hg HB.out); replace HB := Aside0.mk (below_step (hb_ HB.out) hb); clear hb hbox hg; obtain ⟨hcz18_0, hcz18_1, hfz18_0, hfz18_1⟩ := bc2 BK134.out) | ((with_reducible refine gate_callee (f := 79) rfl ?_); refine goesL_ (some 7) rfl rfl Tryz.func79 (by kernel_rfl) rfl #[.int .i64 a0_0] rfl z2_ ?_; (with_reducible refine (object_Word.calls a0_0 t135 _ A2.out).mono ?_); rintro e w19 ⟨rfl, hb⟩; refine ⟨_, rfl, ?_⟩; replace BK134 := Aside0.mk (bb_ BK134.out hb); replace HB := Aside0.mk (below_step (hs_) hb); (try clear hb); (try clear hb2); (try clear hk); (try clear hi); obtain ⟨hcz20_0, hcz20_1, hfz20_0, hfz20_1⟩ := bc2 BK134.out))
       replace BK134 := Aside0.mk (blk_drew BK134.out)
       replace HB := Aside0.mk (below_drew1 HB.out)
       refine start_ (n := 13) (S := fun w' => w'.cell? ⟨gb134, 0, none⟩ = some (.int .i64 a0_0) ∧ w'.cell? ⟨gb134, 1, none⟩ = some (.string a0_1)) (ds := []) (bs 13 0) (by kernel_rfl) rfl rfl ⟨(blk_cell BK134.out 0).trans rfl, (blk_cell BK134.out 1).trans rfl⟩ (fun hHeld => ?_); refine with_tabW object_Bytes.tab6 object_Bytes.bits6 (fun HT_ HW_ => ?_)
       generalize w19.drew = w21 at BK134 HB hHeld ⊢
       refine pu_ (i := 0) (N := some 16) (bs 13 1) rfl rfl ?_
       refine pu_ (i := 1) (N := some 17) (bs 13 3) rfl rfl ?_
       refine pu_ (i := 2) (N := some 18) (bs 13 7) rfl rfl ?_
       refine pu_ (i := 8) (N := some 24) (bs 13 263) rfl rfl ?_
       refine tkW2_ (i := 3) (N := some 19) (bs 13 271) rfl rfl hHeld ?_
       refine pu_ (i := 4) (N := some 20) (bs 13 287) rfl rfl ?_
       refine tkW2_ (i := 9) (N := some 25) (bs 13 799) rfl rfl hHeld ?_
       refine one_ (i := 5) (N := some 21) (bs 13 831) rfl rfl (one_of HT_.out (by kernel_rfl)) (by decide) (fun K hK => ?_)
       refine goes_ Tryz.func91 (by kernel_rfl) rfl #[.int .i64 (a0_1.size : Int)] (by rfl) rfl rfl z2_ ?_
       with_reducible refine (strconv_Itoa.calls (a0_1.size : Int) t136 _ ?side1 A13.out).mono ?_
       (case side1 => exact GV.below hgv (hs_))
       rintro e w22 ⟨rfl, hb⟩
       refine ⟨_, rfl, ?_⟩
       replace BK134 := Aside0.mk (bb_ BK134.out hb)
       replace HB := Aside0.mk (below_step (hs_) hb)
       (try clear hb)
       (try clear hb2)
       (try clear hk)
       (try clear hi)
       refine hK.out _ _ ⟨(blk_cell BK134.out 0).trans rfl, (blk_cell BK134.out 1).trans rfl⟩ (fun hHeld => ?_)
       clear hK K
       refine norm_ (a' := ?_) ?_ ?_
       rotate_left
       ·show Act.put _ (some 21) _ = _
        simp only [Act.put, List.setIfInBounds_toArray, List.set_cons_zero, List.set_cons_succ, i64_w, i32_w]
        rfl
       refine pu_ (i := 6) (N := some 22) (bs 13 895) rfl rfl ?_
       refine pu_ (i := 7) (N := some 23) (bs 13 1023) rfl rfl ?_
       refine pu_ (i := 10) (N := some 26) (bs 13 2047) rfl rfl ?_
       refine pu_ (i := 11) (N := some 2) (bs 13 4095) rfl rfl ?_
       refine pu_ (i := 12) (N := some 3) (bs 13 8191) rfl rfl ?_
       refine done_ (done_of HT_.out (by kernel_rfl)) ?_
       try go_wp2
       go_ret2
       exact ⟨z4_, hs_⟩
      ·rw [if_neg c16] at H
       exact absurd H (by simp)
     ·rw [if_neg c15] at H
      exact absurd H (by simp)
    ·rw [if_neg c14] at H
     exact absurd H (by simp)
   ·rw [if_neg c12] at H
    exact absurd H (by simp)


def tree_digits.f (a0 : Int) : Option (ByteArray) := if a0 = 1 then (some (⟨#[49, 48, 48, 54, 52, 52, 32]⟩ : ByteArray)) else (if a0 = 2 then (some (⟨#[49, 48, 48, 55, 53, 53, 32]⟩ : ByteArray)) else (if a0 = 3 then (some (⟨#[49, 50, 48, 48, 48, 48, 32]⟩ : ByteArray)) else (if a0 = 4 then (some (⟨#[52, 48, 48, 48, 48, 32]⟩ : ByteArray)) else (some (⟨#[]⟩ : ByteArray)))))
set_option maxHeartbeats 8000000 in
set_option maxRecDepth 100000 in
theorem tree_digits.calls (a0 : Int) (r : ByteArray) (w : World) (h : tree_digits.f a0 = some r) :
  Calls Tryz.prog 191 #[.int .i64 a0] w fun e w' => e = .returned (.string r) ∧ Drawn0 w w' := by
 have H : (if a0 = 1 then (some (⟨#[49, 48, 48, 54, 52, 52, 32]⟩ : ByteArray)) else (if a0 = 2 then (some (⟨#[49, 48, 48, 55, 53, 53, 32]⟩ : ByteArray)) else (if a0 = 3 then (some (⟨#[49, 50, 48, 48, 48, 48, 32]⟩ : ByteArray)) else (if a0 = 4 then (some (⟨#[52, 48, 48, 48, 48, 32]⟩ : ByteArray)) else (some (⟨#[]⟩ : ByteArray)))))) = some r := h
 clear h
 by_cases c2 : a0 = 1
 ·rw [if_pos c2] at H
  have c2b0 := beq_iff_eq.mpr c2
  have c2b1 := bne_eq_false_iff_eq.mpr c2
  clear c2
  obtain rfl := Option.some.inj H
  go_enter Tryz.func191, Tryz.ntmps191
  go_wp2
  go_ret
  exact ⟨z1_, z3_⟩
 ·rw [if_neg c2] at H
  have c2b0 := beq_eq_false_iff_ne.mpr c2
  have c2b1 := bne_iff_ne.mpr c2
  by_cases c3 : a0 = 2
  ·rw [if_pos c3] at H
   have c3b0 := beq_iff_eq.mpr c3
   have c3b1 := bne_eq_false_iff_eq.mpr c3
   clear c3
   obtain rfl := Option.some.inj H
   go_enter Tryz.func191, Tryz.ntmps191
   go_wp2
   go_ret
   exact ⟨z1_, z3_⟩
  ·rw [if_neg c3] at H
   have c3b0 := beq_eq_false_iff_ne.mpr c3
   have c3b1 := bne_iff_ne.mpr c3
   by_cases c4 : a0 = 3
   ·rw [if_pos c4] at H
    have c4b0 := beq_iff_eq.mpr c4
    have c4b1 := bne_eq_false_iff_eq.mpr c4
    clear c4
    obtain rfl := Option.some.inj H
    go_enter Tryz.func191, Tryz.ntmps191
    go_wp2
    go_ret
    exact ⟨z1_, z3_⟩
   ·rw [if_neg c4] at H
    have c4b0 := beq_eq_false_iff_ne.mpr c4
    have c4b1 := bne_iff_ne.mpr c4
    by_cases c5 : a0 = 4
    ·rw [if_pos c5] at H
     have c5b0 := beq_iff_eq.mpr c5
     have c5b1 := bne_eq_false_iff_eq.mpr c5
     clear c5
     obtain rfl := Option.some.inj H
     go_enter Tryz.func191, Tryz.ntmps191
     go_wp2
     go_ret
     exact ⟨z1_, z3_⟩
    ·rw [if_neg c5] at H
     have c5b0 := beq_eq_false_iff_ne.mpr c5
     have c5b1 := bne_iff_ne.mpr c5
     obtain rfl := Option.some.inj H
     go_enter Tryz.func191, Tryz.ntmps191
     go_wp2
     go_ret
     exact ⟨z1_, z3_⟩


def strings_HasPrefix.f (a0 : ByteArray) (a1 : ByteArray) : Option (Bool) := (stringslite_HasPrefix.f a0 a1).bind fun t192 => (some t192)
set_option maxHeartbeats 8000000 in
set_option maxRecDepth 100000 in
theorem strings_HasPrefix.calls (a0 : ByteArray) (a1 : ByteArray) (r : Bool) (w : World) (h : strings_HasPrefix.f a0 a1 = some r) :
  Calls Tryz.prog 71 #[.string a0, .string a1] w fun e w' => e = .returned (.bool r) ∧ Drawn0 w w' := by
 have H : ((stringslite_HasPrefix.f a0 a1).bind fun t192 => (some t192)) = some r := h
 clear h
 replace H := Option.bind_eq_some_iff.mp H
 obtain ⟨t192, A30, H⟩ := H
 have A3 := Aside0.mk A30
 clear A30
 obtain rfl := Option.some.inj H
 go_enter Tryz.func71, Tryz.ntmps71
 go_wp2_with (first | ((with_reducible refine gate_callee (f := 141) rfl ?_); refine goesL_ (some 7) rfl rfl Tryz.func141 (by kernel_rfl) rfl #[.string a0, .string a1] rfl z2_ ?_; (with_reducible refine (stringslite_HasPrefix.calls a0 a1 t192 _ A3.out).mono ?_); rintro e w' ⟨rfl, ⟨nd, rfl⟩⟩; refine ⟨_, rfl, ?_⟩))
 go_ret
 exact ⟨z1_, z3_⟩


def tree_mode.l0 : Nat → ByteArray → Bool → Int → Option (Int × ByteArray × Int)
 | 0, _, _, _ => none
 | k + 1, x0, x5, x6 => if x6 ≤ 4 then ((tree_digits.f x6).bind fun t115 => ((strings_CutPrefix.f x0 t115).bind fun bt116 => (if bt116.2 = true then (some (x6, bt116.1, 0)) else (if x5 = true then (tree_mode.l0 k x0 true (wrap64 (x6 + 1))) else ((tree_digits.f x6).bind fun t118 => ((strings_HasPrefix.f t118 x0).bind fun t119 => (tree_mode.l0 k x0 t119 (wrap64 (x6 + 1))))))))) else (if x5 = true then (some (0, (⟨#[]⟩ : ByteArray), 3)) else (some (0, (⟨#[]⟩ : ByteArray), 2)))
def tree_mode.f (k : Nat) (a0 : ByteArray) : Option (Int × ByteArray × Int) := tree_mode.l0 k a0 false 1
theorem tree_mode.mono_l : ∀ k, (∀ y0 y1 y2, LeO (tree_mode.l0 k y0 y1 y2) (tree_mode.l0 (k + 1) y0 y1 y2))
 | 0 => fun _ _ _ r h => by simp [tree_mode.l0] at h
 | k + 1 => by
  have ih0 := tree_mode.mono_l k
  ·intro y0 y1 y2
   unfold tree_mode.l0
   have m0_ := @ih0
   exact mz_
theorem tree_mode.mono : ∀ a0 k, LeO (tree_mode.f k a0) (tree_mode.f (k + 1) a0) := by
 intro a0 k
 have ih0 := tree_mode.mono_l k
 unfold tree_mode.f
 have m0_ := @ih0
 exact mz_
set_option maxHeartbeats 8000000 in
set_option maxRecDepth 100000 in
theorem tree_mode.calls (k : Nat) (a0 : ByteArray) (r1 : Int) (r2 : ByteArray) (r3 : Int) (w : World) (h : tree_mode.f k a0 = some (r1, r2, r3)) :
  Calls Tryz.prog 148 #[.string a0] w fun e w' => e = .returned (.tuple #[.int .i64 r1, .string r2, .int .i64 r3]) ∧ Drawn0 w w' := by
 have H : (tree_mode.l0 k a0 false 1) = some (r1, r2, r3) := h
 clear h
 have H' := Aside0.mk H
 clear H
 go_enter Tryz.func148, Tryz.ntmps148
 go_wp2
 go_loopg [5, 6] k (fun kq v5 v6 w' => ∃ (x5_1 : Bool) (x6_1 : Int), v5 = .bool x5_1 ∧ v6 = .int .i64 x6_1 ∧ Aside0 (tree_mode.l0 kq a0 x5_1 x6_1 = some (r1, r2, r3)) ∧ Aside0 (kq ≤ k) ∧ Drawn0 w w')
 case atStart => exact ⟨(false), (1), z1_, z1_, H', ⟨Nat.le_refl _⟩, z3_⟩
 case round =>
  clear H'
  try clear c1
  obtain ⟨x5_1, x6_1, rfl, rfl, HA, HK1, ⟨m1, rfl⟩⟩ := hrel
  cases gk with
  | zero => exact absurd HA.out (by simp [tree_mode.l0])
  | succ k1 =>
   have H := HA.out
   clear HA
   simp only [tree_mode.l0] at H
   by_cases c2 : x6_1 ≤ 4
   ·rw [if_pos c2] at H
    have c2b0 := decide_eq_true c2
    clear c2
    replace H := Option.bind_eq_some_iff.mp H
    obtain ⟨t115, A30, H⟩ := H
    have A3 := Aside0.mk A30
    clear A30
    replace H := Option.bind_eq_some_iff.mp H
    obtain ⟨⟨t116, t117⟩, A40, H⟩ := H
    replace H : (if t117 = true then (some (x6_1, t116, 0)) else (if x5_1 = true then (tree_mode.l0 k1 a0 true (wrap64 (x6_1 + 1))) else ((tree_digits.f x6_1).bind fun t118 => ((strings_HasPrefix.f t118 a0).bind fun t119 => (tree_mode.l0 k1 a0 t119 (wrap64 (x6_1 + 1))))))) = some (r1, r2, r3) := H
    have A4 := Aside0.mk A40
    clear A40
    by_cases c5 : t117 = true
    ·subst c5
     have H1 : (some (x6_1, t116, 0)) = some (r1, r2, r3) := by rw [if_pos rfl] at H; exact H
     clear H
     have H := H1
     clear H1
     simp only [Option.some.injEq, Prod.mk.injEq] at H
     obtain ⟨rfl, rfl, rfl⟩ := H
     go_wp2_with (first | ((with_reducible refine gate_callee (f := 191) rfl ?_); refine goesL_ (some 16) rfl rfl Tryz.func191 (by kernel_rfl) rfl #[.int .i64 x6_1] rfl z2_ ?_; (with_reducible refine (tree_digits.calls x6_1 t115 _ A3.out).mono ?_); rintro e w' ⟨rfl, ⟨nd, rfl⟩⟩; refine ⟨_, rfl, ?_⟩) | ((with_reducible refine gate_callee (f := 142) rfl ?_); refine goesL_ (some 17) rfl rfl Tryz.func142 (by kernel_rfl) rfl #[.string a0, .string t115] rfl z2_ ?_; (with_reducible refine (strings_CutPrefix.calls a0 t115 t116 true _ A4.out).mono ?_); rintro e w' ⟨rfl, ⟨nd, rfl⟩⟩; refine ⟨_, rfl, ?_⟩))
     go_ret3
     exact ⟨z1_, z3_⟩
    ·replace c5 := Bool.eq_false_iff.mpr c5
     subst c5
     have H1 : (if x5_1 = true then (tree_mode.l0 k1 a0 true (wrap64 (x6_1 + 1))) else ((tree_digits.f x6_1).bind fun t118 => ((strings_HasPrefix.f t118 a0).bind fun t119 => (tree_mode.l0 k1 a0 t119 (wrap64 (x6_1 + 1)))))) = some (r1, r2, r3) := by rw [if_neg (show ¬ (false = true) by decide)] at H; exact H
     clear H
     have H := H1
     clear H1
     by_cases c6 : x5_1 = true
     ·subst c6
      have H1 : (tree_mode.l0 k1 a0 true (wrap64 (x6_1 + 1))) = some (r1, r2, r3) := by rw [if_pos rfl] at H; exact H
      clear H
      have H := H1
      clear H1
      have H' := Aside0.mk H
      clear H
      go_wp2_with (first | ((with_reducible refine gate_callee (f := 191) rfl ?_); refine goesL_ (some 16) rfl rfl Tryz.func191 (by kernel_rfl) rfl #[.int .i64 x6_1] rfl z2_ ?_; (with_reducible refine (tree_digits.calls x6_1 t115 _ A3.out).mono ?_); rintro e w' ⟨rfl, ⟨nd, rfl⟩⟩; refine ⟨_, rfl, ?_⟩) | ((with_reducible refine gate_callee (f := 142) rfl ?_); refine goesL_ (some 17) rfl rfl Tryz.func142 (by kernel_rfl) rfl #[.string a0, .string t115] rfl z2_ ?_; (with_reducible refine (strings_CutPrefix.calls a0 t115 t116 false _ A4.out).mono ?_); rintro e w' ⟨rfl, ⟨nd, rfl⟩⟩; refine ⟨_, rfl, ?_⟩))
      go_roundg k1
      case measure => have := HK1.out; omega
      case rel => exact ⟨(true), (wrap64 (x6_1 + 1)), z1_, z1_, H', ⟨by have := HK1.out; omega⟩, z3_⟩
     ·replace c6 := Bool.eq_false_iff.mpr c6
      subst c6
      have H1 : ((tree_digits.f x6_1).bind fun t118 => ((strings_HasPrefix.f t118 a0).bind fun t119 => (tree_mode.l0 k1 a0 t119 (wrap64 (x6_1 + 1))))) = some (r1, r2, r3) := by rw [if_neg (show ¬ (false = true) by decide)] at H; exact H
      clear H
      have H := H1
      clear H1
      replace H := Option.bind_eq_some_iff.mp H
      obtain ⟨t118, A70, H⟩ := H
      have A7 := Aside0.mk A70
      clear A70
      replace H := Option.bind_eq_some_iff.mp H
      obtain ⟨t119, A80, H⟩ := H
      have A8 := Aside0.mk A80
      clear A80
      have H' := Aside0.mk H
      clear H
      have tk11_ : True := trivial
      have tk12_ : True := trivial
      go_wp2_with (first | (have _t := tk11_; (with_reducible refine gate_callee (f := 191) rfl ?_); refine goesL_ (some 16) rfl rfl Tryz.func191 (by kernel_rfl) rfl #[.int .i64 x6_1] rfl z2_ ?_; (with_reducible refine (tree_digits.calls x6_1 t115 _ A3.out).mono ?_); rintro e w' ⟨rfl, ⟨nd, rfl⟩⟩; refine ⟨_, rfl, ?_⟩; clear tk11_) | ((with_reducible refine gate_callee (f := 142) rfl ?_); refine goesL_ (some 17) rfl rfl Tryz.func142 (by kernel_rfl) rfl #[.string a0, .string t115] rfl z2_ ?_; (with_reducible refine (strings_CutPrefix.calls a0 t115 t116 false _ A4.out).mono ?_); rintro e w' ⟨rfl, ⟨nd, rfl⟩⟩; refine ⟨_, rfl, ?_⟩) | (go_at_call 191; have _t := tk12_; (with_reducible refine (tree_digits.calls x6_1 t118 _ A7.out).mono ?_); rintro e w' ⟨rfl, ⟨nd, rfl⟩⟩; clear tk12_) | (go_at_call 71; (with_reducible refine (strings_HasPrefix.calls t118 a0 t119 _ A8.out).mono ?_); rintro e w' ⟨rfl, ⟨nd, rfl⟩⟩))
      go_roundg k1
      case measure => have := HK1.out; omega
      case rel => exact ⟨(t119), (wrap64 (x6_1 + 1)), z1_, z1_, H', ⟨by have := HK1.out; omega⟩, z3_⟩
   ·rw [if_neg c2] at H
    have c2b0 := decide_eq_false c2
    clear c2
    by_cases c9 : x5_1 = true
    ·subst c9
     have H1 : (some (0, (⟨#[]⟩ : ByteArray), 3)) = some (r1, r2, r3) := by rw [if_pos rfl] at H; exact H
     clear H
     have H := H1
     clear H1
     simp only [Option.some.injEq, Prod.mk.injEq] at H
     obtain ⟨rfl, rfl, rfl⟩ := H
     go_wp2
     go_ret3
     exact ⟨z1_, z3_⟩
    ·replace c9 := Bool.eq_false_iff.mpr c9
     subst c9
     have H1 : (some (0, (⟨#[]⟩ : ByteArray), 2)) = some (r1, r2, r3) := by rw [if_neg (show ¬ (false = true) by decide)] at H; exact H
     clear H
     have H := H1
     clear H1
     simp only [Option.some.injEq, Prod.mk.injEq] at H
     obtain ⟨rfl, rfl, rfl⟩ := H
     go_wp2
     go_ret3
     exact ⟨z1_, z3_⟩


def tree_key.f (a0_0 : Int) (a0_1 : ByteArray) (a0_2 : ByteArray) : Option (ByteArray) := if a0_0 = 4 then (if a0_1.size + 1 ≤ 9223372036854775807 then (some (a0_1 ++ (⟨#[47]⟩ : ByteArray))) else (none)) else (some a0_1)
set_option maxHeartbeats 8000000 in
set_option maxRecDepth 100000 in
theorem tree_key.calls (a0_0 : Int) (a0_1 : ByteArray) (a0_2 : ByteArray) (r : ByteArray) (w : World) (h : tree_key.f a0_0 a0_1 a0_2 = some r) :
  Calls Tryz.prog 231 #[.agg #[.int .i64 a0_0, .string a0_1, .string a0_2]] w fun e w' => e = .returned (.string r) ∧ Below w.heap.size w w' := by
 have hu108 := Tryz.underlying108
 have HB := Aside0.mk (Below.refl w.heap.size w)
 have H : (if a0_0 = 4 then (if a0_1.size + 1 ≤ 9223372036854775807 then (some (a0_1 ++ (⟨#[47]⟩ : ByteArray))) else (none)) else (some a0_1)) = some r := h
 clear h
 by_cases c2 : a0_0 = 4
 ·rw [if_pos c2] at H
  have c2b0 := beq_iff_eq.mpr c2
  have c2b1 := bne_eq_false_iff_eq.mpr c2
  clear c2
  by_cases c3 : a0_1.size + 1 ≤ 9223372036854775807
  ·rw [if_pos c3] at H
   have c3b0 := eq_true c3
   have c3b1 := decide_eq_true c3
   try have c3b2 := nl_ c3
   obtain rfl := Option.some.inj H
   go_enter Tryz.func231, Tryz.ntmps231
   go_wp2_with (first | ((with_reducible refine gate_dst (N := 1) rfl ?_); refine be_ (cs := #[.int .i64 a0_0, .string a0_1, .string a0_2]) (t := 108) ?_; intro gb205 hg w4 hbox hb; have BK205 := Aside0.mk (hbox); have GW205 := Aside0.mk (gw_ hg HB.out); have GE205 := Aside0.mk (gw_ hg HB.out); replace HB := Aside0.mk (below_step (hb_ HB.out) hb); clear hb hbox hg; obtain ⟨hcz5_0, hcz5_1, hcz5_2, hfz5_0, hfz5_1, hfz5_2⟩ := bc3 BK205.out))
   go_ret
   exact ⟨z4_, hs_⟩
  ·rw [if_neg c3] at H
   exact absurd H (by simp)
 ·rw [if_neg c2] at H
  have c2b0 := beq_eq_false_iff_ne.mpr c2
  have c2b1 := bne_iff_ne.mpr c2
  obtain rfl := Option.some.inj H
  go_enter Tryz.func231, Tryz.ntmps231
  go_wp2_with (first | ((with_reducible refine gate_dst (N := 1) rfl ?_); refine be_ (cs := #[.int .i64 a0_0, .string a0_1, .string a0_2]) (t := 108) ?_; intro gb205 hg w6 hbox hb; have BK205 := Aside0.mk (hbox); have GW205 := Aside0.mk (gw_ hg HB.out); have GE205 := Aside0.mk (gw_ hg HB.out); replace HB := Aside0.mk (below_step (hb_ HB.out) hb); clear hb hbox hg; obtain ⟨hcz7_0, hcz7_1, hcz7_2, hfz7_0, hfz7_1, hfz7_2⟩ := bc3 BK205.out))
  go_ret
  exact ⟨z4_, hs_⟩


def tree_Less.f (a0_0 : Int) (a0_1 : ByteArray) (a0_2 : ByteArray) (a1_0 : Int) (a1_1 : ByteArray) (a1_2 : ByteArray) : Option (Bool) := (tree_key.f a0_0 a0_1 a0_2).bind fun t177 => ((tree_key.f a1_0 a1_1 a1_2).bind fun t178 => (some (Op.bytesLess t177.toList t178.toList)))
set_option maxHeartbeats 8000000 in
set_option maxRecDepth 100000 in
theorem tree_Less.calls (a0_0 : Int) (a0_1 : ByteArray) (a0_2 : ByteArray) (a1_0 : Int) (a1_1 : ByteArray) (a1_2 : ByteArray) (r : Bool) (w : World) (h : tree_Less.f a0_0 a0_1 a0_2 a1_0 a1_1 a1_2 = some r) :
  Calls Tryz.prog 193 #[.agg #[.int .i64 a0_0, .string a0_1, .string a0_2], .agg #[.int .i64 a1_0, .string a1_1, .string a1_2]] w fun e w' => e = .returned (.bool r) ∧ Below w.heap.size w w' := by
 have hu108 := Tryz.underlying108
 have HB := Aside0.mk (Below.refl w.heap.size w)
 have H : ((tree_key.f a0_0 a0_1 a0_2).bind fun t177 => ((tree_key.f a1_0 a1_1 a1_2).bind fun t178 => (some (Op.bytesLess t177.toList t178.toList)))) = some r := h
 clear h
 replace H := Option.bind_eq_some_iff.mp H
 obtain ⟨t177, A30, H⟩ := H
 have A3 := Aside0.mk A30
 clear A30
 replace H := Option.bind_eq_some_iff.mp H
 obtain ⟨t178, A40, H⟩ := H
 have A4 := Aside0.mk A40
 clear A40
 obtain rfl := Option.some.inj H
 go_enter Tryz.func193, Tryz.ntmps193
 try go_wp2_with (first | ((with_reducible refine gate_dst (N := 2) rfl ?_); refine be_ (cs := #[.int .i64 a0_0, .string a0_1, .string a0_2]) (t := 108) ?_; intro gb175 hg w5 hbox hb; have BK175 := Aside0.mk (hbox); have GW175 := Aside0.mk (gw_ hg HB.out); have GE175 := Aside0.mk (gw_ hg HB.out); replace HB := Aside0.mk (below_step (hb_ HB.out) hb); clear hb hbox hg) | ((with_reducible refine gate_dst (N := 3) rfl ?_); refine be_ (cs := #[.int .i64 a1_0, .string a1_1, .string a1_2]) (t := 108) ?_; intro gb176 hg w6 hbox hb; have BK176 := Aside0.mk (hbox); have GW176 := Aside0.mk ((by rw [hg]; exact (below_size (hs_)) : w.heap.size ≤ gb176)); have GE176 := Aside0.mk ((by rw [hg]; exact (below_size (hs_)) : w.heap.size ≤ gb176)); replace HB := Aside0.mk (below_step (hs_) hb); have NB175_176 := Aside0.mk (nl2_ hg BK175.out); have NB176_175 := Aside0.mk (ng2_ hg BK175.out); replace BK175 := Aside0.mk (bb_ BK175.out hb); clear hb hbox hg))
 replace BK175 := Aside0.mk (blk_drew BK175.out)
 replace BK176 := Aside0.mk (blk_drew BK176.out)
 replace HB := Aside0.mk (below_drew1 HB.out)
 refine start_ (n := 6) (S := fun w' => w'.cell? ⟨gb175, 0, none⟩ = some (.int .i64 a0_0) ∧ w'.cell? ⟨gb175, 1, none⟩ = some (.string a0_1) ∧ w'.cell? ⟨gb175, 2, none⟩ = some (.string a0_2) ∧ w'.cell? ⟨gb176, 0, none⟩ = some (.int .i64 a1_0) ∧ w'.cell? ⟨gb176, 1, none⟩ = some (.string a1_1) ∧ w'.cell? ⟨gb176, 2, none⟩ = some (.string a1_2)) (ds := []) (bs 6 0) (by kernel_rfl) rfl rfl ⟨(blk_cell BK175.out 0).trans rfl, (blk_cell BK175.out 1).trans rfl, (blk_cell BK175.out 2).trans rfl, (blk_cell BK176.out 0).trans rfl, (blk_cell BK176.out 1).trans rfl, (blk_cell BK176.out 2).trans rfl⟩ (fun hHeld => ?_)
 generalize w6.drew = w7 at BK175 BK176 HB hHeld ⊢
 refine tkK6_ (i := 0) (N := some 5) (bs 6 1) rfl rfl hHeld ?_
 refine tkK6_ (i := 2) (N := some 7) (bs 6 5) rfl rfl hHeld ?_
 refine one_ (i := 1) (N := some 6) (bs 6 7) rfl rfl (by kernel_rfl) (by decide) (fun K hK => ?_)
 refine goes_ Tryz.func231 (by kernel_rfl) rfl #[.agg #[.int .i64 a0_0, .string a0_1, .string a0_2]] (by rfl) rfl rfl z2_ ?_
 with_reducible refine (tree_key.calls a0_0 a0_1 a0_2 t177 _ A3.out).mono ?_
 rintro e w8 ⟨rfl, hb⟩
 refine ⟨_, rfl, ?_⟩
 replace BK175 := Aside0.mk (bb_ BK175.out hb)
 replace BK176 := Aside0.mk (bb_ BK176.out hb)
 replace HB := Aside0.mk (below_step (hs_) hb)
 (try clear hb)
 (try clear hb2)
 (try clear hk)
 (try clear hi)
 refine hK.out _ _ ⟨(blk_cell BK175.out 0).trans rfl, (blk_cell BK175.out 1).trans rfl, (blk_cell BK175.out 2).trans rfl, (blk_cell BK176.out 0).trans rfl, (blk_cell BK176.out 1).trans rfl, (blk_cell BK176.out 2).trans rfl⟩ (fun hHeld => ?_)
 clear hK K
 refine norm_ (a' := ?_) ?_ ?_
 rotate_left
 ·show Act.put _ (some 6) _ = _
  simp only [Act.put, List.setIfInBounds_toArray, List.set_cons_zero, List.set_cons_succ, i64_w, i32_w]
  rfl
 refine one_ (i := 3) (N := some 8) (bs 6 15) rfl rfl (by kernel_rfl) (by decide) (fun K hK => ?_)
 refine goes_ Tryz.func231 (by kernel_rfl) rfl #[.agg #[.int .i64 a1_0, .string a1_1, .string a1_2]] (by rfl) rfl rfl z2_ ?_
 with_reducible refine (tree_key.calls a1_0 a1_1 a1_2 t178 _ A4.out).mono ?_
 rintro e w9 ⟨rfl, hb⟩
 refine ⟨_, rfl, ?_⟩
 replace BK175 := Aside0.mk (bb_ BK175.out hb)
 replace BK176 := Aside0.mk (bb_ BK176.out hb)
 replace HB := Aside0.mk (below_step (hs_) hb)
 (try clear hb)
 (try clear hb2)
 (try clear hk)
 (try clear hi)
 refine hK.out _ _ ⟨(blk_cell BK175.out 0).trans rfl, (blk_cell BK175.out 1).trans rfl, (blk_cell BK175.out 2).trans rfl, (blk_cell BK176.out 0).trans rfl, (blk_cell BK176.out 1).trans rfl, (blk_cell BK176.out 2).trans rfl⟩ (fun hHeld => ?_)
 clear hK K
 refine norm_ (a' := ?_) ?_ ?_
 rotate_left
 ·show Act.put _ (some 8) _ = _
  simp only [Act.put, List.setIfInBounds_toArray, List.set_cons_zero, List.set_cons_succ, i64_w, i32_w]
  rfl
 refine pk_ (i := 4) (N := some 9) (bs 6 31) rfl rfl ?_
 refine pk_ (i := 5) (N := some 4) (bs 6 63) rfl rfl ?_
 refine done_ (by kernel_rfl) ?_
 try go_wp2
 go_ret
 exact ⟨z4_, hs_⟩


def tree_may.f (k : Nat) (a0_0 : Int) (a0_1 : ByteArray) (a0_2 : ByteArray) : Option (Bool) := if a0_0 ≥ 1 then (if a0_0 ≤ 4 then ((path_Is.f k a0_1).bind fun t121 => (if t121 = true then ((strings_Contains2.f a0_1 (⟨#[47]⟩ : ByteArray)).bind fun t122 => (if t122 = true then (some false) else ((ident_Is.f k a0_2).bind fun t123 => (some t123)))) else (some false))) else (some false)) else (some false)
theorem tree_may.mono : ∀ a0 a1 a2 k, LeO (tree_may.f k a0 a1 a2) (tree_may.f (k + 1) a0 a1 a2) := by
 intro a0 a1 a2 k
 unfold tree_may.f
 have m0_ := @ident_Is.mono
 have m1_ := @path_Is.mono
 exact mz_
set_option maxHeartbeats 8000000 in
set_option maxRecDepth 100000 in
theorem tree_may.calls (k : Nat) (a0_0 : Int) (a0_1 : ByteArray) (a0_2 : ByteArray) (r : Bool) (w : World) (hgv : GV w) (h : tree_may.f k a0_0 a0_1 a0_2 = some r) :
  Calls Tryz.prog 192 #[.agg #[.int .i64 a0_0, .string a0_1, .string a0_2]] w fun e w' => e = .returned (.bool r) ∧ Below w.heap.size w w' := by
 have hu108 := Tryz.underlying108
 have HB := Aside0.mk (Below.refl w.heap.size w)
 have H : (if a0_0 ≥ 1 then (if a0_0 ≤ 4 then ((path_Is.f k a0_1).bind fun t121 => (if t121 = true then ((strings_Contains2.f a0_1 (⟨#[47]⟩ : ByteArray)).bind fun t122 => (if t122 = true then (some false) else ((ident_Is.f k a0_2).bind fun t123 => (some t123)))) else (some false))) else (some false)) else (some false)) = some r := h
 clear h
 by_cases c2 : a0_0 ≥ 1
 ·rw [if_pos c2] at H
  have c2b0 := decide_eq_true c2
  clear c2
  by_cases c3 : a0_0 ≤ 4
  ·rw [if_pos c3] at H
   have c3b0 := decide_eq_true c3
   clear c3
   replace H := Option.bind_eq_some_iff.mp H
   obtain ⟨t121, A40, H⟩ := H
   have A4 := Aside0.mk A40
   clear A40
   by_cases c5 : t121 = true
   ·subst c5
    have H1 : ((strings_Contains2.f a0_1 (⟨#[47]⟩ : ByteArray)).bind fun t122 => (if t122 = true then (some false) else ((ident_Is.f k a0_2).bind fun t123 => (some t123)))) = some r := by rw [if_pos rfl] at H; exact H
    clear H
    have H := H1
    clear H1
    replace H := Option.bind_eq_some_iff.mp H
    obtain ⟨t122, A60, H⟩ := H
    have A6 := Aside0.mk A60
    clear A60
    by_cases c7 : t122 = true
    ·subst c7
     have H1 : (some false) = some r := by rw [if_pos rfl] at H; exact H
     clear H
     have H := H1
     clear H1
     obtain rfl := Option.some.inj H
     go_enter Tryz.func192, Tryz.ntmps192
     go_wp2_with (first | ((with_reducible refine gate_dst (N := 1) rfl ?_); refine be_ (cs := #[.int .i64 a0_0, .string a0_1, .string a0_2]) (t := 108) ?_; intro gb120 hg w8 hbox hb; have BK120 := Aside0.mk (hbox); have GW120 := Aside0.mk (gw_ hg HB.out); have GE120 := Aside0.mk (gw_ hg HB.out); replace HB := Aside0.mk (below_step (hb_ HB.out) hb); clear hb hbox hg; obtain ⟨hcz9_0, hcz9_1, hcz9_2, hfz9_0, hfz9_1, hfz9_2⟩ := bc3 BK120.out) | (go_at_call 156; (with_reducible refine (path_Is.calls k a0_1 true _ A4.out).mono ?_); rintro e w10 ⟨rfl, hb⟩; replace BK120 := Aside0.mk (bb_ BK120.out hb); replace HB := Aside0.mk (below_step (hs_) hb); (try clear hb); (try clear hb2); (try clear hk); (try clear hi); obtain ⟨hcz11_0, hcz11_1, hcz11_2, hfz11_0, hfz11_1, hfz11_2⟩ := bc3 BK120.out) | (go_at_call 68; (with_reducible refine (strings_Contains2.calls a0_1 (⟨#[47]⟩ : ByteArray) true _ ?side1 A6.out).mono ?_); (case side1 => exact GV.below hgv (hs_)); rintro e w' ⟨rfl, ⟨nd, rfl⟩⟩))
     go_ret
     exact ⟨z4_, hs_⟩
    ·replace c7 := Bool.eq_false_iff.mpr c7
     subst c7
     have H1 : ((ident_Is.f k a0_2).bind fun t123 => (some t123)) = some r := by rw [if_neg (show ¬ (false = true) by decide)] at H; exact H
     clear H
     have H := H1
     clear H1
     replace H := Option.bind_eq_some_iff.mp H
     obtain ⟨t123, A120, H⟩ := H
     have A12 := Aside0.mk A120
     clear A120
     obtain rfl := Option.some.inj H
     go_enter Tryz.func192, Tryz.ntmps192
     go_wp2_with (first | ((with_reducible refine gate_dst (N := 1) rfl ?_); refine be_ (cs := #[.int .i64 a0_0, .string a0_1, .string a0_2]) (t := 108) ?_; intro gb120 hg w13 hbox hb; have BK120 := Aside0.mk (hbox); have GW120 := Aside0.mk (gw_ hg HB.out); have GE120 := Aside0.mk (gw_ hg HB.out); replace HB := Aside0.mk (below_step (hb_ HB.out) hb); clear hb hbox hg; obtain ⟨hcz14_0, hcz14_1, hcz14_2, hfz14_0, hfz14_1, hfz14_2⟩ := bc3 BK120.out) | (go_at_call 156; (with_reducible refine (path_Is.calls k a0_1 true _ A4.out).mono ?_); rintro e w15 ⟨rfl, hb⟩; replace BK120 := Aside0.mk (bb_ BK120.out hb); replace HB := Aside0.mk (below_step (hs_) hb); (try clear hb); (try clear hb2); (try clear hk); (try clear hi); obtain ⟨hcz16_0, hcz16_1, hcz16_2, hfz16_0, hfz16_1, hfz16_2⟩ := bc3 BK120.out) | (go_at_call 68; (with_reducible refine (strings_Contains2.calls a0_1 (⟨#[47]⟩ : ByteArray) false _ ?side1 A6.out).mono ?_); (case side1 => exact GV.below hgv (hs_)); rintro e w' ⟨rfl, ⟨nd, rfl⟩⟩) | (go_at_call 65; (with_reducible refine (ident_Is.calls k a0_2 t123 _ A12.out).mono ?_); rintro e w' ⟨rfl, ⟨nd, rfl⟩⟩))
     go_ret
     exact ⟨z4_, hs_⟩
   ·replace c5 := Bool.eq_false_iff.mpr c5
    subst c5
    have H1 : (some false) = some r := by rw [if_neg (show ¬ (false = true) by decide)] at H; exact H
    clear H
    have H := H1
    clear H1
    obtain rfl := Option.some.inj H
    go_enter Tryz.func192, Tryz.ntmps192
    go_wp2_with (first | ((with_reducible refine gate_dst (N := 1) rfl ?_); refine be_ (cs := #[.int .i64 a0_0, .string a0_1, .string a0_2]) (t := 108) ?_; intro gb120 hg w17 hbox hb; have BK120 := Aside0.mk (hbox); have GW120 := Aside0.mk (gw_ hg HB.out); have GE120 := Aside0.mk (gw_ hg HB.out); replace HB := Aside0.mk (below_step (hb_ HB.out) hb); clear hb hbox hg; obtain ⟨hcz18_0, hcz18_1, hcz18_2, hfz18_0, hfz18_1, hfz18_2⟩ := bc3 BK120.out) | (go_at_call 156; (with_reducible refine (path_Is.calls k a0_1 false _ A4.out).mono ?_); rintro e w19 ⟨rfl, hb⟩; replace BK120 := Aside0.mk (bb_ BK120.out hb); replace HB := Aside0.mk (below_step (hs_) hb); (try clear hb); (try clear hb2); (try clear hk); (try clear hi)))
    go_ret
    exact ⟨z4_, hs_⟩
  ·rw [if_neg c3] at H
   have c3b0 := decide_eq_false c3
   clear c3
   obtain rfl := Option.some.inj H
   go_enter Tryz.func192, Tryz.ntmps192
   go_wp2_with (first | ((with_reducible refine gate_dst (N := 1) rfl ?_); refine be_ (cs := #[.int .i64 a0_0, .string a0_1, .string a0_2]) (t := 108) ?_; intro gb120 hg w20 hbox hb; have BK120 := Aside0.mk (hbox); have GW120 := Aside0.mk (gw_ hg HB.out); have GE120 := Aside0.mk (gw_ hg HB.out); replace HB := Aside0.mk (below_step (hb_ HB.out) hb); clear hb hbox hg; obtain ⟨hcz21_0, hcz21_1, hcz21_2, hfz21_0, hfz21_1, hfz21_2⟩ := bc3 BK120.out))
   go_ret
   exact ⟨z4_, hs_⟩
 ·rw [if_neg c2] at H
  have c2b0 := decide_eq_false c2
  clear c2
  obtain rfl := Option.some.inj H
  go_enter Tryz.func192, Tryz.ntmps192
  go_wp2_with (first | ((with_reducible refine gate_dst (N := 1) rfl ?_); refine be_ (cs := #[.int .i64 a0_0, .string a0_1, .string a0_2]) (t := 108) ?_; intro gb120 hg w22 hbox hb; have BK120 := Aside0.mk (hbox); have GW120 := Aside0.mk (gw_ hg HB.out); have GE120 := Aside0.mk (gw_ hg HB.out); replace HB := Aside0.mk (below_step (hb_ HB.out) hb); clear hb hbox hg; obtain ⟨hcz23_0, hcz23_1, hcz23_2, hfz23_0, hfz23_1, hfz23_2⟩ := bc3 BK120.out))
  go_ret
  exact ⟨z4_, hs_⟩

end Go.Proofs.YtbhfbbfjdklfgaaGreatDoor.Q


/- A map from strings to ints that the call makes, as a state: how often it was written, and what stands at a key. -/
namespace Go.Proofs.YtbhfbbfjdklfgaaGreatDoor.Q
open Go.RowKit Go.Maps Go.Proofs.YtbhfbbfjdklfgaaGreatDoorW.PrintWords Go.Proofs.YtbhfbbfjdklfgaaGreatDoorW.PrintLast Go.Proofs.YtbhfbbfjdklfgaaGreatDoorW.PrintMore
structure MSI where
  n : Nat
  f : List UInt8 → Option Int
def MSI.nil : MSI := ⟨0, fun _ => none⟩
def MSI.get (m : MSI) (k : ByteArray) : Int := (m.f k.data.toList).getD 0
def MSI.has (m : MSI) (k : ByteArray) : Bool := (m.f k.data.toList).isSome
def MSI.put (m : MSI) (k : ByteArray) (v : Int) : MSI := ⟨m.n + 1, fun x => if x = k.data.toList then some v else m.f x⟩
def IsS176 (w0 W : World) (g : Nat) (f0 : MSI) : Prop := w0.heap.size ≤ g ∧ ∃ D : DataW Unit, W.ownsMap Tryz.prog 9 (plainElem Tryz.prog 3) g f0.n D ∧
  ∀ s : List UInt8, s.length ≤ maxLen → D.atKey (.string s) (.lit (.int .i64 0)) = .lit (.int .i64 ((f0.f s).getD 0)) ∧ Maps.has D (.string s) = (f0.f s).isSome
theorem mapLaw : Keyed Tryz.prog 9 := string_keyed Tryz.underlying9
theorem mapZero (w : World) : (zeroValue 3).run Tryz.prog w = .ok (.int .i64 0) w := by kernel_rfl
section
variable {w0 W W1 : World} {g : Nat} {f0 : MSI}
theorem IsS176.block (h : IsS176 w0 W g f0) : ∃ es clock, W.heap[g]? = some (.map es clock) := by
  obtain ⟨_, D, ⟨es, c, hb, _⟩, _⟩ := h
  exact ⟨es, c, hb⟩
theorem IsS176.grown {row : Option Nat} (h : IsS176 w0 W g f0) (hw : W.grownBy W1 row) (hne : some g ≠ row) : IsS176 w0 W1 g f0 := by
  obtain ⟨h0, D, h1, h2⟩ := h
  exact ⟨h0, D, h1.kept hw hne, h2⟩
theorem IsS176.below (h : IsS176 w0 W g f0) (hw : Below W.heap.size W W1) : IsS176 w0 W1 g f0 := h.grown (grown_of_below hw none) (by simp)
theorem IsS176.alloc (h : IsS176 w0 W g f0) (o : Obj) : IsS176 w0 (W.alloc o) g f0 := h.below (below_alloc (Below.refl _ _) o)
theorem IsS176.drewN (h : IsS176 w0 W g f0) (m : Nat) : IsS176 w0 (W.drewN m) g f0 := h
theorem IsS176.drew (h : IsS176 w0 W g f0) : IsS176 w0 W.drew g f0 := h
theorem IsS176.at_ {m : Nat} (hq : W.drewN m = W1) (h : IsS176 w0 W g f0) : IsS176 w0 W1 g f0 := by subst hq; exact h
theorem IsS176.ge (h : IsS176 w0 W g f0) : w0.heap.size ≤ g := h.1
theorem IsS176.lt (h : IsS176 w0 W g f0) : g < W.heap.size := by
  obtain ⟨_, D, h1, _⟩ := h
  exact h1.lt
theorem IsS176.fresh (h : IsS176 w0 W g f0) : ∀ k, W.heap.size ≤ k → k ≠ g := fun k hk e => by have := h.lt; omega
theorem IsS176.far {p : Addr} (h : IsS176 w0 W g f0) (hne : g ≠ p.block) (u : Value) : IsS176 w0 (W.setCell p u) g f0 := by
  obtain ⟨h0, D, h1, h2⟩ := h
  exact ⟨h0, D, h1.setCell hne u, h2⟩
theorem IsS176.apart {α : Type} {d : Kd α} {e : Nat} {base : Nat} {ok : Nat → Prop} {v : Value} {xs : List α} (h : IsS176 w0 W g f0) (ho : d.R e W base ok v xs) (ht : ∀ q, q ∈ e :: d.E → q ≠ 176) : d.R e W base (fun k => ok k ∧ k ≠ g) v xs := by
  obtain ⟨es, c, hb⟩ := h.block
  refine Kd.R_mono (Kd.R_bound ho) (fun k hk => ⟨hk.1, ?_⟩)
  rintro rfl
  obtain ⟨_, _, _, q, _, cells, hc⟩ := hk
  rw [hc] at hb
  cases hb
theorem IsS176.own_ne {α : Type} {d : Kd α} {e : Nat} {base : Nat} {ok : Nat → Prop} {v : Value} {xs : List α} (h : IsS176 w0 W g f0) (ho : d.R e W base ok v xs) (ht : e ≠ 176) : some g ≠ v.ownBlock := by
  obtain ⟨es, c, hb⟩ := h.block
  intro he
  obtain ⟨_, _, _, q, _, cells, hc⟩ := (Kd.R_bound ho).1 g he.symm
  rw [hc] at hb
  cases hb
theorem IsS176.made (hb : W.ownsMap Tryz.prog 9 (plainElem (H := Unit) Tryz.prog 3) g 0 (.map [])) (hg : w0.heap.size ≤ g) : IsS176 w0 W g MSI.nil :=
  ⟨hg, .map [], hb, fun s hs => ⟨by simp [DataW.atKey, MSI.nil], by simp [Maps.has, MSI.nil]⟩⟩
end
section
variable {ops : Array Oper} {rest : List Oper} {o : Oper} {a : Act} {Q : Exit → Act → World → Prop} {w0 W : World} {g : Nat} {f0 : MSI}
theorem mkmap_event (hgd : o.guard = none) {N : Tmp} (hd : o.dst = some N) (hop : o.op = .makeMap 176 none)
    (h : ∀ g, g = W.heap.size → ∀ w1, w1.ownsMap Tryz.prog 9 (plainElem (H := Unit) Tryz.prog 3) g 0 (.map []) → Below W.heap.size W w1 → wpList Tryz.prog ops Q rest (a.put o.dst (.map (some g))) w1) : wpList Tryz.prog ops Q (o :: rest) a W := by
  have hmm := @run_makeMap Tryz.prog
  refine Kd.event_run hgd (v := .map (some W.heap.size)) (w1 := W.alloc (.map #[] 0)) ?_ (h _ rfl _ (World.ownsMap_made _ _ _ _) (below_alloc (Below.refl _ _) _))
  simp [execOp, hop, hmm, Result.andThen]
theorem IsS176.look {m x : Operand} {k : ByteArray} (h : IsS176 w0 W g f0) (hgd : o.guard = none) (hop : o.op = .lookup 176 m x false) (hm : a.eval m = .map (some g)) (hx : a.eval x = .string k) (hs : k.size ≤ 9223372036854775807)
    (K : wpList Tryz.prog ops Q rest (a.put o.dst (.int .i64 (MSI.get f0 k))) W) : wpList Tryz.prog ops Q (o :: rest) a W := by
  obtain ⟨h0, D, h1, h2⟩ := h
  refine wpList_lookup_own_int _ hgd m x 176 hop 9 3 .i64 mapLaw Tryz.underlying176 Tryz.underlying3 (mapZero _) g f0.n D hm h1 _ _ hx (WideMaps.keyOf_string_mk Tryz.underlying9 (by unfold maxLen; exact hs)) ?_
  intro c hat hwc
  have := (h2 k.data.toList (by unfold maxLen; exact hs)).1
  rw [this] at hat
  have e : c = MSI.get f0 k := by
    injection hat with hat
    injection hat with _ hat
    exact hat.symm
  rw [e]
  exact K
theorem IsS176.put_ {m x v : Operand} {k : ByteArray} {n : Int} (h : IsS176 w0 W g f0) (hgd : o.guard = none) (hop : o.op = .mapUpdate 176 m x v) (hm : a.eval m = .map (some g)) (hx : a.eval x = .string k) (hv : a.eval v = .int .i64 n) (hs : k.size ≤ 9223372036854775807) (hn : f0.n < 4611686018427387904) (hw : (Lit.int .i64 n).wf = true)
    (K : ∀ w1, IsS176 w0 w1 g (MSI.put f0 k n) → W.grownBy w1 (some g) → wpList Tryz.prog ops Q rest (a.put o.dst undef) w1) : wpList Tryz.prog ops Q (o :: rest) a W := by
  obtain ⟨h0, D, h1, h2⟩ := h
  have hk : keyOf Tryz.prog 9 (.string k) = some (.string k.data.toList) := WideMaps.keyOf_string_mk Tryz.underlying9 (by unfold maxLen; exact hs)
  refine wpList_mapUpdate_own _ hgd m x v 176 hop 9 3 mapLaw Tryz.underlying176 _ g f0.n D hm h1 (by unfold maxLen; omega) _ _ _ hx hv hk _ [] (plainElem_int Tryz.underlying3 hw) ?_
  intro w1 hown hg
  refine K w1 ⟨h0, _, hown, fun s hl => ?_⟩ hg
  have hD : IsMap D := by
    obtain ⟨es, c, _, _, _, rfl⟩ := h1
    exact ⟨_, rfl⟩
  have hkl : WideAt.IsKeyLit (.string k.data.toList) := trivial
  by_cases e : s = k.data.toList
  · subst e
    refine ⟨?_, ?_⟩
    · rw [atKey_put_same hD hkl]; simp [MSI.put]
    · rw [has_put_same hD hkl]; simp [MSI.put]
  · have hne : (Lit.string s) ≠ .string k.data.toList := fun h => e (by injection h)
    have := h2 s hl
    refine ⟨?_, ?_⟩
    · rw [atKey_put_other hne, this.1]; simp [MSI.put, e]
    · rw [has_put_other hne, this.2]; simp [MSI.put, e]
end
end Go.Proofs.YtbhfbbfjdklfgaaGreatDoor.Q


namespace Go.Proofs.YtbhfbbfjdklfgaaGreatDoor.Q
open Go.RowKit Go.Proofs.YtbhfbbfjdklfgaaGreatDoorW.PrintWords Go.Proofs.YtbhfbbfjdklfgaaGreatDoorW.PrintLast Go.Proofs.YtbhfbbfjdklfgaaGreatDoorW.PrintMore
attribute [local go_sem] max2_int min2_int max_two min_two max_three min_three max_four min_four   -- for this text's walks alone

mutual
def tree_Check.l0 : Nat → List (S108) → List (S108) → Int → Int → MSI → Option (Int)
 | 0, _, _, _, _, _ => none
 | k + 1, x0, x10, x11, x12, x102000 => if x12 < x11 then (if 0 ≤ x12 then (if x12 < (x10.length : Int) then (if ((rd_T108 x10 x12).f1).size ≤ 9223372036854775807 then (if x102000.n < 4611686018427387904 then ((tree_may.f k ((rd_T108 x10 x12).f0) ((rd_T108 x10 x12).f1) ((rd_T108 x10 x12).f2)).bind fun t104 => (if t104 = true then (if x12 > 0 then (if 0 ≤ (wrap64 (x12 - 1)) then (if (wrap64 (x12 - 1)) < (x0.length : Int) then ((tree_Less.f ((rd_T108 x0 (wrap64 (x12 - 1))).f0) ((rd_T108 x0 (wrap64 (x12 - 1))).f1) ((rd_T108 x0 (wrap64 (x12 - 1))).f2) ((rd_T108 x10 x12).f0) ((rd_T108 x10 x12).f1) ((rd_T108 x10 x12).f2)).bind fun t106 => (tree_Check.j1 k x0 x10 x11 x12 (!t106) (MSI.put x102000 ((rd_T108 x10 x12).f1) (wrap64 ((MSI.get x102000 ((rd_T108 x10 x12).f1)) + 1))) ((rd_T108 x10 x12).f0) ((rd_T108 x10 x12).f1) ((rd_T108 x10 x12).f2))) else (none)) else (none)) else (tree_Check.j1 k x0 x10 x11 x12 false (MSI.put x102000 ((rd_T108 x10 x12).f1) (wrap64 ((MSI.get x102000 ((rd_T108 x10 x12).f1)) + 1))) ((rd_T108 x10 x12).f0) ((rd_T108 x10 x12).f1) ((rd_T108 x10 x12).f2))) else (some 1))) else (none)) else (none)) else (none)) else (none)) else (some 0)
def tree_Check.j1 : Nat → List (S108) → List (S108) → Int → Int → Bool → MSI → Int → ByteArray → ByteArray → Option (Int)
 | 0, _, _, _, _, _, _, _, _, _ => none
 | k + 1, x0, x10, x11, x12, x26, x102000, x104000, x104001, x104002 => if x26 = true then (some 150) else (if x104001.size ≤ 9223372036854775807 then (if (MSI.get x102000 x104001) > 1 then (some 6) else (tree_Check.l0 k x0 x10 x11 (wrap64 (x12 + 1)) x102000)) else (none))
end
def tree_Check.f (k : Nat) (l0 : List (S108)) : Option (Int) := if (l0.length : Int) > 1024 then (some 4) else (tree_Check.l0 k l0 l0 (l0.length : Int) 0 MSI.nil)
theorem tree_Check.mono_l : ∀ k, (∀ y0 y1 y2 y3 y4, LeO (tree_Check.l0 k y0 y1 y2 y3 y4) (tree_Check.l0 (k + 1) y0 y1 y2 y3 y4)) ∧ (∀ y0 y1 y2 y3 y4 y5 y6 y7 y8, LeO (tree_Check.j1 k y0 y1 y2 y3 y4 y5 y6 y7 y8) (tree_Check.j1 (k + 1) y0 y1 y2 y3 y4 y5 y6 y7 y8))
 | 0 => ⟨fun _ _ _ _ _ r h => by simp [tree_Check.l0] at h, fun _ _ _ _ _ _ _ _ _ r h => by simp [tree_Check.j1] at h⟩
 | k + 1 => by
  obtain ⟨ih0, ih1⟩ := tree_Check.mono_l k
  refine ⟨?_, ?_⟩
  ·intro y0 y1 y2 y3 y4
   unfold tree_Check.l0
   have m0_ := @ih0
   have m1_ := @ih1
   have m2_ := @tree_may.mono
   exact mz_
  ·intro y0 y1 y2 y3 y4 y5 y6 y7 y8
   unfold tree_Check.j1
   have m0_ := @ih0
   have m1_ := @ih1
   have m2_ := @tree_may.mono
   exact mz_
theorem tree_Check.mono : ∀ a0 k, LeO (tree_Check.f k a0) (tree_Check.f (k + 1) a0) := by
 intro a0 k
 obtain ⟨ih0, ih1⟩ := tree_Check.mono_l k
 unfold tree_Check.f
 have m0_ := @ih0
 have m1_ := @ih1
 have m2_ := @tree_may.mono
 exact mz_
def tree_Check.T10 : Bool × List (List Nat × List Nat) := (true, [([], []), ([0], [0]), ([1], [1]), ([2], [2]), ([2], [2]), ([4, 2], [2, 4]), ([3, 5, 2], [2, 3, 5]), ([6, 2], [2, 6]), ([2], [2]), ([7, 8, 2, 2], [2, 7, 8]), ([9, 2], [2, 9]), ([2, 10], [2, 10]), ([11, 9], [11])])
def tree_Check.B10 : List Nat := [0, 1, 3, 7, 7, 23, 63, 127, 7, 511, 1023, 2047, 4095]
theorem tree_Check.tab10 : rtab .any (opsOf Tryz.f150 10) = tree_Check.T10 := by kernel_rfl
theorem tree_Check.bits10 : waitsOk tree_Check.T10.2 tree_Check.B10 = true := by kernel_rfl
set_option maxHeartbeats 8000000 in
set_option maxRecDepth 100000 in
theorem tree_Check.calls (k : Nat) (A0 : Option Addr) (c0 : Nat) (l0 : List (S108)) (r : Int) (w : World) (hr0 : Kd.C k108 w A0 l0.length l0) (hc0 : l0.length ≤ c0) (hgv : GV w) (h : tree_Check.f k l0 = some r) :
  Calls Tryz.prog 150 #[.slice A0 l0.length c0] w fun e w' => e = .returned (.int .i64 r) ∧ Below w.heap.size w w' := by
 have hu108 := Tryz.underlying108
 have HR0 := Aside0.mk hr0
 have HC0 := Aside0.mk hc0
 clear hr0 hc0
 have HB := Aside0.mk (Below.refl w.heap.size w)
 have H : (if (l0.length : Int) > 1024 then (some 4) else (tree_Check.l0 k l0 l0 (l0.length : Int) 0 MSI.nil)) = some r := h
 clear h
 by_cases c2 : (l0.length : Int) > 1024
 ·rw [if_pos c2] at H
  have c2b0 := decide_eq_true c2
  have c2b1 : decide (1024 < l0.length) = true := decide_eq_true (by omega)
  clear c2
  obtain rfl := Option.some.inj H
  go_enter Tryz.func150, Tryz.ntmps150
  go_wp2
  go_ret
  exact ⟨z4_, hb_ HB.out⟩
 ·rw [if_neg c2] at H
  have c2b0 := decide_eq_false c2
  have c2b1 : decide (1024 < l0.length) = false := decide_eq_false (by omega)
  clear c2
  have H' := Aside0.mk H
  clear H
  go_enter Tryz.func150, Tryz.ntmps150
  go_wp2_with (first | ((with_reducible refine gate_dst (N := 9) rfl ?_); refine mkmap_event rfl (N := 9) rfl rfl ?_; intro gb101 hg w3 hbox hb; have HI101 := Aside0.mk (IsS176.made hbox (gw_ hg HB.out)); replace HB := Aside0.mk (below_step (hb_ HB.out) hb); clear hb hbox hg))
  go_loopg [12] k (fun kq v12 w' => ∃ (x12_1 : Int) (x102000_1 : MSI), v12 = .int .i64 x12_1 ∧ Aside0 (tree_Check.l0 kq l0 l0 (l0.length : Int) x12_1 x102000_1 = some r) ∧ Aside0 (kq ≤ k) ∧ Aside0 (IsS176 w w' gb101 x102000_1) ∧ Aside0 (Below w.heap.size w w'))
  case atStart => exact ⟨(0), (MSI.nil), z1_, H', ⟨Nat.le_refl _⟩, ⟨z23_⟩, ⟨z20_⟩⟩
  case round =>
   clear H'
   try clear c1
   try clear c2
   try clear c2b0
   try clear c2b1
   try clear p2
   obtain ⟨x12_1, x102000_1, rfl, HA, HK1, HI101, HB⟩ := hrel
   cases gk with
   | zero => exact absurd HA.out (by simp [tree_Check.l0])
   | succ k1 =>
    have H := HA.out
    clear HA
    simp only [tree_Check.l0] at H
    by_cases c4 : x12_1 < (l0.length : Int)
    ·rw [if_pos c4] at H
     have c4b0 := decide_eq_true c4
     clear c4
     by_cases c5 : 0 ≤ x12_1
     ·rw [if_pos c5] at H
      have c5b0 := decide_eq_true c5
      clear c5
      by_cases c6 : x12_1 < (l0.length : Int)
      ·rw [if_pos c6] at H
       have c6b0 := decide_eq_true c6
       clear c6
       by_cases c7 : ((rd_T108 l0 x12_1).f1).size ≤ 9223372036854775807
       ·rw [if_pos c7] at H
        have c7b0 := eq_true c7
        have c7b1 := decide_eq_true c7
        try have c7b2 := nl_ c7
        clear c7
        have c8b0 := eq_true (of_decide_eq_true z0_ : ((rd_T108 l0 x12_1).f1).size ≤ 9223372036854775807)
        by_cases c9 : x102000_1.n < 4611686018427387904
        ·rw [if_pos c9] at H
         have c9b0 := eq_true c9
         have c9b1 := decide_eq_true c9
         clear c9
         replace H := Option.bind_eq_some_iff.mp H
         obtain ⟨t104, A100, H⟩ := H
         have A10 := Aside0.mk A100
         clear A100
         by_cases c11 : t104 = true
         ·subst c11
          have H1 : (if x12_1 > 0 then (if 0 ≤ (wrap64 (x12_1 - 1)) then (if (wrap64 (x12_1 - 1)) < (l0.length : Int) then ((tree_Less.f ((rd_T108 l0 (wrap64 (x12_1 - 1))).f0) ((rd_T108 l0 (wrap64 (x12_1 - 1))).f1) ((rd_T108 l0 (wrap64 (x12_1 - 1))).f2) ((rd_T108 l0 x12_1).f0) ((rd_T108 l0 x12_1).f1) ((rd_T108 l0 x12_1).f2)).bind fun t106 => (tree_Check.j1 k1 l0 l0 (l0.length : Int) x12_1 (!t106) (MSI.put x102000_1 ((rd_T108 l0 x12_1).f1) (wrap64 ((MSI.get x102000_1 ((rd_T108 l0 x12_1).f1)) + 1))) ((rd_T108 l0 x12_1).f0) ((rd_T108 l0 x12_1).f1) ((rd_T108 l0 x12_1).f2))) else (none)) else (none)) else (tree_Check.j1 k1 l0 l0 (l0.length : Int) x12_1 false (MSI.put x102000_1 ((rd_T108 l0 x12_1).f1) (wrap64 ((MSI.get x102000_1 ((rd_T108 l0 x12_1).f1)) + 1))) ((rd_T108 l0 x12_1).f0) ((rd_T108 l0 x12_1).f1) ((rd_T108 l0 x12_1).f2))) = some r := by rw [if_pos rfl] at H; exact H
          clear H
          have H := H1
          clear H1
          have HC12 := Aside0.mk H
          clear H
          have p102 : 0 ≤ (x12_1 : Int) := of_decide_eq_true z0_
          have q102 : x12_1 < (l0.length : Int) := of_decide_eq_true z0_
          obtain ⟨ad102, e102, hx102_0, hx102_1, hx102_2⟩ := at_T108 HR0.out x12_1 p102 q102
          cases e102
          replace hx102_0 := (HB.out.cell (World.block_lt_of_cell? w _ hx102_0)).trans hx102_0
          replace hx102_1 := (HB.out.cell (World.block_lt_of_cell? w _ hx102_1)).trans hx102_1
          replace hx102_2 := (HB.out.cell (World.block_lt_of_cell? w _ hx102_2)).trans hx102_2
          replace p102 := eq_true p102
          replace q102 := eq_true q102
          go_upto_region 10 with (first | ((with_reducible refine gate_dst (N := 5) rfl ?_); refine be_ (cs := #[.int .i64 0, .string (⟨#[]⟩ : ByteArray), .string (⟨#[]⟩ : ByteArray)]) (t := 108) ?_; intro gb103 hg w13 hbox hb; have BK103 := Aside0.mk (hbox); have GW103 := Aside0.mk ((by rw [hg]; exact (below_size z20_) : w.heap.size ≤ gb103)); have GE103 := Aside0.mk ((by rw [hg]; exact (below_size z20_) : w.heap.size ≤ gb103)); replace HB := Aside0.mk (below_step z20_ hb); have NB101_103 := Aside0.mk ((by rw [hg]; exact Nat.ne_of_lt (IsS176.lt (show IsS176 w _ gb101 x102000_1 from z23_)) : gb101 ≠ gb103)); have NB103_101 := Aside0.mk ((by rw [hg]; exact Nat.ne_of_gt (IsS176.lt (show IsS176 w _ gb101 x102000_1 from z23_)) : gb103 ≠ gb101)); replace HI101 := Aside0.mk (IsS176.below z23_ hb); clear hb hbox hg; have hnb14 := NB103_101.out; have hnc14 := NB101_103.out; obtain ⟨hcz15_0, hcz15_1, hcz15_2, hfz15_0, hfz15_1, hfz15_2⟩ := bc3 BK103.out) | ((with_reducible refine gate_dst (N := 20) rfl ?_); refine IsS176.look (show IsS176 w _ gb101 x102000_1 from z14_) rfl rfl rfl rfl (of_decide_eq_true z0_ : ((rd_T108 l0 x12_1).f1).size ≤ 9223372036854775807) ?_) | (at_mapUpdate; refine IsS176.put_ (k := ((rd_T108 l0 x12_1).f1)) (n := (wrap64 ((MSI.get x102000_1 ((rd_T108 l0 x12_1).f1)) + 1))) (show IsS176 w _ gb101 x102000_1 from z14_) rfl rfl rfl rfl rfl (of_decide_eq_true z0_ : ((rd_T108 l0 x12_1).f1).size ≤ 9223372036854775807) (of_decide_eq_true z0_ : x102000_1.n < 4611686018427387904) (wrap64_wf _) ?_; intro w16 hi hg; replace BK103 := Aside0.mk (blk_grown (g := gb103) (o := .cells #[.int .i64 ((rd_T108 l0 x12_1).f0), .string ((rd_T108 l0 x12_1).f1), .string ((rd_T108 l0 x12_1).f2)] 108 (0, 0)) (by have b_ := BK103; exact zb_) hg (fun e_ => NB103_101.out (Option.some.inj e_))); replace HB := Aside0.mk (Below.grown z10_ hg ((below_size z10_)) (fun k_ e_ => (Option.some.inj e_) ▸ (IsS176.ge hi))); replace HI101 := Aside0.mk (hi); clear hi hg; obtain ⟨hcz17_0, hcz17_1, hcz17_2, hfz17_0, hfz17_1, hfz17_2⟩ := bc3 BK103.out) | ((with_reducible refine gate_callee (f := 192) rfl ?_); refine goesL_ (some 24) rfl rfl Tryz.func192 (by kernel_rfl) rfl #[.agg #[.int .i64 ((rd_T108 l0 x12_1).f0), .string ((rd_T108 l0 x12_1).f1), .string ((rd_T108 l0 x12_1).f2)]] rfl z2_ ?_; (with_reducible refine (tree_may.calls k1 ((rd_T108 l0 x12_1).f0) ((rd_T108 l0 x12_1).f1) ((rd_T108 l0 x12_1).f2) true _ ?side1 A10.out).mono ?_); (case side1 => exact GV.below hgv z10_); rintro e w18 ⟨rfl, hb⟩; refine ⟨_, rfl, ?_⟩; replace BK103 := Aside0.mk (bb_ BK103.out hb); replace HB := Aside0.mk (below_step z10_ hb); replace HI101 := Aside0.mk (IsS176.below z14_ hb); (try clear hb); (try clear hb2); (try clear hk); (try clear hi)))
          (try simp only [Act.put, List.setIfInBounds_toArray, List.set_cons_zero, List.set_cons_succ])
          go_cut [26] (fun v26 wc => ∃ (kq : Nat) (x26_11 : Bool), v26 = .bool x26_11 ∧ Aside0 (tree_Check.j1 kq l0 l0 (l0.length : Int) x12_1 x26_11 (MSI.put x102000_1 ((rd_T108 l0 x12_1).f1) (wrap64 ((MSI.get x102000_1 ((rd_T108 l0 x12_1).f1)) + 1))) ((rd_T108 l0 x12_1).f0) ((rd_T108 l0 x12_1).f1) ((rd_T108 l0 x12_1).f2) = some r) ∧ Aside0 (kq ≤ k1) ∧ Aside0 (wc.heap[gb103]? = some (.cells #[.int .i64 ((rd_T108 l0 x12_1).f0), .string ((rd_T108 l0 x12_1).f1), .string ((rd_T108 l0 x12_1).f2)] 108 (0, 0))) ∧ Aside0 (IsS176 w wc gb101 (MSI.put x102000_1 ((rd_T108 l0 x12_1).f1) (wrap64 ((MSI.get x102000_1 ((rd_T108 l0 x12_1).f1)) + 1)))) ∧ Aside0 (Below w.heap.size w wc))
          case first =>
           have H := HC12.out
           clear HC12
           by_cases c19 : x12_1 > 0
           ·rw [if_pos c19] at H
            have c19b0 := decide_eq_true c19
            clear c19
            (first | rw [c19b0] | (simp only [i64_w, i32_w]; rw [c19b0]) | skip)
            obtain ⟨ji20, hji20⟩ : ∃ j_ : Int, (wrap64 (x12_1 - 1)) = j_ := ⟨_, rfl⟩
            replace H : (if 0 ≤ (ji20) then (if (ji20) < (l0.length : Int) then ((tree_Less.f ((rd_T108 l0 (ji20)).f0) ((rd_T108 l0 (ji20)).f1) ((rd_T108 l0 (ji20)).f2) ((rd_T108 l0 x12_1).f0) ((rd_T108 l0 x12_1).f1) ((rd_T108 l0 x12_1).f2)).bind fun t106 => (tree_Check.j1 k1 l0 l0 (l0.length : Int) x12_1 (!t106) (MSI.put x102000_1 ((rd_T108 l0 x12_1).f1) (wrap64 ((MSI.get x102000_1 ((rd_T108 l0 x12_1).f1)) + 1))) ((rd_T108 l0 x12_1).f0) ((rd_T108 l0 x12_1).f1) ((rd_T108 l0 x12_1).f2))) else (none)) else (none)) = some r := by first | (rw [hji20] at H; exact H) | (simp only [hji20] at H ⊢; exact H)
            have hji20w : (IntKind.i64.wrap (x12_1 - 1)) = ji20 := (i64_w _).trans hji20
            by_cases c21 : 0 ≤ (ji20)
            ·rw [if_pos c21] at H
             have c21b0 := decide_eq_true c21
             clear c21
             by_cases c22 : (ji20) < (l0.length : Int)
             ·rw [if_pos c22] at H
              have c22b0 := decide_eq_true c22
              clear c22
              replace H := Option.bind_eq_some_iff.mp H
              obtain ⟨t106, A230, H⟩ := H
              have A23 := Aside0.mk A230
              clear A230
              have H' := Aside0.mk H
              clear H
              try go_wp2
              replace BK103 := Aside0.mk (blk_drew BK103.out)
              replace HI101 := Aside0.mk (IsS176.drew HI101.out)
              replace HB := Aside0.mk (below_drew1 HB.out)
              have p105 : 0 ≤ ((ji20) : Int) := of_decide_eq_true z0_
              have q105 : (ji20) < (l0.length : Int) := of_decide_eq_true z0_
              obtain ⟨ad105, e105, hx105_0, hx105_1, hx105_2⟩ := at_T108 HR0.out (ji20) p105 q105
              have hw105_2 := hx105_2
              have hw105_1 := hx105_1
              have hw105_0 := hx105_0
              obtain rfl : ad102 = ad105 := (by injection e105)
              replace hx105_0 := (HB.out.cell (World.block_lt_of_cell? w _ hx105_0)).trans hx105_0
              replace hx105_1 := (HB.out.cell (World.block_lt_of_cell? w _ hx105_1)).trans hx105_1
              replace hx105_2 := (HB.out.cell (World.block_lt_of_cell? w _ hx105_2)).trans hx105_2
              replace p105 := eq_true p105
              replace q105 := eq_true q105
              refine start_ (n := 13) (S := fun w' => w'.cell? ⟨gb103, 0, none⟩ = some (.int .i64 ((rd_T108 l0 x12_1).f0)) ∧ w'.cell? ⟨gb103, 1, none⟩ = some (.string ((rd_T108 l0 x12_1).f1)) ∧ w'.cell? ⟨gb103, 2, none⟩ = some (.string ((rd_T108 l0 x12_1).f2)) ∧ w'.cell? (ad102.add (((ji20)).toNat * 3)) = some (.int .i64 ((rd_T108 l0 (ji20)).f0)) ∧ w'.cell? ⟨(ad102.add (((ji20)).toNat * 3)).block, (ad102.add (((ji20)).toNat * 3)).off + 1, none⟩ = some (.string ((rd_T108 l0 (ji20)).f1)) ∧ w'.cell? ⟨(ad102.add (((ji20)).toNat * 3)).block, (ad102.add (((ji20)).toNat * 3)).off + 2, none⟩ = some (.string ((rd_T108 l0 (ji20)).f2))) (ds := []) (bs 13 0) (by kernel_rfl) rfl rfl ⟨(blk_cell BK103.out 0).trans rfl, (blk_cell BK103.out 1).trans rfl, (blk_cell BK103.out 2).trans rfl, ((HB.out.cell (World.block_lt_of_cell? w _ hw105_0)).trans hw105_0), ((HB.out.cell (World.block_lt_of_cell? w _ hw105_1)).trans hw105_1), ((HB.out.cell (World.block_lt_of_cell? w _ hw105_2)).trans hw105_2)⟩ (fun hHeld => ?_); refine with_tabW tree_Check.tab10 tree_Check.bits10 (fun HT_ HW_ => ?_)
              generalize w18.drew = w24 at BK103 HI101 HB hx105_0 hx105_1 hx105_2 hHeld ⊢
              refine pu_ (i := 0) (N := some 27) (bs 13 1) rfl rfl ?_
              refine pu_ (i := 1) (N := some 28) (bs 13 3) rfl rfl ?_
              refine pu_ (i := 2) (N := some 29) (bs 13 7) rfl rfl ?_
              refine pu_ (i := 3) (N := some 30) (bs 13 15) rfl rfl ?_
              refine pu_ (i := 4) (N := some 31) (bs 13 31) rfl rfl ?_
              refine pu_ (i := 5) (N := some 32) (bs 13 63) rfl rfl ?_
              refine pu_ (i := 6) (N := some 33) (bs 13 127) rfl rfl ?_
              refine tkW6_ (i := 7) (N := some 34) (bs 13 255) rfl rfl hHeld ?_
              refine tkW6_ (i := 8) (N := some 35) (bs 13 511) rfl rfl hHeld ?_
              refine one_ (i := 9) (N := some 36) (bs 13 1023) rfl rfl (one_of HT_.out (by kernel_rfl)) (by decide) (fun K hK => ?_)
              refine goes_ Tryz.func193 (by kernel_rfl) rfl #[.agg #[.int .i64 ((rd_T108 l0 (ji20)).f0), .string ((rd_T108 l0 (ji20)).f1), .string ((rd_T108 l0 (ji20)).f2)], .agg #[.int .i64 ((rd_T108 l0 x12_1).f0), .string ((rd_T108 l0 x12_1).f1), .string ((rd_T108 l0 x12_1).f2)]] (by rfl) rfl rfl (by (try simp only [List.map_toArray, List.map_cons, List.map_nil]); first | done | (simp only [hji20]; rfl) | rfl | (simp only [List.length_drop, List.length_take]; rfl)) ?_
              with_reducible refine (tree_Less.calls ((rd_T108 l0 (ji20)).f0) ((rd_T108 l0 (ji20)).f1) ((rd_T108 l0 (ji20)).f2) ((rd_T108 l0 x12_1).f0) ((rd_T108 l0 x12_1).f1) ((rd_T108 l0 x12_1).f2) t106 _ A23.out).mono ?_
              rintro e w25 ⟨rfl, hb⟩
              refine ⟨_, rfl, ?_⟩
              replace BK103 := Aside0.mk (bb_ BK103.out hb)
              replace HB := Aside0.mk (below_step z10_ hb)
              replace HI101 := Aside0.mk (IsS176.below z14_ hb)
              (try clear hb)
              (try clear hb2)
              (try clear hk)
              (try clear hi)
              refine hK.out _ _ ⟨(blk_cell BK103.out 0).trans rfl, (blk_cell BK103.out 1).trans rfl, (blk_cell BK103.out 2).trans rfl, ((HB.out.cell (World.block_lt_of_cell? w _ hw105_0)).trans hw105_0), ((HB.out.cell (World.block_lt_of_cell? w _ hw105_1)).trans hw105_1), ((HB.out.cell (World.block_lt_of_cell? w _ hw105_2)).trans hw105_2)⟩ (fun hHeld => ?_)
              clear hK K
              refine norm_ (a' := ?_) ?_ ?_
              rotate_left
              ·show Act.put _ (some 36) _ = _
               simp only [Act.put, List.setIfInBounds_toArray, List.set_cons_zero, List.set_cons_succ, i64_w, i32_w]
               rfl
              refine pu_ (i := 10) (N := some 37) (bs 13 2047) rfl rfl ?_
              refine pu_ (i := 11) (N := some 38) (bs 13 4095) rfl rfl ?_
              refine pu_ (i := 12) (N := some 26) (bs 13 8191) rfl rfl ?_
              refine done_ (done_of HT_.out (by kernel_rfl)) ?_
              try go_wp2
              (try subst hji20)
              go_meet
              case rel => exact ⟨_, (!t106), z1_, H', ⟨by have := HK1.out; first | omega | exact Nat.le_refl _⟩, ⟨bk_ BK103.out⟩, ⟨z14_⟩, ⟨z10_⟩⟩
             ·rw [if_neg c22] at H
              exact absurd H (by simp)
            ·rw [if_neg c21] at H
             exact absurd H (by simp)
           ·rw [if_neg c19] at H
            have c19b0 := decide_eq_false c19
            clear c19
            (first | rw [c19b0] | (simp only [i64_w, i32_w]; rw [c19b0]) | skip)
            have H' := Aside0.mk H
            clear H
            try go_wp2
            replace BK103 := Aside0.mk (blk_drew BK103.out)
            replace HI101 := Aside0.mk (IsS176.drew HI101.out)
            replace HB := Aside0.mk (below_drew1 HB.out)
            refine start_ (n := 13) (S := fun w' => True) (ds := []) (bs 13 0) (by kernel_rfl) rfl rfl trivial (fun hHeld => ?_); refine with_tabW tree_Check.tab10 tree_Check.bits10 (fun HT_ HW_ => ?_)
            generalize w18.drew = w26 at BK103 HI101 HB hHeld ⊢
            refine pu_ (i := 0) (N := some 27) (bs 13 1) rfl rfl ?_
            refine pu_ (i := 1) (N := some 28) (bs 13 3) rfl rfl ?_
            refine pu_ (i := 2) (N := some 29) (bs 13 7) rfl rfl ?_
            refine pn_ (i := 3) (N := some 30) (bs 13 15) rfl rfl ?_
            refine pn_ (i := 4) (N := some 31) (bs 13 31) rfl rfl ?_
            refine pn_ (i := 5) (N := some 32) (bs 13 63) rfl rfl ?_
            refine pn_ (i := 6) (N := some 33) (bs 13 127) rfl rfl ?_
            refine pn_ (i := 7) (N := some 34) (bs 13 255) rfl rfl ?_
            refine pn_ (i := 8) (N := some 35) (bs 13 511) rfl rfl ?_
            refine pn_ (i := 9) (N := some 36) (bs 13 1023) rfl rfl ?_
            refine pn_ (i := 10) (N := some 37) (bs 13 2047) rfl rfl ?_
            refine pu_ (i := 11) (N := some 38) (bs 13 4095) rfl rfl ?_
            refine pu_ (i := 12) (N := some 26) (bs 13 8191) rfl rfl ?_
            refine done_ (done_of HT_.out (by kernel_rfl)) ?_
            try go_wp2
            go_meet
            case rel => exact ⟨_, (false), z1_, H', ⟨by have := HK1.out; first | omega | exact Nat.le_refl _⟩, ⟨bk_ BK103.out⟩, ⟨z14_⟩, ⟨z10_⟩⟩
          case rest =>
           clear HC12
           try clear c1
           try clear p1
           try clear q1
           try clear hx1
           try clear c2
           try clear c2b0
           try clear c2b1
           try clear p2
           try clear c4
           try clear c4b0
           try clear c5
           try clear c5b0
           try clear c6
           try clear c6b0
           try clear p6
           try clear c7
           try clear c7b0
           try clear c7b1
           try clear c7b2
           try clear c8
           try clear c8b0
           try clear c9
           try clear c9b0
           try clear c9b1
           try clear p10
           try clear q10
           try clear hx10
           try clear c11
           try clear c14
           try clear c15
           try clear c19
           try clear c19b0
           try clear c21
           try clear c21b0
           try clear c22
           try clear c22b0
           try clear hcz15_0 hcz15_1 hcz15_2
           try clear hcz17_0 hcz17_1 hcz17_2
           try clear hfz15_0 hfz15_1 hfz15_2
           try clear hfz17_0 hfz17_1 hfz17_2
           try clear hx102_0
           try clear hx102_1
           try clear hx102_2
           try clear hx105_0
           try clear hx105_1
           try clear hx105_2
           try clear p102
           try clear p105
           try clear p2
           try clear q102
           try clear q105
           obtain ⟨kq, x26_11, rfl, HA, HJ11, BK103, HI101, HB⟩ := hcut
           cases kq with
           | zero => exact absurd HA.out (by simp [tree_Check.j1])
           | succ kj11 =>
            have H := HA.out
            clear HA
            simp only [tree_Check.j1] at H
            by_cases c27 : x26_11 = true
            ·subst c27
             have H1 : (some 150) = some r := by rw [if_pos rfl] at H; exact H
             clear H
             have H := H1
             clear H1
             obtain rfl := Option.some.inj H
             go_wp2
             go_ret
             exact ⟨z4_, z10_⟩
            ·replace c27 := Bool.eq_false_iff.mpr c27
             subst c27
             have H1 : (if ((rd_T108 l0 x12_1).f1).size ≤ 9223372036854775807 then (if (MSI.get (MSI.put x102000_1 ((rd_T108 l0 x12_1).f1) (wrap64 ((MSI.get x102000_1 ((rd_T108 l0 x12_1).f1)) + 1))) ((rd_T108 l0 x12_1).f1)) > 1 then (some 6) else (tree_Check.l0 kj11 l0 l0 (l0.length : Int) (wrap64 (x12_1 + 1)) (MSI.put x102000_1 ((rd_T108 l0 x12_1).f1) (wrap64 ((MSI.get x102000_1 ((rd_T108 l0 x12_1).f1)) + 1))))) else (none)) = some r := by rw [if_neg (show ¬ (false = true) by decide)] at H; exact H
             clear H
             have H := H1
             clear H1
             by_cases c28 : ((rd_T108 l0 x12_1).f1).size ≤ 9223372036854775807
             ·rw [if_pos c28] at H
              have c28b0 := eq_true c28
              have c28b1 := decide_eq_true c28
              try have c28b2 := nl_ c28
              clear c28
              by_cases c29 : (MSI.get (MSI.put x102000_1 ((rd_T108 l0 x12_1).f1) (wrap64 ((MSI.get x102000_1 ((rd_T108 l0 x12_1).f1)) + 1))) ((rd_T108 l0 x12_1).f1)) > 1
              ·rw [if_pos c29] at H
               have c29b0 := decide_eq_true c29
               clear c29
               obtain rfl := Option.some.inj H
               have hnb30 := NB103_101.out
               have hnc30 := NB101_103.out
               obtain ⟨hcz31_0, hcz31_1, hcz31_2, hfz31_0, hfz31_1, hfz31_2⟩ := bc3 BK103.out
               go_wp2_with (first | ((with_reducible refine gate_dst (N := 43) rfl ?_); refine IsS176.look (show IsS176 w _ gb101 (MSI.put x102000_1 ((rd_T108 l0 x12_1).f1) (wrap64 ((MSI.get x102000_1 ((rd_T108 l0 x12_1).f1)) + 1))) from z14_) rfl rfl rfl rfl (of_decide_eq_true z0_ : ((rd_T108 l0 x12_1).f1).size ≤ 9223372036854775807) ?_))
               go_ret
               exact ⟨z4_, z10_⟩
              ·rw [if_neg c29] at H
               have c29b0 := decide_eq_false c29
               clear c29
               have H' := Aside0.mk H
               clear H
               have hnb32 := NB103_101.out
               have hnc32 := NB101_103.out
               obtain ⟨hcz33_0, hcz33_1, hcz33_2, hfz33_0, hfz33_1, hfz33_2⟩ := bc3 BK103.out
               go_wp2_with (first | ((with_reducible refine gate_dst (N := 43) rfl ?_); refine IsS176.look (show IsS176 w _ gb101 (MSI.put x102000_1 ((rd_T108 l0 x12_1).f1) (wrap64 ((MSI.get x102000_1 ((rd_T108 l0 x12_1).f1)) + 1))) from z14_) rfl rfl rfl rfl (of_decide_eq_true z0_ : ((rd_T108 l0 x12_1).f1).size ≤ 9223372036854775807) ?_))
               go_roundg kj11
               case measure => have := HK1.out; have := HJ11.out; omega
               case rel => exact ⟨(wrap64 (x12_1 + 1)), ((MSI.put x102000_1 ((rd_T108 l0 x12_1).f1) (wrap64 ((MSI.get x102000_1 ((rd_T108 l0 x12_1).f1)) + 1)))), z1_, H', ⟨by have := HK1.out; have := HJ11.out; omega⟩, ⟨z14_⟩, ⟨z10_⟩⟩
             ·rw [if_neg c28] at H
              exact absurd H (by simp)
         ·replace c11 := Bool.eq_false_iff.mpr c11
          subst c11
          have H1 : (some 1) = some r := by rw [if_neg (show ¬ (false = true) by decide)] at H; exact H
          clear H
          have H := H1
          clear H1
          obtain rfl := Option.some.inj H
          have p102 : 0 ≤ (x12_1 : Int) := of_decide_eq_true z0_
          have q102 : x12_1 < (l0.length : Int) := of_decide_eq_true z0_
          obtain ⟨ad102, e102, hx102_0, hx102_1, hx102_2⟩ := at_T108 HR0.out x12_1 p102 q102
          cases e102
          replace hx102_0 := (HB.out.cell (World.block_lt_of_cell? w _ hx102_0)).trans hx102_0
          replace hx102_1 := (HB.out.cell (World.block_lt_of_cell? w _ hx102_1)).trans hx102_1
          replace hx102_2 := (HB.out.cell (World.block_lt_of_cell? w _ hx102_2)).trans hx102_2
          replace p102 := eq_true p102
          replace q102 := eq_true q102
          go_wp2_with (first | ((with_reducible refine gate_dst (N := 5) rfl ?_); refine be_ (cs := #[.int .i64 0, .string (⟨#[]⟩ : ByteArray), .string (⟨#[]⟩ : ByteArray)]) (t := 108) ?_; intro gb103 hg w34 hbox hb; have BK103 := Aside0.mk (hbox); have GW103 := Aside0.mk ((by rw [hg]; exact (below_size z20_) : w.heap.size ≤ gb103)); have GE103 := Aside0.mk ((by rw [hg]; exact (below_size z20_) : w.heap.size ≤ gb103)); replace HB := Aside0.mk (below_step z20_ hb); have NB101_103 := Aside0.mk ((by rw [hg]; exact Nat.ne_of_lt (IsS176.lt (show IsS176 w _ gb101 x102000_1 from z23_)) : gb101 ≠ gb103)); have NB103_101 := Aside0.mk ((by rw [hg]; exact Nat.ne_of_gt (IsS176.lt (show IsS176 w _ gb101 x102000_1 from z23_)) : gb103 ≠ gb101)); replace HI101 := Aside0.mk (IsS176.below z23_ hb); clear hb hbox hg; have hnb35 := NB103_101.out; have hnc35 := NB101_103.out; obtain ⟨hcz36_0, hcz36_1, hcz36_2, hfz36_0, hfz36_1, hfz36_2⟩ := bc3 BK103.out) | ((with_reducible refine gate_dst (N := 20) rfl ?_); refine IsS176.look (show IsS176 w _ gb101 x102000_1 from z14_) rfl rfl rfl rfl (of_decide_eq_true z0_ : ((rd_T108 l0 x12_1).f1).size ≤ 9223372036854775807) ?_) | (at_mapUpdate; refine IsS176.put_ (k := ((rd_T108 l0 x12_1).f1)) (n := (wrap64 ((MSI.get x102000_1 ((rd_T108 l0 x12_1).f1)) + 1))) (show IsS176 w _ gb101 x102000_1 from z14_) rfl rfl rfl rfl rfl (of_decide_eq_true z0_ : ((rd_T108 l0 x12_1).f1).size ≤ 9223372036854775807) (of_decide_eq_true z0_ : x102000_1.n < 4611686018427387904) (wrap64_wf _) ?_; intro w37 hi hg; replace BK103 := Aside0.mk (blk_grown (g := gb103) (o := .cells #[.int .i64 ((rd_T108 l0 x12_1).f0), .string ((rd_T108 l0 x12_1).f1), .string ((rd_T108 l0 x12_1).f2)] 108 (0, 0)) (by have b_ := BK103; exact zb_) hg (fun e_ => NB103_101.out (Option.some.inj e_))); replace HB := Aside0.mk (Below.grown z10_ hg ((below_size z10_)) (fun k_ e_ => (Option.some.inj e_) ▸ (IsS176.ge hi))); replace HI101 := Aside0.mk (hi); clear hi hg; obtain ⟨hcz38_0, hcz38_1, hcz38_2, hfz38_0, hfz38_1, hfz38_2⟩ := bc3 BK103.out) | ((with_reducible refine gate_callee (f := 192) rfl ?_); refine goesL_ (some 24) rfl rfl Tryz.func192 (by kernel_rfl) rfl #[.agg #[.int .i64 ((rd_T108 l0 x12_1).f0), .string ((rd_T108 l0 x12_1).f1), .string ((rd_T108 l0 x12_1).f2)]] rfl z2_ ?_; (with_reducible refine (tree_may.calls k1 ((rd_T108 l0 x12_1).f0) ((rd_T108 l0 x12_1).f1) ((rd_T108 l0 x12_1).f2) false _ ?side1 A10.out).mono ?_); (case side1 => exact GV.below hgv z10_); rintro e w39 ⟨rfl, hb⟩; refine ⟨_, rfl, ?_⟩; replace BK103 := Aside0.mk (bb_ BK103.out hb); replace HB := Aside0.mk (below_step z10_ hb); replace HI101 := Aside0.mk (IsS176.below z14_ hb); (try clear hb); (try clear hb2); (try clear hk); (try clear hi)))
          go_ret
          exact ⟨z4_, z10_⟩
        ·rw [if_neg c9] at H
         exact absurd H (by simp)
       ·rw [if_neg c7] at H
        exact absurd H (by simp)
      ·rw [if_neg c6] at H
       exact absurd H (by simp)
     ·rw [if_neg c5] at H
      exact absurd H (by simp)
    ·rw [if_neg c4] at H
     have c4b0 := decide_eq_false c4
     clear c4
     obtain rfl := Option.some.inj H
     go_wp2
     go_ret
     exact ⟨z4_, z20_⟩


def tree_Parse.l0 : Nat → ByteArray → List (S108) → Option ((List (S108)) × Int)
 | 0, _, _ => none
 | k + 1, x0, x4 => if x0.toList = ([] : List UInt8) then ((tree_Check.f k x4).bind fun t101 => (if t101 = 0 then (some (x4, 0)) else (some (([] : List (S108)), t101)))) else ((tree_mode.f k x0).bind fun bt102 => (if bt102.2.2 = 0 then ((strings_Cut.f bt102.2.1 (⟨#[0]⟩ : ByteArray)).bind fun bt105 => (if bt105.2.2 = true then (if (bt105.2.1.size : Int) < 20 then (some (([] : List (S108)), 3)) else (if 0 ≤ 20 then (if 20 ≤ (bt105.2.1.size : Int) then ((ident_Hex.f k (bt105.2.1.extract 0 20)).bind fun t108 => (if x4.length < 3518437208883 then (tree_Parse.l0 k (bt105.2.1.extract 20 bt105.2.1.size) (x4 ++ [(⟨bt102.1, bt105.1, t108⟩ : S108)])) else (none))) else (none)) else (none))) else (some (([] : List (S108)), 3)))) else (some (([] : List (S108)), bt102.2.2))))
def tree_Parse.f (k : Nat) (a0 : ByteArray) : Option ((List (S108)) × Int) := tree_Parse.l0 k a0 ([] : List (S108))
theorem tree_Parse.mono_l : ∀ k, (∀ y0 y1, LeO (tree_Parse.l0 k y0 y1) (tree_Parse.l0 (k + 1) y0 y1))
 | 0 => fun _ _ r h => by simp [tree_Parse.l0] at h
 | k + 1 => by
  have ih0 := tree_Parse.mono_l k
  ·intro y0 y1
   unfold tree_Parse.l0
   have m0_ := @ih0
   have m1_ := @ident_Hex.mono
   have m2_ := @tree_Check.mono
   have m3_ := @tree_mode.mono
   exact mz_
theorem tree_Parse.mono : ∀ a0 k, LeO (tree_Parse.f k a0) (tree_Parse.f (k + 1) a0) := by
 intro a0 k
 have ih0 := tree_Parse.mono_l k
 unfold tree_Parse.f
 have m0_ := @ih0
 have m1_ := @ident_Hex.mono
 have m2_ := @tree_Check.mono
 have m3_ := @tree_mode.mono
 exact mz_
set_option maxHeartbeats 8000000 in
set_option maxRecDepth 100000 in
theorem tree_Parse.calls (k : Nat) (a0 : ByteArray) (r1 : List (S108)) (r2 : Int) (w : World) (hgv : GV w) (h : tree_Parse.f k a0 = some (r1, r2)) :
  Calls Tryz.prog 94 #[.string a0] w fun e w' => ∃ v0_ : Value, e = .returned (.tuple #[v0_, .int .i64 r2]) ∧ Kd.R k108 108 w' w.heap.size (fun _ => True) v0_ r1 ∧ Below w.heap.size w w' := by
 have hu108 := Tryz.underlying108
 have HB := Aside0.mk (Below.refl w.heap.size w)
 have H : (tree_Parse.l0 k a0 ([] : List (S108))) = some (r1, r2) := h
 clear h
 have H' := Aside0.mk H
 clear H
 go_enter Tryz.func94, Tryz.ntmps94
 go_wp2
 go_loopg [0, 4] k (fun kq v0 v4 w' => ∃ (x0_1 : ByteArray) (x4_1 : List (S108)), v0 = .string x0_1 ∧ Aside0 (tree_Parse.l0 kq x0_1 x4_1 = some (r1, r2)) ∧ Aside0 (kq ≤ k) ∧ Aside0 (Kd.R k108 108 w' w.heap.size (fun _ => True) v4 x4_1) ∧ Aside0 (Below w.heap.size w w'))
 case atStart => exact ⟨(a0), (([] : List (S108))), z1_, H', ⟨Nat.le_refl _⟩, ⟨z6_⟩, ⟨hb_ HB.out⟩⟩
 case round =>
  clear H'
  obtain ⟨x0_1, x4_1, rfl, HA, HK1, HO_4, HB⟩ := hrel
  cases gk with
  | zero => exact absurd HA.out (by simp [tree_Parse.l0])
  | succ k1 =>
   have H := HA.out
   clear HA
   simp only [tree_Parse.l0] at H
   by_cases c2 : x0_1.toList = ([] : List UInt8)
   ·rw [if_pos c2] at H
    have c2b0 := beq_iff_eq.mpr c2
    have c2b1 := bne_eq_false_iff_eq.mpr c2
    clear c2
    replace H := Option.bind_eq_some_iff.mp H
    obtain ⟨t101, A30, H⟩ := H
    have A3 := Aside0.mk A30
    clear A30
    by_cases c4 : t101 = 0
    ·rw [if_pos c4] at H
     have c4b0 := beq_iff_eq.mpr c4
     have c4b1 := bne_eq_false_iff_eq.mpr c4
     clear c4
     simp only [Option.some.injEq, Prod.mk.injEq] at H
     obtain ⟨rfl, rfl⟩ := H
     obtain ⟨Ao5, co5, eo5⟩ := Kd.R_slice HO_4.out
     subst eo5
     go_wp2_with (first | ((with_reducible refine gate_callee (f := 150) rfl ?_); refine goesL_ (some 48) rfl rfl Tryz.func150 (by kernel_rfl) rfl #[.slice Ao5 x4_1.length co5] rfl z2_ ?_; (with_reducible refine (tree_Check.calls k1 _ _ x4_1 t101 _ ?side1 ?side2 ?side3 A3.out).mono ?_); (case side1 => repeat (first | exact (Kd.R_reads' HO_4.out).2.2 | (with_reducible refine Kd.C_alloc ?_ _) | (with_reducible refine Kd.C_drewN ?_ _) | (with_reducible refine Kd.C_drew ?_))); (case side2 => exact (Kd.R_reads' HO_4.out).2.1); (case side3 => exact GV.below hgv (hb_ HB.out)); rintro e w6 ⟨rfl, hb⟩; refine ⟨_, rfl, ?_⟩; replace HO_4 := Aside0.mk (Kd.R_below (rk_ HO_4.out) hb); replace HB := Aside0.mk (below_step (hb_ HB.out) hb); (try clear hb); (try clear hb2); (try clear hk); (try clear hi)))
     go_ret2
     exact ⟨_, z4_, rk_ HO_4.out, hb_ HB.out⟩
    ·rw [if_neg c4] at H
     have c4b0 := beq_eq_false_iff_ne.mpr c4
     have c4b1 := bne_iff_ne.mpr c4
     simp only [Option.some.injEq, Prod.mk.injEq] at H
     obtain ⟨rfl, rfl⟩ := H
     obtain ⟨Ao7, co7, eo7⟩ := Kd.R_slice HO_4.out
     subst eo7
     go_wp2_with (first | ((with_reducible refine gate_callee (f := 150) rfl ?_); refine goesL_ (some 48) rfl rfl Tryz.func150 (by kernel_rfl) rfl #[.slice Ao7 x4_1.length co7] rfl z2_ ?_; (with_reducible refine (tree_Check.calls k1 _ _ x4_1 t101 _ ?side1 ?side2 ?side3 A3.out).mono ?_); (case side1 => repeat (first | exact (Kd.R_reads' HO_4.out).2.2 | (with_reducible refine Kd.C_alloc ?_ _) | (with_reducible refine Kd.C_drewN ?_ _) | (with_reducible refine Kd.C_drew ?_))); (case side2 => exact (Kd.R_reads' HO_4.out).2.1); (case side3 => exact GV.below hgv (hb_ HB.out)); rintro e w8 ⟨rfl, hb⟩; refine ⟨_, rfl, ?_⟩; replace HO_4 := Aside0.mk (Kd.R_below (rk_ HO_4.out) hb); replace HB := Aside0.mk (below_step (hb_ HB.out) hb); (try clear hb); (try clear hb2); (try clear hk); (try clear hi)))
     go_ret2
     exact ⟨_, z4_, z6_, hb_ HB.out⟩
   ·rw [if_neg c2] at H
    have c2b0 := beq_eq_false_iff_ne.mpr c2
    have c2b1 := bne_iff_ne.mpr c2
    replace H := Option.bind_eq_some_iff.mp H
    obtain ⟨⟨t102, t103, t104⟩, A90, H⟩ := H
    replace H : (if t104 = 0 then ((strings_Cut.f t103 (⟨#[0]⟩ : ByteArray)).bind fun bt105 => (if bt105.2.2 = true then (if (bt105.2.1.size : Int) < 20 then (some (([] : List (S108)), 3)) else (if 0 ≤ 20 then (if 20 ≤ (bt105.2.1.size : Int) then ((ident_Hex.f k1 (bt105.2.1.extract 0 20)).bind fun t108 => (if x4_1.length < 3518437208883 then (tree_Parse.l0 k1 (bt105.2.1.extract 20 bt105.2.1.size) (x4_1 ++ [(⟨t102, bt105.1, t108⟩ : S108)])) else (none))) else (none)) else (none))) else (some (([] : List (S108)), 3)))) else (some (([] : List (S108)), t104))) = some (r1, r2) := H
    have A9 := Aside0.mk A90
    clear A90
    by_cases c10 : t104 = 0
    ·rw [if_pos c10] at H
     have c10b0 := beq_iff_eq.mpr c10
     have c10b1 := bne_eq_false_iff_eq.mpr c10
     clear c10
     replace H := Option.bind_eq_some_iff.mp H
     obtain ⟨⟨t105, t106, t107⟩, A110, H⟩ := H
     replace H : (if t107 = true then (if (t106.size : Int) < 20 then (some (([] : List (S108)), 3)) else (if 0 ≤ 20 then (if 20 ≤ (t106.size : Int) then ((ident_Hex.f k1 (t106.extract 0 20)).bind fun t108 => (if x4_1.length < 3518437208883 then (tree_Parse.l0 k1 (t106.extract 20 t106.size) (x4_1 ++ [(⟨t102, t105, t108⟩ : S108)])) else (none))) else (none)) else (none))) else (some (([] : List (S108)), 3))) = some (r1, r2) := H
     have A11 := Aside0.mk A110
     clear A110
     by_cases c12 : t107 = true
     ·subst c12
      have H1 : (if (t106.size : Int) < 20 then (some (([] : List (S108)), 3)) else (if 0 ≤ 20 then (if 20 ≤ (t106.size : Int) then ((ident_Hex.f k1 (t106.extract 0 20)).bind fun t108 => (if x4_1.length < 3518437208883 then (tree_Parse.l0 k1 (t106.extract 20 t106.size) (x4_1 ++ [(⟨t102, t105, t108⟩ : S108)])) else (none))) else (none)) else (none))) = some (r1, r2) := by rw [if_pos rfl] at H; exact H
      clear H
      have H := H1
      clear H1
      by_cases c13 : (t106.size : Int) < 20
      ·rw [if_pos c13] at H
       have c13b0 := decide_eq_true c13
       have c13b1 : decide (t106.size < 20) = true := decide_eq_true (by omega)
       clear c13
       simp only [Option.some.injEq, Prod.mk.injEq] at H
       obtain ⟨rfl, rfl⟩ := H
       go_wp2_with (first | ((with_reducible refine gate_callee (f := 148) rfl ?_); refine goesL_ (some 16) rfl rfl Tryz.func148 (by kernel_rfl) rfl #[.string x0_1] rfl z2_ ?_; (with_reducible refine (tree_mode.calls k1 x0_1 t102 t103 t104 _ A9.out).mono ?_); rintro e w' ⟨rfl, ⟨nd, rfl⟩⟩; refine ⟨_, rfl, ?_⟩) | ((with_reducible refine gate_callee (f := 82) rfl ?_); refine goesL_ (some 25) rfl rfl Tryz.func82 (by kernel_rfl) rfl #[.string t103, .string (⟨#[0]⟩ : ByteArray)] rfl z2_ ?_; (with_reducible refine (strings_Cut.calls t103 (⟨#[0]⟩ : ByteArray) t105 t106 true _ ?side1 A11.out).mono ?_); (case side1 => exact GV.below hgv (hb_ HB.out)); rintro e w' ⟨rfl, ⟨nd, rfl⟩⟩; refine ⟨_, rfl, ?_⟩))
       go_ret2
       exact ⟨_, z4_, z6_, hb_ HB.out⟩
      ·rw [if_neg c13] at H
       have c13b0 := decide_eq_false c13
       have c13b1 : decide (t106.size < 20) = false := decide_eq_false (by omega)
       clear c13
       by_cases c14 : 0 ≤ 20
       ·rw [if_pos c14] at H
        have c14b0 := eq_true c14
        have c14b1 := decide_eq_true c14
        clear c14
        by_cases c15 : 20 ≤ (t106.size : Int)
        ·rw [if_pos c15] at H
         have c15b0 := eq_true c15
         have c15b1 := decide_eq_true c15
         clear c15
         replace H := Option.bind_eq_some_iff.mp H
         obtain ⟨t108, A160, H⟩ := H
         have A16 := Aside0.mk A160
         clear A160
         by_cases c17 : x4_1.length < 3518437208883
         ·rw [if_pos c17] at H
          have LMc17 := Aside0.mk c17
          clear c17
          obtain ⟨y109, hy109⟩ : ∃ y_ : List (S108), y_ = (x4_1 ++ [(⟨t102, t105, t108⟩ : S108)]) := ⟨_, rfl⟩
          replace H : (tree_Parse.l0 k1 (t106.extract 20 t106.size) y109) = some (r1, r2) := by first | (rw [hy109]; with_reducible exact H) | (have H2_ := (Option.bind_some _ _).symm.trans H; rw [hy109]; with_reducible exact H2_) | (have H2_ := (Option.bind_some _ _).symm.trans H; with_reducible exact H2_) | with_reducible exact H | (rw [hy109]; exact H) | exact H
          have Ny109 := Aside0.mk hy109
          clear hy109
          have c18b0 := eq_true (of_decide_eq_true z0_ : 20 ≤ (t106.size : Int))
          have H' := Aside0.mk H
          clear H
          go_wp2_with (first | ((with_reducible refine gate_callee (f := 148) rfl ?_); refine goesL_ (some 16) rfl rfl Tryz.func148 (by kernel_rfl) rfl #[.string x0_1] rfl z2_ ?_; (with_reducible refine (tree_mode.calls k1 x0_1 t102 t103 t104 _ A9.out).mono ?_); rintro e w' ⟨rfl, ⟨nd, rfl⟩⟩; refine ⟨_, rfl, ?_⟩) | ((with_reducible refine gate_callee (f := 82) rfl ?_); refine goesL_ (some 25) rfl rfl Tryz.func82 (by kernel_rfl) rfl #[.string t103, .string (⟨#[0]⟩ : ByteArray)] rfl z2_ ?_; (with_reducible refine (strings_Cut.calls t103 (⟨#[0]⟩ : ByteArray) t105 t106 true _ ?side1 A11.out).mono ?_); (case side1 => exact GV.below hgv (hb_ HB.out)); rintro e w' ⟨rfl, ⟨nd, rfl⟩⟩; refine ⟨_, rfl, ?_⟩) | ((with_reducible refine gate_callee (f := 149) rfl ?_); refine goesL_ (some 41) rfl rfl Tryz.func149 (by kernel_rfl) rfl #[.string (t106.extract 0 20)] rfl z2_ ?_; (with_reducible refine (ident_Hex.calls k1 (t106.extract 0 20) t108 _ A16.out).mono ?_); rintro e w19 ⟨rfl, hb⟩; refine ⟨_, rfl, ?_⟩; replace HO_4 := Aside0.mk (Kd.R_below (rk_ HO_4.out) hb); replace HB := Aside0.mk (below_step (hb_ HB.out) hb); (try clear hb); (try clear hb2); (try clear hk); (try clear hi)) | ((with_reducible refine gate_builtin (b := .append) (xs := #[.tmp 36, .tmp 43]) rfl ?_); (try (refine gate_guard (by rfl) ?_; dsimp only)); at_builtin; refine Kd.R_append k108 (w0 := w) w.heap.size rfl (.tmp 36) (.tmp 43) 104 108 (.agg #[(.int .i64 0), (.string ⟨#[]⟩), (.string ⟨#[]⟩)]) 40 rfl Tryz.underlying104 info108 rfl (by decide) (by omega) u4 x4_1 (⟨t102, t105, t108⟩ : S108) [.int .i64 t102, .string t105, .string t108] (fun _ => True) (fun _ => False) rfl rfl ?aP (fun _ hk => hk.elim) ?aF ?aO ?aB ?aS ?aL ?_; (case aP => exact k108_mkM _ _ _ (⟨t102, t105, t108⟩ : S108)); (case aB => exact (hb_ HB.out)); (case aF => exact (fun _ _ => trivial)); (case aO => exact (rk_ HO_4.out)); (case aS => exact (below_size (hb_ HB.out))); (case aL => have := LMc17.out; omega); intro v110 w20 ho hb hg hat; rw [← Ny109.out] at ho; have n0_ := Aside0.mk (hb); have n1_ := Aside0.mk (ho); clear HB; clear HO_4; have HB := n0_; have HO111 := n1_; clear n0_ n1_; clear ho hb hg hat))
          go_roundg k1
          case measure => have := HK1.out; omega
          case rel => exact ⟨(t106.extract 20 t106.size), (y109), z1_, H', ⟨by have := HK1.out; omega⟩, ⟨by (with_reducible repeat (first | apply Kd.R_alloc | apply Kd.R_drewN | apply Kd.R_drew)); exact HO111.out⟩, ⟨hb_ HB.out⟩⟩
         ·rw [if_neg c17] at H
          exact absurd H (by simp)
        ·rw [if_neg c15] at H
         exact absurd H (by simp)
       ·rw [if_neg c14] at H
        exact absurd H (by simp)
     ·replace c12 := Bool.eq_false_iff.mpr c12
      subst c12
      have H1 : (some (([] : List (S108)), 3)) = some (r1, r2) := by rw [if_neg (show ¬ (false = true) by decide)] at H; exact H
      clear H
      have H := H1
      clear H1
      simp only [Option.some.injEq, Prod.mk.injEq] at H
      obtain ⟨rfl, rfl⟩ := H
      go_wp2_with (first | ((with_reducible refine gate_callee (f := 148) rfl ?_); refine goesL_ (some 16) rfl rfl Tryz.func148 (by kernel_rfl) rfl #[.string x0_1] rfl z2_ ?_; (with_reducible refine (tree_mode.calls k1 x0_1 t102 t103 t104 _ A9.out).mono ?_); rintro e w' ⟨rfl, ⟨nd, rfl⟩⟩; refine ⟨_, rfl, ?_⟩) | ((with_reducible refine gate_callee (f := 82) rfl ?_); refine goesL_ (some 25) rfl rfl Tryz.func82 (by kernel_rfl) rfl #[.string t103, .string (⟨#[0]⟩ : ByteArray)] rfl z2_ ?_; (with_reducible refine (strings_Cut.calls t103 (⟨#[0]⟩ : ByteArray) t105 t106 false _ ?side1 A11.out).mono ?_); (case side1 => exact GV.below hgv (hb_ HB.out)); rintro e w' ⟨rfl, ⟨nd, rfl⟩⟩; refine ⟨_, rfl, ?_⟩))
      go_ret2
      exact ⟨_, z4_, z6_, hb_ HB.out⟩
    ·rw [if_neg c10] at H
     have c10b0 := beq_eq_false_iff_ne.mpr c10
     have c10b1 := bne_iff_ne.mpr c10
     simp only [Option.some.injEq, Prod.mk.injEq] at H
     obtain ⟨rfl, rfl⟩ := H
     go_wp2_with (first | ((with_reducible refine gate_callee (f := 148) rfl ?_); refine goesL_ (some 16) rfl rfl Tryz.func148 (by kernel_rfl) rfl #[.string x0_1] rfl z2_ ?_; (with_reducible refine (tree_mode.calls k1 x0_1 t102 t103 t104 _ A9.out).mono ?_); rintro e w' ⟨rfl, ⟨nd, rfl⟩⟩; refine ⟨_, rfl, ?_⟩))
     go_ret2
     exact ⟨_, z4_, z6_, hb_ HB.out⟩


mutual
def commit_Parse.j1 : Nat → ByteArray → Int → ByteArray → List ByteArray → ByteArray → ByteArray → Int → Int → ByteArray → ByteArray → Int → Int → ByteArray → Option (ByteArray × List ByteArray × ByteArray × ByteArray × Int × Int × ByteArray × ByteArray × Int × Int × ByteArray × Int)
 | 0, _, _, _, _, _, _, _, _, _, _, _, _, _ => none
 | k + 1, x103000, x103001, x107000, x107001, x107002, x107003, x107004, x107005, x107006, x107007, x107008, x107009, x107010 => (commit_reader_who.f k x103000 x103001 (⟨#[97, 117, 116, 104, 111, 114, 32]⟩ : ByteArray)).bind fun bt114 => ((commit_reader_who.f k bt114.2.2.2.2.1 bt114.2.2.2.2.2 (⟨#[99, 111, 109, 109, 105, 116, 116, 101, 114, 32]⟩ : ByteArray)).bind fun bt120 => ((commit_reader_line.f bt120.2.2.2.2.1 bt120.2.2.2.2.2 (⟨#[]⟩ : ByteArray)).bind fun bt126 => (if bt126.1.toList = ([] : List UInt8) then (commit_Parse.j2 k bt126.2.1 bt126.2.2 x107000 x107001 bt114.1 bt114.2.1 bt114.2.2.1 bt114.2.2.2.1 bt120.1 bt120.2.1 bt120.2.2.1 bt120.2.2.2.1 x107010) else ((commit_reader_fail.f bt126.2.1 bt126.2.2 2).bind fun bt129 => (commit_Parse.j2 k bt129.1 bt129.2 x107000 x107001 bt114.1 bt114.2.1 bt114.2.2.1 bt114.2.2.2.1 bt120.1 bt120.2.1 bt120.2.2.1 bt120.2.2.2.1 x107010)))))
def commit_Parse.j2 : Nat → ByteArray → Int → ByteArray → List ByteArray → ByteArray → ByteArray → Int → Int → ByteArray → ByteArray → Int → Int → ByteArray → Option (ByteArray × List ByteArray × ByteArray × ByteArray × Int × Int × ByteArray × ByteArray × Int × Int × ByteArray × Int)
 | 0, _, _, _, _, _, _, _, _, _, _, _, _, _ => none
 | k + 1, x103000, x103001, x107000, x107001, x107002, x107003, x107004, x107005, x107006, x107007, x107008, x107009, x107010 => if x103001 = 0 then ((commit_Check.f k x107000 x107001 x107002 x107003 x107004 x107005 x107006 x107007 x107008 x107009 x103000).bind fun t131 => (if t131 = 0 then (some (x107000, x107001, x107002, x107003, x107004, x107005, x107006, x107007, x107008, x107009, x103000, 0)) else (some ((⟨#[]⟩ : ByteArray), ([] : List ByteArray), (⟨#[]⟩ : ByteArray), (⟨#[]⟩ : ByteArray), 0, 0, (⟨#[]⟩ : ByteArray), (⟨#[]⟩ : ByteArray), 0, 0, (⟨#[]⟩ : ByteArray), t131)))) else (some ((⟨#[]⟩ : ByteArray), ([] : List ByteArray), (⟨#[]⟩ : ByteArray), (⟨#[]⟩ : ByteArray), 0, 0, (⟨#[]⟩ : ByteArray), (⟨#[]⟩ : ByteArray), 0, 0, (⟨#[]⟩ : ByteArray), x103001))
def commit_Parse.l0 : Nat → ByteArray → Int → ByteArray → List ByteArray → ByteArray → ByteArray → Int → Int → ByteArray → ByteArray → Int → Int → ByteArray → Option (ByteArray × List ByteArray × ByteArray × ByteArray × Int × Int × ByteArray × ByteArray × Int × Int × ByteArray × Int)
 | 0, _, _, _, _, _, _, _, _, _, _, _, _, _ => none
 | k + 1, x103000, x103001, x107000, x107001, x107002, x107003, x107004, x107005, x107006, x107007, x107008, x107009, x107010 => if x103001 = 0 then ((strings_HasPrefix.f x103000 (⟨#[112, 97, 114, 101, 110, 116, 32]⟩ : ByteArray)).bind fun t107 => (if t107 = true then ((commit_reader_id.f k x103000 x103001 (⟨#[112, 97, 114, 101, 110, 116, 32]⟩ : ByteArray)).bind fun bt108 => (if x107001.length < 8796093022208 then (commit_Parse.l0 k bt108.2.1 bt108.2.2 x107000 (x107001 ++ [bt108.1]) x107002 x107003 x107004 x107005 x107006 x107007 x107008 x107009 x107010) else (none))) else (commit_Parse.j1 k x103000 x103001 x107000 x107001 x107002 x107003 x107004 x107005 x107006 x107007 x107008 x107009 x107010))) else (commit_Parse.j1 k x103000 x103001 x107000 x107001 x107002 x107003 x107004 x107005 x107006 x107007 x107008 x107009 x107010)
end
def commit_Parse.f (k : Nat) (a0 : ByteArray) : Option (ByteArray × List ByteArray × ByteArray × ByteArray × Int × Int × ByteArray × ByteArray × Int × Int × ByteArray × Int) := (commit_reader_id.f k a0 0 (⟨#[116, 114, 101, 101, 32]⟩ : ByteArray)).bind fun bt103 => (commit_Parse.l0 k bt103.2.1 bt103.2.2 bt103.1 ([] : List ByteArray) (⟨#[]⟩ : ByteArray) (⟨#[]⟩ : ByteArray) 0 0 (⟨#[]⟩ : ByteArray) (⟨#[]⟩ : ByteArray) 0 0 (⟨#[]⟩ : ByteArray))
theorem commit_Parse.mono_l : ∀ k, (∀ y0 y1 y2 y3 y4 y5 y6 y7 y8 y9 y10 y11 y12, LeO (commit_Parse.j1 k y0 y1 y2 y3 y4 y5 y6 y7 y8 y9 y10 y11 y12) (commit_Parse.j1 (k + 1) y0 y1 y2 y3 y4 y5 y6 y7 y8 y9 y10 y11 y12)) ∧ (∀ y0 y1 y2 y3 y4 y5 y6 y7 y8 y9 y10 y11 y12, LeO (commit_Parse.j2 k y0 y1 y2 y3 y4 y5 y6 y7 y8 y9 y10 y11 y12) (commit_Parse.j2 (k + 1) y0 y1 y2 y3 y4 y5 y6 y7 y8 y9 y10 y11 y12)) ∧ (∀ y0 y1 y2 y3 y4 y5 y6 y7 y8 y9 y10 y11 y12, LeO (commit_Parse.l0 k y0 y1 y2 y3 y4 y5 y6 y7 y8 y9 y10 y11 y12) (commit_Parse.l0 (k + 1) y0 y1 y2 y3 y4 y5 y6 y7 y8 y9 y10 y11 y12))
 | 0 => ⟨fun _ _ _ _ _ _ _ _ _ _ _ _ _ r h => by simp [commit_Parse.j1] at h, fun _ _ _ _ _ _ _ _ _ _ _ _ _ r h => by simp [commit_Parse.j2] at h, fun _ _ _ _ _ _ _ _ _ _ _ _ _ r h => by simp [commit_Parse.l0] at h⟩
 | k + 1 => by
  obtain ⟨ih0, ih1, ih2⟩ := commit_Parse.mono_l k
  refine ⟨?_, ?_, ?_⟩
  ·intro y0 y1 y2 y3 y4 y5 y6 y7 y8 y9 y10 y11 y12
   unfold commit_Parse.j1
   have m0_ := @ih0
   have m1_ := @ih1
   have m2_ := @ih2
   have m3_ := @commit_Check.mono
   have m4_ := @commit_reader_id.mono
   have m5_ := @commit_reader_who.mono
   exact mz_
  ·intro y0 y1 y2 y3 y4 y5 y6 y7 y8 y9 y10 y11 y12
   unfold commit_Parse.j2
   have m0_ := @ih0
   have m1_ := @ih1
   have m2_ := @ih2
   have m3_ := @commit_Check.mono
   have m4_ := @commit_reader_id.mono
   have m5_ := @commit_reader_who.mono
   exact mz_
  ·intro y0 y1 y2 y3 y4 y5 y6 y7 y8 y9 y10 y11 y12
   unfold commit_Parse.l0
   have m0_ := @ih0
   have m1_ := @ih1
   have m2_ := @ih2
   have m3_ := @commit_Check.mono
   have m4_ := @commit_reader_id.mono
   have m5_ := @commit_reader_who.mono
   exact mz_
theorem commit_Parse.mono : ∀ a0 k, LeO (commit_Parse.f k a0) (commit_Parse.f (k + 1) a0) := by
 intro a0 k
 obtain ⟨ih0, ih1, ih2⟩ := commit_Parse.mono_l k
 unfold commit_Parse.f
 have m0_ := @ih0
 have m1_ := @ih1
 have m2_ := @ih2
 have m3_ := @commit_Check.mono
 have m4_ := @commit_reader_id.mono
 have m5_ := @commit_reader_who.mono
 exact mz_
def commit_Parse.T4 : Bool × List (List Nat × List Nat) := (true, [([], []), ([0], [0]), ([], []), ([2], [2]), ([3], [3]), ([1, 4, 3], [1, 4]), ([0, 1, 2, 3, 4, 5], []), ([6, 5, 5, 0, 1, 2, 3, 4, 5], [5, 6])])
def commit_Parse.B4 : List Nat := [0, 1, 0, 4, 12, 31, 63, 127]
theorem commit_Parse.tab4 : rtab .any (opsOf Tryz.f20 4) = commit_Parse.T4 := by kernel_rfl
theorem commit_Parse.bits4 : waitsOk commit_Parse.T4.2 commit_Parse.B4 = true := by kernel_rfl
set_option maxHeartbeats 8000000 in
set_option maxRecDepth 100000 in
theorem commit_Parse.calls (k : Nat) (a0 : ByteArray) (r1 : ByteArray) (r2 : List ByteArray) (r3 : ByteArray) (r4 : ByteArray) (r5 : Int) (r6 : Int) (r7 : ByteArray) (r8 : ByteArray) (r9 : Int) (r10 : Int) (r11 : ByteArray) (r12 : Int) (w : World) (hgv : GV w) (h : commit_Parse.f k a0 = some (r1, r2, r3, r4, r5, r6, r7, r8, r9, r10, r11, r12)) :
  Calls Tryz.prog 20 #[.string a0] w fun e w' => ∃ v1_ : Value, e = .returned (.tuple #[.agg #[.string r1, v1_, .string r3, .string r4, .int .i64 r5, .int .i64 r6, .string r7, .string r8, .int .i64 r9, .int .i64 r10, .string r11], .int .i64 r12]) ∧ Kd.R Kd.string 9 w' w.heap.size (fun _ => True) v1_ r2 ∧ Below w.heap.size w w' := by
 have hu26 := Tryz.underlying26
 have hu87 := Tryz.underlying87
 have hu24 := Tryz.underlying24
 have HB := Aside0.mk (Below.refl w.heap.size w)
 have H : ((commit_reader_id.f k a0 0 (⟨#[116, 114, 101, 101, 32]⟩ : ByteArray)).bind fun bt103 => (commit_Parse.l0 k bt103.2.1 bt103.2.2 bt103.1 ([] : List ByteArray) (⟨#[]⟩ : ByteArray) (⟨#[]⟩ : ByteArray) 0 0 (⟨#[]⟩ : ByteArray) (⟨#[]⟩ : ByteArray) 0 0 (⟨#[]⟩ : ByteArray))) = some (r1, r2, r3, r4, r5, r6, r7, r8, r9, r10, r11, r12) := h
 clear h
 replace H := Option.bind_eq_some_iff.mp H
 obtain ⟨⟨t103, t104, t105⟩, A20, H⟩ := H
 replace H : (commit_Parse.l0 k t104 t105 t103 ([] : List ByteArray) (⟨#[]⟩ : ByteArray) (⟨#[]⟩ : ByteArray) 0 0 (⟨#[]⟩ : ByteArray) (⟨#[]⟩ : ByteArray) 0 0 (⟨#[]⟩ : ByteArray)) = some (r1, r2, r3, r4, r5, r6, r7, r8, r9, r10, r11, r12) := H
 have A2 := Aside0.mk A20
 clear A20
 have HC3 := Aside0.mk H
 clear H
 go_enter Tryz.func20, Tryz.ntmps20
 go_upto_block 0 with (first | ((with_reducible refine gate_dst (N := 2) rfl ?_); refine be_ (cs := #[.string (⟨#[]⟩ : ByteArray), .slice none 0 0, .string (⟨#[]⟩ : ByteArray), .string (⟨#[]⟩ : ByteArray), .int .i64 0, .int .i64 0, .string (⟨#[]⟩ : ByteArray), .string (⟨#[]⟩ : ByteArray), .int .i64 0, .int .i64 0, .string (⟨#[]⟩ : ByteArray)]) (t := 26) ?_; intro gb101 hg w4 hbox hb; have BK101 := Aside0.mk (hbox); have GW101 := Aside0.mk (gw_ hg HB.out); have GE101 := Aside0.mk (gw_ hg HB.out); replace HB := Aside0.mk (below_step (hb_ HB.out) hb); clear hb hbox hg) | ((with_reducible refine gate_dst (N := 8) rfl ?_); refine be_ (cs := #[.string a0, .int .i64 0]) (t := 87) ?_; intro gb102 hg w5 hbox hb; have BK102 := Aside0.mk (hbox); have GW102 := Aside0.mk ((by rw [hg]; exact (below_size (hs_)) : w.heap.size ≤ gb102)); have GE102 := Aside0.mk ((by rw [hg]; exact (below_size (hs_)) : w.heap.size ≤ gb102)); replace HB := Aside0.mk (below_step (hs_) hb); have NB101_102 := Aside0.mk (nl2_ hg BK101.out); have NB102_101 := Aside0.mk (ng2_ hg BK101.out); replace BK101 := Aside0.mk (bb_ BK101.out hb); clear hb hbox hg) | ((with_reducible refine gate_callee (f := 70) rfl ?_); refine goesL_ (some 10) rfl rfl Tryz.func70 (by kernel_rfl) rfl #[.pointer (some ⟨gb102, 0, none⟩), .string (⟨#[116, 114, 101, 101, 32]⟩ : ByteArray)] rfl z2_ ?_; (with_reducible refine (commit_reader_id.calls k gb102 a0 0 (⟨#[116, 114, 101, 101, 32]⟩ : ByteArray) t103 t104 t105 w _ ?side1 ?side2 ?side3 A2.out).mono ?_); (case side1 => exact (show IsS87 w _ gb102 a0 0 from ⟨(bk_ BK102.out), GE102.out⟩)); (case side2 => repeat (first | (with_reducible first | exact HB.out | apply below_alloc | apply pw_below_drewN | apply below_drew1 | refine below_set ?_ (IsS87.ge HI102.out) | refine below_set ?_ GE101.out) | exact HB.out)); (case side3 => exact hgv); rintro e w6 ⟨rfl, hi, hb, hk⟩; refine ⟨_, rfl, ?_⟩; replace BK101 := Aside0.mk (KeepBut.blk hk (g' := gb101) (o := .cells #[.string (⟨#[]⟩ : ByteArray), .slice none 0 0, .string (⟨#[]⟩ : ByteArray), .string (⟨#[]⟩ : ByteArray), .int .i64 0, .int .i64 0, .string (⟨#[]⟩ : ByteArray), .string (⟨#[]⟩ : ByteArray), .int .i64 0, .int .i64 0, .string (⟨#[]⟩ : ByteArray)] 26 (0, 0)) (bk_ BK101.out) NB101_102.out (by simp)); replace HB := Aside0.mk (hb); replace BK102 := Aside0.mk (hi.1); (try clear hb); (try clear hb2); (try clear hk); (try clear hi)) | ((with_reducible refine gate_dst (N := 5) rfl ?_); refine be_ (cs := #[.string (⟨#[]⟩ : ByteArray), .slice none 0 0, .string (⟨#[]⟩ : ByteArray), .string (⟨#[]⟩ : ByteArray), .int .i64 0, .int .i64 0, .string (⟨#[]⟩ : ByteArray), .string (⟨#[]⟩ : ByteArray), .int .i64 0, .int .i64 0, .string (⟨#[]⟩ : ByteArray)]) (t := 26) ?_; intro gb106 hg w7 hbox hb; have BK106 := Aside0.mk (hbox); have GW106 := Aside0.mk ((by rw [hg]; exact (below_size (hs_)) : w.heap.size ≤ gb106)); have GE106 := Aside0.mk ((by rw [hg]; exact (below_size (hs_)) : w.heap.size ≤ gb106)); replace HB := Aside0.mk (below_step (hs_) hb); have NB101_106 := Aside0.mk (nl2_ hg BK101.out); have NB106_101 := Aside0.mk (ng2_ hg BK101.out); replace BK101 := Aside0.mk (bb_ BK101.out hb); have NB102_106 := Aside0.mk (nl2_ hg BK102.out); have NB106_102 := Aside0.mk (ng2_ hg BK102.out); replace BK102 := Aside0.mk (bb_ BK102.out hb); clear hb hbox hg; have hnb8 := NB106_101.out; have hnc8 := NB101_106.out; have hnb9 := NB106_102.out; have hnc9 := NB102_106.out; obtain ⟨hcz10_0, hcz10_1, hcz10_2, hcz10_3, hcz10_4, hcz10_5, hcz10_6, hcz10_7, hcz10_8, hcz10_9, hcz10_10, hfz10_0, hfz10_1, hfz10_2, hfz10_3, hfz10_4, hfz10_5, hfz10_6, hfz10_7, hfz10_8, hfz10_9, hfz10_10⟩ := bc11 BK106.out))
 (try simp only [Act.put, List.setIfInBounds_toArray, List.set_cons_zero, List.set_cons_succ])
 go_cut [] (fun wc => ∃ (kq : Nat) (x103000_2 : ByteArray) (x103001_2 : Int) (x107001_2 : List ByteArray) (u107001 : Value), Aside0 (commit_Parse.j1 kq x103000_2 x103001_2 t103 x107001_2 (⟨#[]⟩ : ByteArray) (⟨#[]⟩ : ByteArray) 0 0 (⟨#[]⟩ : ByteArray) (⟨#[]⟩ : ByteArray) 0 0 (⟨#[]⟩ : ByteArray) = some (r1, r2, r3, r4, r5, r6, r7, r8, r9, r10, r11, r12)) ∧ Aside0 (kq ≤ k) ∧ Aside0 (Kd.R Kd.string 9 wc w.heap.size (fun _ => True) u107001 x107001_2) ∧ Aside0 (wc.heap[gb101]? = some (.cells #[.string (⟨#[]⟩ : ByteArray), (.slice none 0 0), .string (⟨#[]⟩ : ByteArray), .string (⟨#[]⟩ : ByteArray), .int .i64 0, .int .i64 0, .string (⟨#[]⟩ : ByteArray), .string (⟨#[]⟩ : ByteArray), .int .i64 0, .int .i64 0, .string (⟨#[]⟩ : ByteArray)] 26 (0, 0))) ∧ Aside0 (wc.heap[gb102]? = some (.cells #[.string x103000_2, .int .i64 x103001_2] 87 (0, 0))) ∧ Aside0 (wc.heap[gb106]? = some (.cells #[.string t103, u107001, .string (⟨#[]⟩ : ByteArray), .string (⟨#[]⟩ : ByteArray), .int .i64 0, .int .i64 0, .string (⟨#[]⟩ : ByteArray), .string (⟨#[]⟩ : ByteArray), .int .i64 0, .int .i64 0, .string (⟨#[]⟩ : ByteArray)] 26 (0, 0))) ∧ Aside0 (Below w.heap.size w wc))
 case first =>
  have H := HC3.out
  clear HC3
  have H' := Aside0.mk H
  clear H
  go_wp2
  go_loopg [] k (fun kq w' => ∃ (x103000_1 : ByteArray) (x103001_1 : Int) (x107001_1 : List ByteArray) (u107001 : Value), Aside0 (commit_Parse.l0 kq x103000_1 x103001_1 t103 x107001_1 (⟨#[]⟩ : ByteArray) (⟨#[]⟩ : ByteArray) 0 0 (⟨#[]⟩ : ByteArray) (⟨#[]⟩ : ByteArray) 0 0 (⟨#[]⟩ : ByteArray) = some (r1, r2, r3, r4, r5, r6, r7, r8, r9, r10, r11, r12)) ∧ Aside0 (kq ≤ k) ∧ Aside0 (Kd.R Kd.string 9 w' w.heap.size (fun _ => True) u107001 x107001_1) ∧ Aside0 (w'.heap[gb101]? = some (.cells #[.string (⟨#[]⟩ : ByteArray), (.slice none 0 0), .string (⟨#[]⟩ : ByteArray), .string (⟨#[]⟩ : ByteArray), .int .i64 0, .int .i64 0, .string (⟨#[]⟩ : ByteArray), .string (⟨#[]⟩ : ByteArray), .int .i64 0, .int .i64 0, .string (⟨#[]⟩ : ByteArray)] 26 (0, 0))) ∧ Aside0 (w'.heap[gb102]? = some (.cells #[.string x103000_1, .int .i64 x103001_1] 87 (0, 0))) ∧ Aside0 (w'.heap[gb106]? = some (.cells #[.string t103, u107001, .string (⟨#[]⟩ : ByteArray), .string (⟨#[]⟩ : ByteArray), .int .i64 0, .int .i64 0, .string (⟨#[]⟩ : ByteArray), .string (⟨#[]⟩ : ByteArray), .int .i64 0, .int .i64 0, .string (⟨#[]⟩ : ByteArray)] 26 (0, 0))) ∧ Aside0 (Below w.heap.size w w'))
  case atStart => exact ⟨(t104), (t105), (([] : List ByteArray)), (.slice none 0 0), H', ⟨Nat.le_refl _⟩, ⟨z6_⟩, ⟨by have b_ := BK101; have f_ := NB101_106; exact zb_⟩, ⟨by have b_ := BK102; have f_ := NB102_106; exact zb_⟩, ⟨by have b_ := BK106; exact zb_⟩, ⟨hs_⟩⟩
  case round =>
   clear H'
   try clear c2
   try clear p2
   try clear c7
   try clear c8
   try clear c9
   try clear hcz10_0 hcz10_1 hcz10_10 hcz10_2 hcz10_3 hcz10_4 hcz10_5 hcz10_6 hcz10_7 hcz10_8 hcz10_9 hfz10_0 hfz10_1 hfz10_10 hfz10_2 hfz10_3 hfz10_4 hfz10_5 hfz10_6 hfz10_7 hfz10_8 hfz10_9
   obtain ⟨x103000_1, x103001_1, x107001_1, u107001, HA, HK1, HO_107001, BK101, BK102, BK106, HB⟩ := hrel
   cases gk with
   | zero => exact absurd HA.out (by simp [commit_Parse.l0])
   | succ k1 =>
    have H := HA.out
    clear HA
    simp only [commit_Parse.l0] at H
    by_cases c11 : x103001_1 = 0
    ·rw [if_pos c11] at H
     have c11b0 := beq_iff_eq.mpr c11
     have c11b1 := bne_eq_false_iff_eq.mpr c11
     clear c11
     (first | rw [c11b0] | (simp only [i64_w, i32_w]; rw [c11b0]) | skip)
     (try rw [c11b8])
     replace H := Option.bind_eq_some_iff.mp H
     obtain ⟨t107, A120, H⟩ := H
     have A12 := Aside0.mk A120
     clear A120
     by_cases c13 : t107 = true
     ·subst c13
      have H1 : ((commit_reader_id.f k1 x103000_1 x103001_1 (⟨#[112, 97, 114, 101, 110, 116, 32]⟩ : ByteArray)).bind fun bt108 => (if x107001_1.length < 8796093022208 then (commit_Parse.l0 k1 bt108.2.1 bt108.2.2 t103 (x107001_1 ++ [bt108.1]) (⟨#[]⟩ : ByteArray) (⟨#[]⟩ : ByteArray) 0 0 (⟨#[]⟩ : ByteArray) (⟨#[]⟩ : ByteArray) 0 0 (⟨#[]⟩ : ByteArray)) else (none))) = some (r1, r2, r3, r4, r5, r6, r7, r8, r9, r10, r11, r12) := by rw [if_pos rfl] at H; exact H
      clear H
      have H := H1
      clear H1
      replace H := Option.bind_eq_some_iff.mp H
      obtain ⟨⟨t108, t109, t110⟩, A140, H⟩ := H
      replace H : (if x107001_1.length < 8796093022208 then (commit_Parse.l0 k1 t109 t110 t103 (x107001_1 ++ [t108]) (⟨#[]⟩ : ByteArray) (⟨#[]⟩ : ByteArray) 0 0 (⟨#[]⟩ : ByteArray) (⟨#[]⟩ : ByteArray) 0 0 (⟨#[]⟩ : ByteArray)) else (none)) = some (r1, r2, r3, r4, r5, r6, r7, r8, r9, r10, r11, r12) := H
      have A14 := Aside0.mk A140
      clear A140
      by_cases c15 : x107001_1.length < 8796093022208
      ·rw [if_pos c15] at H
       have LMc15 := Aside0.mk c15
       clear c15
       obtain ⟨y111, hy111⟩ : ∃ y_ : List ByteArray, y_ = (x107001_1 ++ [t108]) := ⟨_, rfl⟩
       replace H : (commit_Parse.l0 k1 t109 t110 t103 y111 (⟨#[]⟩ : ByteArray) (⟨#[]⟩ : ByteArray) 0 0 (⟨#[]⟩ : ByteArray) (⟨#[]⟩ : ByteArray) 0 0 (⟨#[]⟩ : ByteArray)) = some (r1, r2, r3, r4, r5, r6, r7, r8, r9, r10, r11, r12) := by first | (rw [hy111]; with_reducible exact H) | (have H2_ := (Option.bind_some _ _).symm.trans H; rw [hy111]; with_reducible exact H2_) | (have H2_ := (Option.bind_some _ _).symm.trans H; with_reducible exact H2_) | with_reducible exact H | (rw [hy111]; exact H) | exact H
       have Ny111 := Aside0.mk hy111
       clear hy111
       have H' := Aside0.mk H
       clear H
       have hnb16 := NB102_101.out
       have hnc16 := NB101_102.out
       have hnb17 := NB102_106.out
       have hnc17 := NB106_102.out
       obtain ⟨hcz18_0, hcz18_1, hfz18_0, hfz18_1⟩ := bc2 BK102.out
       try go_wp2_with (first | (go_at_call 71; (with_reducible refine (strings_HasPrefix.calls x103000_1 (⟨#[112, 97, 114, 101, 110, 116, 32]⟩ : ByteArray) true _ A12.out).mono ?_); rintro e w' ⟨rfl, ⟨nd, rfl⟩⟩; (try (rw [drewN_self wr]; generalize hq_ : World.drewN wr _ = wr; have n0_ : Aside0 (Kd.R Kd.string 9 wr w.heap.size (fun _ => True) u107001 x107001_1) := ⟨by rw [← hq_]; exact (rk_ HO_107001.out)⟩; have n1_ : Aside0 (wr.heap[gb101]? = some (.cells #[.string (⟨#[]⟩ : ByteArray), .slice none 0 0, .string (⟨#[]⟩ : ByteArray), .string (⟨#[]⟩ : ByteArray), .int .i64 0, .int .i64 0, .string (⟨#[]⟩ : ByteArray), .string (⟨#[]⟩ : ByteArray), .int .i64 0, .int .i64 0, .string (⟨#[]⟩ : ByteArray)] 26 (0, 0))) := ⟨by rw [← hq_]; exact (bk_ BK101.out)⟩; have n2_ : Aside0 (wr.heap[gb102]? = some (.cells #[.string x103000_1, .int .i64 x103001_1] 87 (0, 0))) := ⟨by rw [← hq_]; exact (bk_ BK102.out)⟩; have n3_ : Aside0 (wr.heap[gb106]? = some (.cells #[.string t103, u107001, .string (⟨#[]⟩ : ByteArray), .string (⟨#[]⟩ : ByteArray), .int .i64 0, .int .i64 0, .string (⟨#[]⟩ : ByteArray), .string (⟨#[]⟩ : ByteArray), .int .i64 0, .int .i64 0, .string (⟨#[]⟩ : ByteArray)] 26 (0, 0))) := ⟨by rw [← hq_]; exact (bk_ BK106.out)⟩; have n4_ : Aside0 (Below w.heap.size w wr) := ⟨by rw [← hq_]; exact (hs_)⟩; clear HO_107001 BK101 BK102 BK106 HB hq_; have HO_107001 := n0_; have BK101 := n1_; have BK102 := n2_; have BK106 := n3_; have HB := n4_; clear n0_ n1_ n2_ n3_ n4_))))
       replace HO_107001 := Aside0.mk (Kd.R_drew HO_107001.out)
       replace BK101 := Aside0.mk (blk_drew BK101.out)
       replace BK102 := Aside0.mk (blk_drew BK102.out)
       replace BK106 := Aside0.mk (blk_drew BK106.out)
       replace HB := Aside0.mk (below_drew1 HB.out)
       refine start_ (n := 8) (S := fun w' => w'.cell? ⟨gb106, 0, none⟩ = some (.string t103) ∧ w'.cell? ⟨gb106, 1, none⟩ = some (u107001) ∧ w'.cell? ⟨gb106, 2, none⟩ = some (.string (⟨#[]⟩ : ByteArray)) ∧ w'.cell? ⟨gb106, 3, none⟩ = some (.string (⟨#[]⟩ : ByteArray)) ∧ w'.cell? ⟨gb106, 4, none⟩ = some (.int .i64 0) ∧ w'.cell? ⟨gb106, 5, none⟩ = some (.int .i64 0) ∧ w'.cell? ⟨gb106, 6, none⟩ = some (.string (⟨#[]⟩ : ByteArray)) ∧ w'.cell? ⟨gb106, 7, none⟩ = some (.string (⟨#[]⟩ : ByteArray)) ∧ w'.cell? ⟨gb106, 8, none⟩ = some (.int .i64 0) ∧ w'.cell? ⟨gb106, 9, none⟩ = some (.int .i64 0) ∧ w'.cell? ⟨gb106, 10, none⟩ = some (.string (⟨#[]⟩ : ByteArray))) (ds := [7]) (bs 8 0) (by kernel_rfl) rfl rfl ⟨(blk_cell BK106.out 0).trans rfl, (blk_cell BK106.out 1).trans rfl, (blk_cell BK106.out 2).trans rfl, (blk_cell BK106.out 3).trans rfl, (blk_cell BK106.out 4).trans rfl, (blk_cell BK106.out 5).trans rfl, (blk_cell BK106.out 6).trans rfl, (blk_cell BK106.out 7).trans rfl, (blk_cell BK106.out 8).trans rfl, (blk_cell BK106.out 9).trans rfl, (blk_cell BK106.out 10).trans rfl⟩ (fun hHeld => ?_); refine with_tabW commit_Parse.tab4 commit_Parse.bits4 (fun HT_ HW_ => ?_)
       generalize wr.drew = w19 at HO_107001 BK101 BK102 BK106 HB hHeld ⊢
       refine pu_ (i := 0) (N := some 24) (bs 8 1) rfl rfl ?_
       refine pu_ (i := 2) (N := some 26) (bs 8 5) rfl rfl ?_
       refine tkW11_ (i := 1) (N := some 25) (bs 8 7) rfl rfl hHeld ?_
       refine one_ (i := 3) (N := some 27) (bs 8 15) rfl rfl (one_of HT_.out (by kernel_rfl)) (by decide) (fun K hK => ?_)
       refine goes_ Tryz.func70 (by kernel_rfl) rfl #[.pointer (some ⟨gb102, 0, none⟩), .string (⟨#[112, 97, 114, 101, 110, 116, 32]⟩ : ByteArray)] (by rfl) rfl rfl z2_ ?_
       with_reducible refine (commit_reader_id.calls k1 gb102 x103000_1 x103001_1 (⟨#[112, 97, 114, 101, 110, 116, 32]⟩ : ByteArray) t108 t109 t110 w _ ?side1 ?side2 ?side3 A14.out).mono ?_
       (case side1 => exact (show IsS87 w _ gb102 x103000_1 x103001_1 from ⟨(bk_ BK102.out), GE102.out⟩))
       (case side2 => repeat (first | (with_reducible first | exact HB.out | apply below_alloc | apply pw_below_drewN | apply below_drew1 | refine below_set ?_ (IsS87.ge HI102.out) | refine below_set ?_ GE101.out | refine below_set ?_ GE106.out) | exact HB.out))
       (case side3 => exact hgv)
       rintro e w20 ⟨rfl, hi, hb, hk⟩
       refine ⟨_, rfl, ?_⟩
       replace HO_107001 := Aside0.mk (Kd.R_mono (Kd.R_keep (IsS87.apart (show IsS87 w _ gb102 x103000_1 x103001_1 from by exact (show IsS87 w _ gb102 x103000_1 x103001_1 from ⟨(bk_ BK102.out), GE102.out⟩)) (rk_ HO_107001.out) (by decide)) hk (fun _ h => h.2)) (fun _ h => h.1))
       replace BK101 := Aside0.mk (KeepBut.blk hk (g' := gb101) (o := .cells #[.string (⟨#[]⟩ : ByteArray), .slice none 0 0, .string (⟨#[]⟩ : ByteArray), .string (⟨#[]⟩ : ByteArray), .int .i64 0, .int .i64 0, .string (⟨#[]⟩ : ByteArray), .string (⟨#[]⟩ : ByteArray), .int .i64 0, .int .i64 0, .string (⟨#[]⟩ : ByteArray)] 26 (0, 0)) (bk_ BK101.out) NB101_102.out (by simp))
       replace BK106 := Aside0.mk (KeepBut.blk hk (g' := gb106) (o := .cells #[.string t103, u107001, .string (⟨#[]⟩ : ByteArray), .string (⟨#[]⟩ : ByteArray), .int .i64 0, .int .i64 0, .string (⟨#[]⟩ : ByteArray), .string (⟨#[]⟩ : ByteArray), .int .i64 0, .int .i64 0, .string (⟨#[]⟩ : ByteArray)] 26 (0, 0)) (bk_ BK106.out) NB106_102.out (by simp))
       replace HB := Aside0.mk (hb)
       replace BK102 := Aside0.mk (hi.1)
       (try clear hb)
       (try clear hb2)
       (try clear hk)
       (try clear hi)
       refine hK.out _ _ ⟨(blk_cell BK106.out 0).trans rfl, (blk_cell BK106.out 1).trans rfl, (blk_cell BK106.out 2).trans rfl, (blk_cell BK106.out 3).trans rfl, (blk_cell BK106.out 4).trans rfl, (blk_cell BK106.out 5).trans rfl, (blk_cell BK106.out 6).trans rfl, (blk_cell BK106.out 7).trans rfl, (blk_cell BK106.out 8).trans rfl, (blk_cell BK106.out 9).trans rfl, (blk_cell BK106.out 10).trans rfl⟩ (fun hHeld => ?_)
       clear hK K
       refine norm_ (a' := ?_) ?_ ?_
       rotate_left
       ·show Act.put _ (some 27) _ = _
        simp only [Act.put, List.setIfInBounds_toArray, List.set_cons_zero, List.set_cons_succ, i64_w, i32_w]
        rfl
       refine one_ (i := 4) (N := some 28) (bs 8 31) rfl rfl (one_of HT_.out (by kernel_rfl)) (by decide) (fun K hK => ?_)
       refine value_ (w1 := ?_) (v := ?_) (by rfl) rfl ?_ ?_
       rotate_left 2
       ·go_simp
        constructor
        ·rfl
        ·rfl
       refine hK.out _ _ ⟨(blk_cell (blk_alloc BK106.out _) 0).trans rfl, (blk_cell (blk_alloc BK106.out _) 1).trans rfl, (blk_cell (blk_alloc BK106.out _) 2).trans rfl, (blk_cell (blk_alloc BK106.out _) 3).trans rfl, (blk_cell (blk_alloc BK106.out _) 4).trans rfl, (blk_cell (blk_alloc BK106.out _) 5).trans rfl, (blk_cell (blk_alloc BK106.out _) 6).trans rfl, (blk_cell (blk_alloc BK106.out _) 7).trans rfl, (blk_cell (blk_alloc BK106.out _) 8).trans rfl, (blk_cell (blk_alloc BK106.out _) 9).trans rfl, (blk_cell (blk_alloc BK106.out _) 10).trans rfl⟩ (fun hHeld => ?_)
       clear hK K
       refine norm_ (a' := ?_) ?_ ?_
       rotate_left
       ·show Act.put _ (some 28) _ = _
        simp only [Act.put, List.setIfInBounds_toArray, List.set_cons_zero, List.set_cons_succ, i64_w, i32_w]
        rfl
       refine one_ (i := 5) (N := some 29) (bs 8 63) rfl rfl (one_of HT_.out (by kernel_rfl)) (by decide) (fun K hK => ?_)
       refine Kd.R_append_step Kd.string (w0 := w) w.heap.size (by rfl) (.tmp 25) (.tmp 28) 22 9 (.string ⟨#[]⟩) 16 rfl Tryz.underlying22 info9 rfl (by decide) (by omega) u107001 x107001_1 t108 [.string t108] (fun _ => True) (fun _ => False) rfl rfl ?aP (fun _ hk => hk.elim) ?aF ?aO ?aB ?aS ?aL ?_
       (case aP => exact rfl)
       (case aB => exact (hs_))
       (case aF => exact (fun _ _ => trivial))
       (case aO => exact (rk_ HO_107001.out))
       (case aS => exact (below_size (hs_)))
       (case aL => have := LMc15.out; omega)
       intro v112 w21 ho hb hg hat
       rw [← Ny111.out] at ho
       have n0_ := Aside0.mk (blk_grown (g := gb101) (o := .cells #[.string (⟨#[]⟩ : ByteArray), .slice none 0 0, .string (⟨#[]⟩ : ByteArray), .string (⟨#[]⟩ : ByteArray), .int .i64 0, .int .i64 0, .string (⟨#[]⟩ : ByteArray), .string (⟨#[]⟩ : ByteArray), .int .i64 0, .int .i64 0, .string (⟨#[]⟩ : ByteArray)] 26 (0, 0)) (bk_ BK101.out) hg (Kd.R_ne HO_107001.out BK101.out (by decide)))
       have n1_ := Aside0.mk (blk_grown (g := gb102) (o := .cells #[.string t109, .int .i64 t110] 87 (0, 0)) (bk_ BK102.out) hg (Kd.R_ne HO_107001.out BK102.out (by decide)))
       have n2_ := Aside0.mk (blk_grown (g := gb106) (o := .cells #[.string t103, u107001, .string (⟨#[]⟩ : ByteArray), .string (⟨#[]⟩ : ByteArray), .int .i64 0, .int .i64 0, .string (⟨#[]⟩ : ByteArray), .string (⟨#[]⟩ : ByteArray), .int .i64 0, .int .i64 0, .string (⟨#[]⟩ : ByteArray)] 26 (0, 0)) (bk_ BK106.out) hg (Kd.R_ne HO_107001.out BK106.out (by decide)))
       have n3_ := Aside0.mk (hb)
       have n4_ := Aside0.mk (ho)
       clear BK101
       clear BK102
       clear BK106
       clear HB
       clear HO_107001
       have BK101 := n0_
       have BK102 := n1_
       have BK106 := n2_
       have HB := n3_
       have HO113 := n4_
       clear n0_ n1_ n2_ n3_ n4_
       clear ho hb hg hat
       obtain ⟨Ao22, co22, eo22⟩ := Kd.R_slice HO113.out
       (first | subst eo22 | (injection eo22 with f1_ f2_ f3_; have f4_ := f1_.symm; have f5_ := f3_.symm; clear f1_ f2_ f3_; subst f4_; subst f5_))
       refine hK.out _ _ ⟨(blk_cell BK106.out 0).trans rfl, (blk_cell BK106.out 1).trans rfl, (blk_cell BK106.out 2).trans rfl, (blk_cell BK106.out 3).trans rfl, (blk_cell BK106.out 4).trans rfl, (blk_cell BK106.out 5).trans rfl, (blk_cell BK106.out 6).trans rfl, (blk_cell BK106.out 7).trans rfl, (blk_cell BK106.out 8).trans rfl, (blk_cell BK106.out 9).trans rfl, (blk_cell BK106.out 10).trans rfl⟩ (fun hHeld => ?_)
       clear hK K
       refine norm_ (a' := ?_) ?_ ?_
       rotate_left
       ·show Act.put _ (some 29) _ = _
        simp only [Act.put, List.setIfInBounds_toArray, List.set_cons_zero, List.set_cons_succ, i64_w, i32_w]
        rfl
       refine pu_ (i := 6) (N := some 30) (bs 8 127) rfl rfl ?_
       refine last_ (i := 7) (N := none) (bs 8 255) rfl rfl (one_of HT_.out (by kernel_rfl)) (by decide) (fun K hK => ?_)
       have hs23 : w21.cell? ⟨gb106, 1, none⟩ = some (u107001) := (blk_cell BK106.out 1).trans rfl
       have hfs23 := blk_frozen BK106.out 1
       have hns23_0 := NB101_106.out
       have hns23_1 := NB102_106.out
       have hms23_0 := NB106_101.out
       have hms23_1 := NB106_102.out
       refine skip_ (w1 := ?_) (by rfl) rfl ?_ ?_
       rotate_left
       ·go_simp
        rfl
       refine hK.out _ _ ?_
       clear hK K
       refine done_ (done_of HT_.out (by kernel_rfl)) ?_
       try go_wp2
       go_roundg k1
       case measure => have := HK1.out; omega
       case rel => exact ⟨(t109), (t110), (y111), (.slice Ao22 y111.length co22), H', ⟨by have := HK1.out; omega⟩, ⟨by (with_reducible repeat (first | apply Kd.R_alloc | apply Kd.R_drewN | apply Kd.R_drew)); exact Kd.R_mono (Kd.R_far (p := ⟨gb106, 1, none⟩) (Kd.R_types HO113.out BK106.out (by decide)) (fun _ hk => hk.2) (.slice Ao22 y111.length co22)) (fun _ hk => trivial)⟩, ⟨by have b_ := BK101; have f_ := NB101_106; exact zb_⟩, ⟨by have b_ := BK102; have f_ := NB102_106; exact zb_⟩, ⟨by have b_ := BK106; exact zb_⟩, ⟨hs_⟩⟩
      ·rw [if_neg c15] at H
       exact absurd H (by simp)
     ·replace c13 := Bool.eq_false_iff.mpr c13
      subst c13
      have H1 : (commit_Parse.j1 k1 x103000_1 x103001_1 t103 x107001_1 (⟨#[]⟩ : ByteArray) (⟨#[]⟩ : ByteArray) 0 0 (⟨#[]⟩ : ByteArray) (⟨#[]⟩ : ByteArray) 0 0 (⟨#[]⟩ : ByteArray)) = some (r1, r2, r3, r4, r5, r6, r7, r8, r9, r10, r11, r12) := by rw [if_neg (show ¬ (false = true) by decide)] at H; exact H
      clear H
      have H := H1
      clear H1
      have H' := Aside0.mk H
      clear H
      have hnb24 := NB102_101.out
      have hnc24 := NB101_102.out
      have hnb25 := NB102_106.out
      have hnc25 := NB106_102.out
      obtain ⟨hcz26_0, hcz26_1, hfz26_0, hfz26_1⟩ := bc2 BK102.out
      go_wp2_with (first | (go_at_call 71; (with_reducible refine (strings_HasPrefix.calls x103000_1 (⟨#[112, 97, 114, 101, 110, 116, 32]⟩ : ByteArray) false _ A12.out).mono ?_); rintro e w' ⟨rfl, ⟨nd, rfl⟩⟩))
      go_meet
      case rel => exact ⟨_, (x103000_1), (x103001_1), (x107001_1), (u107001), H', ⟨by have := HK1.out; first | omega | exact Nat.le_refl _⟩, ⟨z32_⟩, ⟨bk_ BK101.out⟩, ⟨bk_ BK102.out⟩, ⟨bk_ BK106.out⟩, ⟨hs_⟩⟩
    ·rw [if_neg c11] at H
     have c11b0 := beq_eq_false_iff_ne.mpr c11
     have c11b1 := bne_iff_ne.mpr c11
     (first | rw [c11b0] | (simp only [i64_w, i32_w]; rw [c11b0]) | skip)
     (try rw [c11b8])
     have H' := Aside0.mk H
     clear H
     have hnb27 := NB102_101.out
     have hnc27 := NB101_102.out
     have hnb28 := NB102_106.out
     have hnc28 := NB106_102.out
     obtain ⟨hcz29_0, hcz29_1, hfz29_0, hfz29_1⟩ := bc2 BK102.out
     go_wp2
     go_meet
     case rel => exact ⟨_, (x103000_1), (x103001_1), (x107001_1), (u107001), H', ⟨by have := HK1.out; first | omega | exact Nat.le_refl _⟩, ⟨z32_⟩, ⟨bk_ BK101.out⟩, ⟨bk_ BK102.out⟩, ⟨bk_ BK106.out⟩, ⟨hs_⟩⟩
 case rest =>
  clear HC3
  try clear c1
  try clear c2
  try clear p2
  try clear c7
  try clear c8
  try clear c9
  try clear c11
  try clear c11b0
  try clear c11b1
  try clear c13
  try clear c15
  try clear c16
  try clear c17
  try clear c20
  try clear c24
  try clear c25
  try clear c27
  try clear c28
  try clear hcz10_0 hcz10_1 hcz10_10 hcz10_2 hcz10_3 hcz10_4 hcz10_5 hcz10_6 hcz10_7 hcz10_8 hcz10_9
  try clear hcz18_0 hcz18_1
  try clear hcz26_0 hcz26_1
  try clear hcz29_0 hcz29_1
  try clear hfz10_0 hfz10_1 hfz10_10 hfz10_2 hfz10_3 hfz10_4 hfz10_5 hfz10_6 hfz10_7 hfz10_8 hfz10_9
  try clear hfz18_0 hfz18_1
  try clear hfz26_0 hfz26_1
  try clear hfz29_0 hfz29_1
  try clear p2
  obtain ⟨kq, x103000_2, x103001_2, x107001_2, u107001, HA, HJ2, HO_107001, BK101, BK102, BK106, HB⟩ := hcut
  cases kq with
  | zero => exact absurd HA.out (by simp [commit_Parse.j1])
  | succ kj2 =>
   have H := HA.out
   clear HA
   simp only [commit_Parse.j1] at H
   replace H := Option.bind_eq_some_iff.mp H
   obtain ⟨⟨t114, t115, t116, t117, t118, t119⟩, A300, H⟩ := H
   replace H : ((commit_reader_who.f kj2 t118 t119 (⟨#[99, 111, 109, 109, 105, 116, 116, 101, 114, 32]⟩ : ByteArray)).bind fun bt120 => ((commit_reader_line.f bt120.2.2.2.2.1 bt120.2.2.2.2.2 (⟨#[]⟩ : ByteArray)).bind fun bt126 => (if bt126.1.toList = ([] : List UInt8) then (commit_Parse.j2 kj2 bt126.2.1 bt126.2.2 t103 x107001_2 t114 t115 t116 t117 bt120.1 bt120.2.1 bt120.2.2.1 bt120.2.2.2.1 (⟨#[]⟩ : ByteArray)) else ((commit_reader_fail.f bt126.2.1 bt126.2.2 2).bind fun bt129 => (commit_Parse.j2 kj2 bt129.1 bt129.2 t103 x107001_2 t114 t115 t116 t117 bt120.1 bt120.2.1 bt120.2.2.1 bt120.2.2.2.1 (⟨#[]⟩ : ByteArray)))))) = some (r1, r2, r3, r4, r5, r6, r7, r8, r9, r10, r11, r12) := H
   have A30 := Aside0.mk A300
   clear A300
   replace H := Option.bind_eq_some_iff.mp H
   obtain ⟨⟨t120, t121, t122, t123, t124, t125⟩, A310, H⟩ := H
   replace H : ((commit_reader_line.f t124 t125 (⟨#[]⟩ : ByteArray)).bind fun bt126 => (if bt126.1.toList = ([] : List UInt8) then (commit_Parse.j2 kj2 bt126.2.1 bt126.2.2 t103 x107001_2 t114 t115 t116 t117 t120 t121 t122 t123 (⟨#[]⟩ : ByteArray)) else ((commit_reader_fail.f bt126.2.1 bt126.2.2 2).bind fun bt129 => (commit_Parse.j2 kj2 bt129.1 bt129.2 t103 x107001_2 t114 t115 t116 t117 t120 t121 t122 t123 (⟨#[]⟩ : ByteArray))))) = some (r1, r2, r3, r4, r5, r6, r7, r8, r9, r10, r11, r12) := H
   have A31 := Aside0.mk A310
   clear A310
   replace H := Option.bind_eq_some_iff.mp H
   obtain ⟨⟨t126, t127, t128⟩, A320, H⟩ := H
   replace H : (if t126.toList = ([] : List UInt8) then (commit_Parse.j2 kj2 t127 t128 t103 x107001_2 t114 t115 t116 t117 t120 t121 t122 t123 (⟨#[]⟩ : ByteArray)) else ((commit_reader_fail.f t127 t128 2).bind fun bt129 => (commit_Parse.j2 kj2 bt129.1 bt129.2 t103 x107001_2 t114 t115 t116 t117 t120 t121 t122 t123 (⟨#[]⟩ : ByteArray)))) = some (r1, r2, r3, r4, r5, r6, r7, r8, r9, r10, r11, r12) := H
   have A32 := Aside0.mk A320
   clear A320
   have HC33 := Aside0.mk H
   clear H
   go_upto_if 39 with (first | ((with_reducible refine gate_callee (f := 72) rfl ?_); refine goesL_ (some 32) rfl rfl Tryz.func72 (by kernel_rfl) rfl #[.pointer (some ⟨gb102, 0, none⟩), .string (⟨#[97, 117, 116, 104, 111, 114, 32]⟩ : ByteArray)] rfl z2_ ?_; (with_reducible refine (commit_reader_who.calls kj2 gb102 x103000_2 x103001_2 (⟨#[97, 117, 116, 104, 111, 114, 32]⟩ : ByteArray) t114 t115 t116 t117 t118 t119 w _ ?side1 ?side2 ?side3 A30.out).mono ?_); (case side1 => exact (show IsS87 w _ gb102 x103000_2 x103001_2 from ⟨(bk_ BK102.out), GE102.out⟩)); (case side2 => repeat (first | (with_reducible first | exact HB.out | apply below_alloc | apply pw_below_drewN | apply below_drew1 | refine below_set ?_ (IsS87.ge HI102.out) | refine below_set ?_ GE101.out | refine below_set ?_ GE106.out) | exact HB.out)); (case side3 => exact hgv); rintro e w34 ⟨rfl, hi, hb, hk⟩; refine ⟨_, rfl, ?_⟩; replace HO_107001 := Aside0.mk (Kd.R_mono (Kd.R_keep (IsS87.apart (show IsS87 w _ gb102 x103000_2 x103001_2 from by exact (show IsS87 w _ gb102 x103000_2 x103001_2 from ⟨(bk_ BK102.out), GE102.out⟩)) (rk_ HO_107001.out) (by decide)) hk (fun _ h => h.2)) (fun _ h => h.1)); replace BK101 := Aside0.mk (KeepBut.blk hk (g' := gb101) (o := .cells #[.string (⟨#[]⟩ : ByteArray), .slice none 0 0, .string (⟨#[]⟩ : ByteArray), .string (⟨#[]⟩ : ByteArray), .int .i64 0, .int .i64 0, .string (⟨#[]⟩ : ByteArray), .string (⟨#[]⟩ : ByteArray), .int .i64 0, .int .i64 0, .string (⟨#[]⟩ : ByteArray)] 26 (0, 0)) (bk_ BK101.out) NB101_102.out (by simp)); replace BK106 := Aside0.mk (KeepBut.blk hk (g' := gb106) (o := .cells #[.string t103, u107001, .string (⟨#[]⟩ : ByteArray), .string (⟨#[]⟩ : ByteArray), .int .i64 0, .int .i64 0, .string (⟨#[]⟩ : ByteArray), .string (⟨#[]⟩ : ByteArray), .int .i64 0, .int .i64 0, .string (⟨#[]⟩ : ByteArray)] 26 (0, 0)) (bk_ BK106.out) NB106_102.out (by simp)); replace HB := Aside0.mk (hb); replace BK102 := Aside0.mk (hi.1); (try clear hb); (try clear hb2); (try clear hk); (try clear hi)) | ((with_reducible refine gate_callee (f := 72) rfl ?_); refine goesL_ (some 34) rfl rfl Tryz.func72 (by kernel_rfl) rfl #[.pointer (some ⟨gb102, 0, none⟩), .string (⟨#[99, 111, 109, 109, 105, 116, 116, 101, 114, 32]⟩ : ByteArray)] rfl z2_ ?_; (with_reducible refine (commit_reader_who.calls kj2 gb102 t118 t119 (⟨#[99, 111, 109, 109, 105, 116, 116, 101, 114, 32]⟩ : ByteArray) t120 t121 t122 t123 t124 t125 w _ ?side1 ?side2 ?side3 A31.out).mono ?_); (case side1 => exact (show IsS87 w _ gb102 t118 t119 from ⟨(bk_ BK102.out), GE102.out⟩)); (case side2 => repeat (first | (with_reducible first | exact HB.out | apply below_alloc | apply pw_below_drewN | apply below_drew1 | refine below_set ?_ (IsS87.ge HI102.out) | refine below_set ?_ GE101.out | refine below_set ?_ GE106.out) | exact HB.out)); (case side3 => exact hgv); rintro e w35 ⟨rfl, hi, hb, hk⟩; refine ⟨_, rfl, ?_⟩; replace HO_107001 := Aside0.mk (Kd.R_mono (Kd.R_keep (IsS87.apart (show IsS87 w _ gb102 t118 t119 from by exact (show IsS87 w _ gb102 t118 t119 from ⟨(bk_ BK102.out), GE102.out⟩)) (rk_ HO_107001.out) (by decide)) hk (fun _ h => h.2)) (fun _ h => h.1)); replace BK101 := Aside0.mk (KeepBut.blk hk (g' := gb101) (o := .cells #[.string (⟨#[]⟩ : ByteArray), .slice none 0 0, .string (⟨#[]⟩ : ByteArray), .string (⟨#[]⟩ : ByteArray), .int .i64 0, .int .i64 0, .string (⟨#[]⟩ : ByteArray), .string (⟨#[]⟩ : ByteArray), .int .i64 0, .int .i64 0, .string (⟨#[]⟩ : ByteArray)] 26 (0, 0)) (bk_ BK101.out) NB101_102.out (by simp)); replace BK106 := Aside0.mk (KeepBut.blk hk (g' := gb106) (o := .cells #[.string t103, u107001, .string (⟨#[]⟩ : ByteArray), .string (⟨#[]⟩ : ByteArray), .int .i64 0, .int .i64 0, .string (⟨#[]⟩ : ByteArray), .string (⟨#[]⟩ : ByteArray), .int .i64 0, .int .i64 0, .string (⟨#[]⟩ : ByteArray)] 26 (0, 0)) (bk_ BK106.out) NB106_102.out (by simp)); replace HB := Aside0.mk (hb); replace BK102 := Aside0.mk (hi.1); (try clear hb); (try clear hb2); (try clear hk); (try clear hi); have hnb36 := NB106_101.out; have hnc36 := NB101_106.out; have hnb37 := NB106_102.out; have hnc37 := NB102_106.out; obtain ⟨hcz38_0, hcz38_1, hcz38_2, hcz38_3, hcz38_4, hcz38_5, hcz38_6, hcz38_7, hcz38_8, hcz38_9, hcz38_10, hfz38_0, hfz38_1, hfz38_2, hfz38_3, hfz38_4, hfz38_5, hfz38_6, hfz38_7, hfz38_8, hfz38_9, hfz38_10⟩ := bc11 BK106.out) | ((with_reducible refine gate_callee (f := 73) rfl ?_); refine goesL_ (some 38) rfl rfl Tryz.func73 (by kernel_rfl) rfl #[.pointer (some ⟨gb102, 0, none⟩), .string (⟨#[]⟩ : ByteArray)] rfl z2_ ?_; (with_reducible refine (commit_reader_line.calls gb102 t124 t125 (⟨#[]⟩ : ByteArray) t126 t127 t128 w _ ?side1 ?side2 ?side3 A32.out).mono ?_); (case side1 => exact (show IsS87 w _ gb102 t124 t125 from ⟨(by have b_ := BK102; have f_ := NB102_106; exact zb_), GE102.out⟩)); (case side2 => repeat (first | (with_reducible first | exact HB.out | apply below_alloc | apply pw_below_drewN | apply below_drew1 | refine below_set ?_ (IsS87.ge HI102.out) | refine below_set ?_ GE101.out | refine below_set ?_ GE106.out) | exact HB.out)); (case side3 => exact hgv); rintro e w39 ⟨rfl, hi, hb, hk⟩; refine ⟨_, rfl, ?_⟩; replace HO_107001 := Aside0.mk (Kd.R_mono (Kd.R_keep (IsS87.apart (show IsS87 w _ gb102 t124 t125 from by exact (show IsS87 w _ gb102 t124 t125 from ⟨(by have b_ := BK102; have f_ := NB102_106; exact zb_), GE102.out⟩)) (by (with_reducible repeat (first | apply Kd.R_alloc | apply Kd.R_drewN | apply Kd.R_drew)); exact (Kd.R_mono (Kd.R_far (p := ⟨gb106, 9, none⟩) (Kd.R_far (p := ⟨gb106, 8, none⟩) (Kd.R_far (p := ⟨gb106, 7, none⟩) (Kd.R_far (p := ⟨gb106, 6, none⟩) (Kd.R_far (p := ⟨gb106, 5, none⟩) (Kd.R_far (p := ⟨gb106, 4, none⟩) (Kd.R_far (p := ⟨gb106, 3, none⟩) (Kd.R_far (p := ⟨gb106, 2, none⟩) (Kd.R_types HO_107001.out BK106.out (by decide)) (fun _ hk => hk.2) (.string t114)) (fun _ hk => hk.2) (.string t115)) (fun _ hk => hk.2) (.int .i64 t116)) (fun _ hk => hk.2) (.int .i64 t117)) (fun _ hk => hk.2) (.string t120)) (fun _ hk => hk.2) (.string t121)) (fun _ hk => hk.2) (.int .i64 t122)) (fun _ hk => hk.2) (.int .i64 t123)) (fun _ h_ => h_.1))) (by decide)) hk (fun _ h => h.2)) (fun _ h => h.1)); replace BK101 := Aside0.mk (KeepBut.blk hk (g' := gb101) (o := .cells #[.string (⟨#[]⟩ : ByteArray), .slice none 0 0, .string (⟨#[]⟩ : ByteArray), .string (⟨#[]⟩ : ByteArray), .int .i64 0, .int .i64 0, .string (⟨#[]⟩ : ByteArray), .string (⟨#[]⟩ : ByteArray), .int .i64 0, .int .i64 0, .string (⟨#[]⟩ : ByteArray)] 26 (0, 0)) (by have b_ := BK101; have f_ := NB101_106; exact zb_) NB101_102.out (by simp)); replace BK106 := Aside0.mk (KeepBut.blk hk (g' := gb106) (o := .cells #[.string t103, u107001, .string t114, .string t115, .int .i64 t116, .int .i64 t117, .string t120, .string t121, .int .i64 t122, .int .i64 t123, .string (⟨#[]⟩ : ByteArray)] 26 (0, 0)) (by have b_ := BK106; exact zb_) NB106_102.out (by simp)); replace HB := Aside0.mk (hb); replace BK102 := Aside0.mk (hi.1); (try clear hb); (try clear hb2); (try clear hk); (try clear hi)))
   (try simp only [Act.put, List.setIfInBounds_toArray, List.set_cons_zero, List.set_cons_succ])
   go_cut [] (fun wc => ∃ (kq : Nat) (x103000_32 : ByteArray) (x103001_32 : Int), Aside0 (commit_Parse.j2 kq x103000_32 x103001_32 t103 x107001_2 t114 t115 t116 t117 t120 t121 t122 t123 (⟨#[]⟩ : ByteArray) = some (r1, r2, r3, r4, r5, r6, r7, r8, r9, r10, r11, r12)) ∧ Aside0 (kq ≤ kj2) ∧ Aside0 (Kd.R Kd.string 9 wc w.heap.size (fun _ => True) u107001 x107001_2) ∧ Aside0 (wc.heap[gb101]? = some (.cells #[.string (⟨#[]⟩ : ByteArray), (.slice none 0 0), .string (⟨#[]⟩ : ByteArray), .string (⟨#[]⟩ : ByteArray), .int .i64 0, .int .i64 0, .string (⟨#[]⟩ : ByteArray), .string (⟨#[]⟩ : ByteArray), .int .i64 0, .int .i64 0, .string (⟨#[]⟩ : ByteArray)] 26 (0, 0))) ∧ Aside0 (wc.heap[gb102]? = some (.cells #[.string x103000_32, .int .i64 x103001_32] 87 (0, 0))) ∧ Aside0 (wc.heap[gb106]? = some (.cells #[.string t103, u107001, .string t114, .string t115, .int .i64 t116, .int .i64 t117, .string t120, .string t121, .int .i64 t122, .int .i64 t123, .string (⟨#[]⟩ : ByteArray)] 26 (0, 0))) ∧ Aside0 (Below w.heap.size w wc))
   case first =>
    have H := HC33.out
    clear HC33
    by_cases c40 : t126.toList = ([] : List UInt8)
    ·rw [if_pos c40] at H
     have c40b0 := beq_iff_eq.mpr c40
     have c40b1 := bne_eq_false_iff_eq.mpr c40
     (try (have c40b8 : (!t126.toList.isEmpty) = false := (by have h_ := c40b1; rw [ne_nil_bool] at h_; exact h_)))
     (try (have c40b9 : t126.toList.isEmpty = true := (by have h_ := c40b1; rw [ne_nil_bool] at h_; simpa using h_)))
     clear c40
     (first | rw [c40b0] | (simp only [i64_w, i32_w]; rw [c40b0]) | skip)
     (try rw [c40b8])
     have H' := Aside0.mk H
     clear H
     go_wp2
     go_meet
     case rel => exact ⟨_, (t127), (t128), H', ⟨by have := HJ2.out; first | omega | exact Nat.le_refl _⟩, ⟨z32_⟩, ⟨bk_ BK101.out⟩, ⟨bk_ BK102.out⟩, ⟨bk_ BK106.out⟩, ⟨hs_⟩⟩
    ·rw [if_neg c40] at H
     have c40b0 := beq_eq_false_iff_ne.mpr c40
     have c40b1 := bne_iff_ne.mpr c40
     (try (have c40b8 : (!t126.toList.isEmpty) = true := (by have h_ := c40b1; rw [ne_nil_bool] at h_; exact h_)))
     (try (have c40b9 : t126.toList.isEmpty = false := (by have h_ := c40b1; rw [ne_nil_bool] at h_; simpa using h_)))
     (first | rw [c40b0] | (simp only [i64_w, i32_w]; rw [c40b0]) | skip)
     (try rw [c40b8])
     replace H := Option.bind_eq_some_iff.mp H
     obtain ⟨⟨t129, t130⟩, A410, H⟩ := H
     replace H : (commit_Parse.j2 kj2 t129 t130 t103 x107001_2 t114 t115 t116 t117 t120 t121 t122 t123 (⟨#[]⟩ : ByteArray)) = some (r1, r2, r3, r4, r5, r6, r7, r8, r9, r10, r11, r12) := H
     have A41 := Aside0.mk A410
     clear A410
     have H' := Aside0.mk H
     clear H
     go_wp2_with (first | ((with_reducible refine gate_callee (f := 74) rfl ?_); refine goesL_ (some 41) rfl rfl Tryz.func74 (by kernel_rfl) rfl #[.pointer (some ⟨gb102, 0, none⟩), .int .i64 2] rfl z2_ ?_; (with_reducible refine (commit_reader_fail.calls gb102 t127 t128 2 t129 t130 w _ ?side1 ?side2 A41.out).mono ?_); (case side1 => exact (show IsS87 w _ gb102 t127 t128 from ⟨(bk_ BK102.out), GE102.out⟩)); (case side2 => repeat (first | (with_reducible first | exact HB.out | apply below_alloc | apply pw_below_drewN | apply below_drew1 | refine below_set ?_ (IsS87.ge HI102.out) | refine below_set ?_ GE101.out | refine below_set ?_ GE106.out) | exact HB.out)); rintro e w42 ⟨rfl, hi, hb, hk⟩; refine ⟨_, rfl, ?_⟩; replace HO_107001 := Aside0.mk (Kd.R_mono (Kd.R_keep (IsS87.apart (show IsS87 w _ gb102 t127 t128 from by exact (show IsS87 w _ gb102 t127 t128 from ⟨(bk_ BK102.out), GE102.out⟩)) (rk_ HO_107001.out) (by decide)) hk (fun _ h => h.2)) (fun _ h => h.1)); replace BK101 := Aside0.mk (KeepBut.blk hk (g' := gb101) (o := .cells #[.string (⟨#[]⟩ : ByteArray), .slice none 0 0, .string (⟨#[]⟩ : ByteArray), .string (⟨#[]⟩ : ByteArray), .int .i64 0, .int .i64 0, .string (⟨#[]⟩ : ByteArray), .string (⟨#[]⟩ : ByteArray), .int .i64 0, .int .i64 0, .string (⟨#[]⟩ : ByteArray)] 26 (0, 0)) (bk_ BK101.out) NB101_102.out (by simp)); replace BK106 := Aside0.mk (KeepBut.blk hk (g' := gb106) (o := .cells #[.string t103, u107001, .string t114, .string t115, .int .i64 t116, .int .i64 t117, .string t120, .string t121, .int .i64 t122, .int .i64 t123, .string (⟨#[]⟩ : ByteArray)] 26 (0, 0)) (bk_ BK106.out) NB106_102.out (by simp)); replace HB := Aside0.mk (hb); replace BK102 := Aside0.mk (hi.1); (try clear hb); (try clear hb2); (try clear hk); (try clear hi)))
     go_meet
     case rel => exact ⟨_, (t129), (t130), H', ⟨by have := HJ2.out; first | omega | exact Nat.le_refl _⟩, ⟨z32_⟩, ⟨bk_ BK101.out⟩, ⟨bk_ BK102.out⟩, ⟨bk_ BK106.out⟩, ⟨hs_⟩⟩
   case rest =>
    clear HC33
    try clear c1
    try clear c2
    try clear p2
    try clear c3
    try clear c4
    try clear c7
    try clear c8
    try clear c9
    try clear c11
    try clear c11b0
    try clear c11b1
    try clear c13
    try clear c15
    try clear c16
    try clear c17
    try clear c20
    try clear c24
    try clear c25
    try clear c27
    try clear c28
    try clear c36
    try clear c37
    try clear c40
    try clear c40b0
    try clear c40b1
    try clear hcz10_0 hcz10_1 hcz10_10 hcz10_2 hcz10_3 hcz10_4 hcz10_5 hcz10_6 hcz10_7 hcz10_8 hcz10_9
    try clear hcz18_0 hcz18_1
    try clear hcz26_0 hcz26_1
    try clear hcz29_0 hcz29_1
    try clear hcz38_0 hcz38_1 hcz38_10 hcz38_2 hcz38_3 hcz38_4 hcz38_5 hcz38_6 hcz38_7 hcz38_8 hcz38_9
    try clear hfz10_0 hfz10_1 hfz10_10 hfz10_2 hfz10_3 hfz10_4 hfz10_5 hfz10_6 hfz10_7 hfz10_8 hfz10_9
    try clear hfz18_0 hfz18_1
    try clear hfz26_0 hfz26_1
    try clear hfz29_0 hfz29_1
    try clear hfz38_0 hfz38_1 hfz38_10 hfz38_2 hfz38_3 hfz38_4 hfz38_5 hfz38_6 hfz38_7 hfz38_8 hfz38_9
    try clear p2
    obtain ⟨kq, x103000_32, x103001_32, HA, HJ32, HO_107001, BK101, BK102, BK106, HB⟩ := hcut
    cases kq with
    | zero => exact absurd HA.out (by simp [commit_Parse.j2])
    | succ kj32 =>
     have H := HA.out
     clear HA
     simp only [commit_Parse.j2] at H
     by_cases c43 : x103001_32 = 0
     ·rw [if_pos c43] at H
      have c43b0 := beq_iff_eq.mpr c43
      have c43b1 := bne_eq_false_iff_eq.mpr c43
      clear c43
      replace H := Option.bind_eq_some_iff.mp H
      obtain ⟨t131, A440, H⟩ := H
      have A44 := Aside0.mk A440
      clear A440
      by_cases c45 : t131 = 0
      ·rw [if_pos c45] at H
       have c45b0 := beq_iff_eq.mpr c45
       have c45b1 := bne_eq_false_iff_eq.mpr c45
       clear c45
       simp only [Option.some.injEq, Prod.mk.injEq] at H
       obtain ⟨rfl, rfl, rfl, rfl, rfl, rfl, rfl, rfl, rfl, rfl, rfl, rfl⟩ := H
       have hnb46 := NB102_101.out
       have hnc46 := NB101_102.out
       have hnb47 := NB102_106.out
       have hnc47 := NB106_102.out
       obtain ⟨hcz48_0, hcz48_1, hfz48_0, hfz48_1⟩ := bc2 BK102.out
       have hnb49 := NB106_101.out
       have hnc49 := NB101_106.out
       obtain ⟨hcz50_0, hcz50_1, hcz50_2, hcz50_3, hcz50_4, hcz50_5, hcz50_6, hcz50_7, hcz50_8, hcz50_9, hcz50_10, hfz50_0, hfz50_1, hfz50_2, hfz50_3, hfz50_4, hfz50_5, hfz50_6, hfz50_7, hfz50_8, hfz50_9, hfz50_10⟩ := bc11 BK106.out
       obtain ⟨Ao51, co51, eo51⟩ := Kd.R_slice HO_107001.out
       subst eo51
       go_wp2_with (first | ((with_reducible refine gate_callee (f := 18) rfl ?_); refine goesL_ (some 54) rfl rfl Tryz.func18 (by kernel_rfl) rfl #[.agg #[.string t103, .slice Ao51 x107001_2.length co51, .string t114, .string t115, .int .i64 t116, .int .i64 t117, .string t120, .string t121, .int .i64 t122, .int .i64 t123, .string x103000_32]] rfl z2_ ?_; (with_reducible refine (commit_Check.calls kj32 t103 _ _ x107001_2 t114 t115 t116 t117 t120 t121 t122 t123 x103000_32 t131 _ ?side1 ?side2 ?side3 A44.out).mono ?_); (case side1 => refine (Kd.R_reads' (e := 9) (base := w.heap.size) (ok := fun k_ => True) (n := x107001_2.length) (c := co51) ?_).2.2; exact (by (with_reducible repeat (first | apply Kd.R_alloc | apply Kd.R_drewN | apply Kd.R_drew)); exact (Kd.R_mono (Kd.R_far (p := ⟨gb106, 10, none⟩) (Kd.R_types HO_107001.out BK106.out (by decide)) (fun _ hk => hk.2) (.string x103000_32)) (fun _ h_ => h_.1)))); (case side2 => exact (Kd.R_reads' HO_107001.out).2.1); (case side3 => exact GV.below hgv (hs_)); rintro e w52 ⟨rfl, hb⟩; refine ⟨_, rfl, ?_⟩; replace HO_107001 := Aside0.mk (Kd.R_below (by (with_reducible repeat (first | apply Kd.R_alloc | apply Kd.R_drewN | apply Kd.R_drew)); exact (Kd.R_mono (Kd.R_far (p := ⟨gb106, 10, none⟩) (Kd.R_types HO_107001.out BK106.out (by decide)) (fun _ hk => hk.2) (.string x103000_32)) (fun _ h_ => h_.1))) hb); replace BK101 := Aside0.mk (blk_below (g := gb101) (o := .cells #[.string (⟨#[]⟩ : ByteArray), .slice none 0 0, .string (⟨#[]⟩ : ByteArray), .string (⟨#[]⟩ : ByteArray), .int .i64 0, .int .i64 0, .string (⟨#[]⟩ : ByteArray), .string (⟨#[]⟩ : ByteArray), .int .i64 0, .int .i64 0, .string (⟨#[]⟩ : ByteArray)] 26 (0, 0)) (by have b_ := BK101; have f_ := NB101_106; exact zb_) hb); replace BK102 := Aside0.mk (blk_below (g := gb102) (o := .cells #[.string x103000_32, .int .i64 x103001_32] 87 (0, 0)) (by have b_ := BK102; have f_ := NB102_106; exact zb_) hb); replace BK106 := Aside0.mk (blk_below (g := gb106) (o := .cells #[.string t103, .slice Ao51 x107001_2.length co51, .string t114, .string t115, .int .i64 t116, .int .i64 t117, .string t120, .string t121, .int .i64 t122, .int .i64 t123, .string x103000_32] 26 (0, 0)) (by have b_ := BK106; exact zb_) hb); replace HB := Aside0.mk (below_step (hs_) hb); (try clear hb); (try clear hb2); (try clear hk); (try clear hi); obtain ⟨hcz53_0, hcz53_1, hfz53_0, hfz53_1⟩ := bc2 BK102.out; obtain ⟨hcz54_0, hcz54_1, hcz54_2, hcz54_3, hcz54_4, hcz54_5, hcz54_6, hcz54_7, hcz54_8, hcz54_9, hcz54_10, hfz54_0, hfz54_1, hfz54_2, hfz54_3, hfz54_4, hfz54_5, hfz54_6, hfz54_7, hfz54_8, hfz54_9, hfz54_10⟩ := bc11 BK106.out; obtain ⟨hcz55_0, hcz55_1, hcz55_2, hcz55_3, hcz55_4, hcz55_5, hcz55_6, hcz55_7, hcz55_8, hcz55_9, hcz55_10, hfz55_0, hfz55_1, hfz55_2, hfz55_3, hfz55_4, hfz55_5, hfz55_6, hfz55_7, hfz55_8, hfz55_9, hfz55_10⟩ := bc11 BK101.out))
       refine bodyPost_ret (results_ct rfl _ _ gb101 26 #[.string t103, .slice Ao51 x107001_2.length co51, .string t114, .string t115, .int .i64 t116, .int .i64 t117, .string t120, .string t121, .int .i64 t122, .int .i64 t123, .string x103000_32] (0, 0) _ rfl (by have b_ := BK101; have f_ := NB101_102; exact zb_) Tryz.underlying26 rfl (by kernel_rfl)) rfl ?_
       exact ⟨_, z4_, by (with_reducible repeat (first | apply Kd.R_alloc | apply Kd.R_drewN | apply Kd.R_drew)); exact Kd.R_mono (Kd.R_far (p := ⟨gb101, 10, none⟩) (Kd.R_far (p := ⟨gb101, 9, none⟩) (Kd.R_far (p := ⟨gb101, 8, none⟩) (Kd.R_far (p := ⟨gb101, 7, none⟩) (Kd.R_far (p := ⟨gb101, 6, none⟩) (Kd.R_far (p := ⟨gb101, 5, none⟩) (Kd.R_far (p := ⟨gb101, 4, none⟩) (Kd.R_far (p := ⟨gb101, 3, none⟩) (Kd.R_far (p := ⟨gb101, 2, none⟩) (Kd.R_far (p := ⟨gb101, 1, none⟩) (Kd.R_far (p := ⟨gb101, 0, none⟩) (Kd.R_far (p := ⟨gb102, 1, none⟩) (Kd.R_types (Kd.R_types HO_107001.out BK102.out (by decide)) BK101.out (by decide)) (fun _ hk => hk.1.2) (.int .i64 t131)) (fun _ hk => hk.2) (.string t103)) (fun _ hk => hk.2) (.slice Ao51 x107001_2.length co51)) (fun _ hk => hk.2) (.string t114)) (fun _ hk => hk.2) (.string t115)) (fun _ hk => hk.2) (.int .i64 t116)) (fun _ hk => hk.2) (.int .i64 t117)) (fun _ hk => hk.2) (.string t120)) (fun _ hk => hk.2) (.string t121)) (fun _ hk => hk.2) (.int .i64 t122)) (fun _ hk => hk.2) (.int .i64 t123)) (fun _ hk => hk.2) (.string x103000_32)) (fun _ hk => trivial), hs_⟩
      ·rw [if_neg c45] at H
       have c45b0 := beq_eq_false_iff_ne.mpr c45
       have c45b1 := bne_iff_ne.mpr c45
       simp only [Option.some.injEq, Prod.mk.injEq] at H
       obtain ⟨rfl, rfl, rfl, rfl, rfl, rfl, rfl, rfl, rfl, rfl, rfl, rfl⟩ := H
       have hnb56 := NB102_101.out
       have hnc56 := NB101_102.out
       have hnb57 := NB102_106.out
       have hnc57 := NB106_102.out
       obtain ⟨hcz58_0, hcz58_1, hfz58_0, hfz58_1⟩ := bc2 BK102.out
       have hnb59 := NB106_101.out
       have hnc59 := NB101_106.out
       obtain ⟨hcz60_0, hcz60_1, hcz60_2, hcz60_3, hcz60_4, hcz60_5, hcz60_6, hcz60_7, hcz60_8, hcz60_9, hcz60_10, hfz60_0, hfz60_1, hfz60_2, hfz60_3, hfz60_4, hfz60_5, hfz60_6, hfz60_7, hfz60_8, hfz60_9, hfz60_10⟩ := bc11 BK106.out
       obtain ⟨Ao61, co61, eo61⟩ := Kd.R_slice HO_107001.out
       subst eo61
       try go_wp2_with (first | ((with_reducible refine gate_callee (f := 18) rfl ?_); refine goesL_ (some 54) rfl rfl Tryz.func18 (by kernel_rfl) rfl #[.agg #[.string t103, .slice Ao61 x107001_2.length co61, .string t114, .string t115, .int .i64 t116, .int .i64 t117, .string t120, .string t121, .int .i64 t122, .int .i64 t123, .string x103000_32]] rfl z2_ ?_; (with_reducible refine (commit_Check.calls kj32 t103 _ _ x107001_2 t114 t115 t116 t117 t120 t121 t122 t123 x103000_32 t131 _ ?side1 ?side2 ?side3 A44.out).mono ?_); (case side1 => refine (Kd.R_reads' (e := 9) (base := w.heap.size) (ok := fun k_ => True) (n := x107001_2.length) (c := co61) ?_).2.2; exact (by (with_reducible repeat (first | apply Kd.R_alloc | apply Kd.R_drewN | apply Kd.R_drew)); exact (Kd.R_mono (Kd.R_far (p := ⟨gb106, 10, none⟩) (Kd.R_types HO_107001.out BK106.out (by decide)) (fun _ hk => hk.2) (.string x103000_32)) (fun _ h_ => h_.1)))); (case side2 => exact (Kd.R_reads' HO_107001.out).2.1); (case side3 => exact GV.below hgv (hs_)); rintro e w62 ⟨rfl, hb⟩; refine ⟨_, rfl, ?_⟩; replace HO_107001 := Aside0.mk (Kd.R_below (by (with_reducible repeat (first | apply Kd.R_alloc | apply Kd.R_drewN | apply Kd.R_drew)); exact (Kd.R_mono (Kd.R_far (p := ⟨gb106, 10, none⟩) (Kd.R_types HO_107001.out BK106.out (by decide)) (fun _ hk => hk.2) (.string x103000_32)) (fun _ h_ => h_.1))) hb); replace BK101 := Aside0.mk (blk_below (g := gb101) (o := .cells #[.string (⟨#[]⟩ : ByteArray), .slice none 0 0, .string (⟨#[]⟩ : ByteArray), .string (⟨#[]⟩ : ByteArray), .int .i64 0, .int .i64 0, .string (⟨#[]⟩ : ByteArray), .string (⟨#[]⟩ : ByteArray), .int .i64 0, .int .i64 0, .string (⟨#[]⟩ : ByteArray)] 26 (0, 0)) (by have b_ := BK101; have f_ := NB101_106; exact zb_) hb); replace BK102 := Aside0.mk (blk_below (g := gb102) (o := .cells #[.string x103000_32, .int .i64 x103001_32] 87 (0, 0)) (by have b_ := BK102; have f_ := NB102_106; exact zb_) hb); replace BK106 := Aside0.mk (blk_below (g := gb106) (o := .cells #[.string t103, .slice Ao61 x107001_2.length co61, .string t114, .string t115, .int .i64 t116, .int .i64 t117, .string t120, .string t121, .int .i64 t122, .int .i64 t123, .string x103000_32] 26 (0, 0)) (by have b_ := BK106; exact zb_) hb); replace HB := Aside0.mk (below_step (hs_) hb); (try clear hb); (try clear hb2); (try clear hk); (try clear hi); obtain ⟨hcz63_0, hcz63_1, hfz63_0, hfz63_1⟩ := bc2 BK102.out))
       have n0_ : Aside0 (Kd.R Kd.string 9 (w62.setCell ⟨gb102, 1, none⟩ (.int .i64 t131)) w.heap.size (fun _ => True) (.slice Ao61 x107001_2.length co61) x107001_2) := ⟨by (with_reducible repeat (first | apply Kd.R_alloc | apply Kd.R_drewN | apply Kd.R_drew)); exact Kd.R_mono (Kd.R_far (p := ⟨gb102, 1, none⟩) (Kd.R_types HO_107001.out BK102.out (by decide)) (fun _ hk => hk.2) (.int .i64 t131)) (fun _ hk => trivial)⟩
       have n1_ : Aside0 ((w62.setCell ⟨gb102, 1, none⟩ (.int .i64 t131)).heap[gb101]? = some (.cells #[.string (⟨#[]⟩ : ByteArray), .slice none 0 0, .string (⟨#[]⟩ : ByteArray), .string (⟨#[]⟩ : ByteArray), .int .i64 0, .int .i64 0, .string (⟨#[]⟩ : ByteArray), .string (⟨#[]⟩ : ByteArray), .int .i64 0, .int .i64 0, .string (⟨#[]⟩ : ByteArray)] 26 (0, 0))) := ⟨by have b_ := BK101; have f_ := NB101_102; exact zb_⟩
       have n2_ : Aside0 ((w62.setCell ⟨gb102, 1, none⟩ (.int .i64 t131)).heap[gb102]? = some (.cells #[.string x103000_32, .int .i64 t131] 87 (0, 0))) := ⟨by have b_ := BK102; exact zb_⟩
       have n3_ : Aside0 ((w62.setCell ⟨gb102, 1, none⟩ (.int .i64 t131)).heap[gb106]? = some (.cells #[.string t103, .slice Ao61 x107001_2.length co61, .string t114, .string t115, .int .i64 t116, .int .i64 t117, .string t120, .string t121, .int .i64 t122, .int .i64 t123, .string x103000_32] 26 (0, 0))) := ⟨by have b_ := BK106; have f_ := NB106_102; exact zb_⟩
       have n4_ : Aside0 (Below w.heap.size w (w62.setCell ⟨gb102, 1, none⟩ (.int .i64 t131))) := ⟨hs_⟩
       (try clear HO_107001)
       (try clear BK101)
       (try clear BK102)
       (try clear BK106)
       (try clear HB)
       generalize (w62.setCell ⟨gb102, 1, none⟩ (.int .i64 t131)) = w64 at n0_ n1_ n2_ n3_ n4_ ⊢
       have HO_107001 := n0_
       have BK101 := n1_
       have BK102 := n2_
       have BK106 := n3_
       have HB := n4_
       clear n0_ n1_ n2_ n3_ n4_
       replace HO_107001 := Aside0.mk (Kd.R_drew HO_107001.out)
       replace BK101 := Aside0.mk (blk_drew BK101.out)
       replace BK102 := Aside0.mk (blk_drew BK102.out)
       replace BK106 := Aside0.mk (blk_drew BK106.out)
       replace HB := Aside0.mk (below_drew1 HB.out)
       refine start_ (n := 7) (S := fun w' => w'.cell? ⟨gb102, 0, none⟩ = some (.string x103000_32) ∧ w'.cell? ⟨gb102, 1, none⟩ = some (.int .i64 t131)) (ds := []) (bs 7 0) (by kernel_rfl) rfl rfl ⟨(blk_cell BK102.out 0).trans rfl, (blk_cell BK102.out 1).trans rfl⟩ (fun hHeld => ?_)
       generalize w64.drew = w65 at HO_107001 BK101 BK102 BK106 HB hHeld ⊢
       refine pk_ (i := 0) (N := some 62) (bs 7 1) rfl rfl ?_
       refine pk_ (i := 1) (N := some 63) (bs 7 3) rfl rfl ?_
       refine pk_ (i := 2) (N := some 64) (bs 7 7) rfl rfl ?_
       refine pk_ (i := 3) (N := some 65) (bs 7 15) rfl rfl ?_
       refine tkK2_ (i := 4) (N := some 66) (bs 7 31) rfl rfl hHeld ?_
       refine one_ (i := 5) (N := none) (bs 7 63) rfl rfl (by kernel_rfl) (by decide) (fun K hK => ?_)
       have hs66 : w65.cell? ⟨gb101, 0, none⟩ = some (.string (⟨#[]⟩ : ByteArray)) := (blk_cell BK101.out 0).trans rfl
       have hfs66 := blk_frozen BK101.out 0
       have hns66_1 := NB102_101.out
       have hns66_2 := NB106_101.out
       have hms66_1 := NB101_102.out
       have hms66_2 := NB101_106.out
       have hs67 : w65.cell? ⟨gb101, 1, none⟩ = some (.slice none 0 0) := (blk_cell BK101.out 1).trans rfl
       have hfs67 := blk_frozen BK101.out 1
       have hns67_1 := NB102_101.out
       have hns67_2 := NB106_101.out
       have hms67_1 := NB101_102.out
       have hms67_2 := NB101_106.out
       have hs68 : w65.cell? ⟨gb101, 2, none⟩ = some (.string (⟨#[]⟩ : ByteArray)) := (blk_cell BK101.out 2).trans rfl
       have hfs68 := blk_frozen BK101.out 2
       have hns68_1 := NB102_101.out
       have hns68_2 := NB106_101.out
       have hms68_1 := NB101_102.out
       have hms68_2 := NB101_106.out
       have hs69 : w65.cell? ⟨gb101, 3, none⟩ = some (.string (⟨#[]⟩ : ByteArray)) := (blk_cell BK101.out 3).trans rfl
       have hfs69 := blk_frozen BK101.out 3
       have hns69_1 := NB102_101.out
       have hns69_2 := NB106_101.out
       have hms69_1 := NB101_102.out
       have hms69_2 := NB101_106.out
       have hs70 : w65.cell? ⟨gb101, 4, none⟩ = some (.int .i64 0) := (blk_cell BK101.out 4).trans rfl
       have hfs70 := blk_frozen BK101.out 4
       have hns70_1 := NB102_101.out
       have hns70_2 := NB106_101.out
       have hms70_1 := NB101_102.out
       have hms70_2 := NB101_106.out
       have hs71 : w65.cell? ⟨gb101, 5, none⟩ = some (.int .i64 0) := (blk_cell BK101.out 5).trans rfl
       have hfs71 := blk_frozen BK101.out 5
       have hns71_1 := NB102_101.out
       have hns71_2 := NB106_101.out
       have hms71_1 := NB101_102.out
       have hms71_2 := NB101_106.out
       have hs72 : w65.cell? ⟨gb101, 6, none⟩ = some (.string (⟨#[]⟩ : ByteArray)) := (blk_cell BK101.out 6).trans rfl
       have hfs72 := blk_frozen BK101.out 6
       have hns72_1 := NB102_101.out
       have hns72_2 := NB106_101.out
       have hms72_1 := NB101_102.out
       have hms72_2 := NB101_106.out
       have hs73 : w65.cell? ⟨gb101, 7, none⟩ = some (.string (⟨#[]⟩ : ByteArray)) := (blk_cell BK101.out 7).trans rfl
       have hfs73 := blk_frozen BK101.out 7
       have hns73_1 := NB102_101.out
       have hns73_2 := NB106_101.out
       have hms73_1 := NB101_102.out
       have hms73_2 := NB101_106.out
       have hs74 : w65.cell? ⟨gb101, 8, none⟩ = some (.int .i64 0) := (blk_cell BK101.out 8).trans rfl
       have hfs74 := blk_frozen BK101.out 8
       have hns74_1 := NB102_101.out
       have hns74_2 := NB106_101.out
       have hms74_1 := NB101_102.out
       have hms74_2 := NB101_106.out
       have hs75 : w65.cell? ⟨gb101, 9, none⟩ = some (.int .i64 0) := (blk_cell BK101.out 9).trans rfl
       have hfs75 := blk_frozen BK101.out 9
       have hns75_1 := NB102_101.out
       have hns75_2 := NB106_101.out
       have hms75_1 := NB101_102.out
       have hms75_2 := NB101_106.out
       have hs76 : w65.cell? ⟨gb101, 10, none⟩ = some (.string (⟨#[]⟩ : ByteArray)) := (blk_cell BK101.out 10).trans rfl
       have hfs76 := blk_frozen BK101.out 10
       have hns76_1 := NB102_101.out
       have hns76_2 := NB106_101.out
       have hms76_1 := NB101_102.out
       have hms76_2 := NB101_106.out
       refine skip_ (w1 := ?_) (by rfl) rfl ?_ ?_
       rotate_left
       ·go_simp
        rfl
       refine hK.out _ _ ⟨((cell_far (p := ⟨gb101, _, none⟩) NB102_101.out _).trans (((cell_far (p := ⟨gb101, _, none⟩) NB102_101.out _).trans (((cell_far (p := ⟨gb101, _, none⟩) NB102_101.out _).trans (((cell_far (p := ⟨gb101, _, none⟩) NB102_101.out _).trans (((cell_far (p := ⟨gb101, _, none⟩) NB102_101.out _).trans (((cell_far (p := ⟨gb101, _, none⟩) NB102_101.out _).trans (((cell_far (p := ⟨gb101, _, none⟩) NB102_101.out _).trans (((cell_far (p := ⟨gb101, _, none⟩) NB102_101.out _).trans (((cell_far (p := ⟨gb101, _, none⟩) NB102_101.out _).trans (((cell_far (p := ⟨gb101, _, none⟩) NB102_101.out _).trans (((cell_far (p := ⟨gb101, _, none⟩) NB102_101.out _).trans (hHeld.1)))))))))))))))))))))), ((cell_far (p := ⟨gb101, _, none⟩) NB102_101.out _).trans (((cell_far (p := ⟨gb101, _, none⟩) NB102_101.out _).trans (((cell_far (p := ⟨gb101, _, none⟩) NB102_101.out _).trans (((cell_far (p := ⟨gb101, _, none⟩) NB102_101.out _).trans (((cell_far (p := ⟨gb101, _, none⟩) NB102_101.out _).trans (((cell_far (p := ⟨gb101, _, none⟩) NB102_101.out _).trans (((cell_far (p := ⟨gb101, _, none⟩) NB102_101.out _).trans (((cell_far (p := ⟨gb101, _, none⟩) NB102_101.out _).trans (((cell_far (p := ⟨gb101, _, none⟩) NB102_101.out _).trans (((cell_far (p := ⟨gb101, _, none⟩) NB102_101.out _).trans (((cell_far (p := ⟨gb101, _, none⟩) NB102_101.out _).trans (hHeld.2))))))))))))))))))))))⟩ (fun hHeld => ?_)
       clear hK K
       refine pk_ (i := 6) (N := some 3) (bs 7 127) rfl rfl ?_
       refine done_ (by kernel_rfl) ?_
       try go_wp2
       refine bodyPost_ret (results_ct rfl _ _ gb101 26 #[.string (⟨#[]⟩ : ByteArray), .slice none 0 0, .string (⟨#[]⟩ : ByteArray), .string (⟨#[]⟩ : ByteArray), .int .i64 0, .int .i64 0, .string (⟨#[]⟩ : ByteArray), .string (⟨#[]⟩ : ByteArray), .int .i64 0, .int .i64 0, .string (⟨#[]⟩ : ByteArray)] (0, 0) _ rfl (by have b_ := BK101; exact zb_) Tryz.underlying26 rfl (by kernel_rfl)) rfl ?_
       exact ⟨_, z4_, z6_, hs_⟩
     ·rw [if_neg c43] at H
      have c43b0 := beq_eq_false_iff_ne.mpr c43
      have c43b1 := bne_iff_ne.mpr c43
      simp only [Option.some.injEq, Prod.mk.injEq] at H
      obtain ⟨rfl, rfl, rfl, rfl, rfl, rfl, rfl, rfl, rfl, rfl, rfl, rfl⟩ := H
      have hnb77 := NB102_101.out
      have hnc77 := NB101_102.out
      have hnb78 := NB102_106.out
      have hnc78 := NB106_102.out
      obtain ⟨hcz79_0, hcz79_1, hfz79_0, hfz79_1⟩ := bc2 BK102.out
      have hnb80 := NB106_101.out
      have hnc80 := NB101_106.out
      obtain ⟨hcz81_0, hcz81_1, hcz81_2, hcz81_3, hcz81_4, hcz81_5, hcz81_6, hcz81_7, hcz81_8, hcz81_9, hcz81_10, hfz81_0, hfz81_1, hfz81_2, hfz81_3, hfz81_4, hfz81_5, hfz81_6, hfz81_7, hfz81_8, hfz81_9, hfz81_10⟩ := bc11 BK106.out
      try go_wp2
      have n0_ : Aside0 (Kd.R Kd.string 9 (wc.setCell ⟨gb106, 10, none⟩ (.string x103000_32)) w.heap.size (fun _ => True) u107001 x107001_2) := ⟨by (with_reducible repeat (first | apply Kd.R_alloc | apply Kd.R_drewN | apply Kd.R_drew)); exact Kd.R_mono (Kd.R_far (p := ⟨gb106, 10, none⟩) (Kd.R_types HO_107001.out BK106.out (by decide)) (fun _ hk => hk.2) (.string x103000_32)) (fun _ hk => trivial)⟩
      have n1_ : Aside0 ((wc.setCell ⟨gb106, 10, none⟩ (.string x103000_32)).heap[gb101]? = some (.cells #[.string (⟨#[]⟩ : ByteArray), .slice none 0 0, .string (⟨#[]⟩ : ByteArray), .string (⟨#[]⟩ : ByteArray), .int .i64 0, .int .i64 0, .string (⟨#[]⟩ : ByteArray), .string (⟨#[]⟩ : ByteArray), .int .i64 0, .int .i64 0, .string (⟨#[]⟩ : ByteArray)] 26 (0, 0))) := ⟨by have b_ := BK101; have f_ := NB101_106; exact zb_⟩
      have n2_ : Aside0 ((wc.setCell ⟨gb106, 10, none⟩ (.string x103000_32)).heap[gb102]? = some (.cells #[.string x103000_32, .int .i64 x103001_32] 87 (0, 0))) := ⟨by have b_ := BK102; have f_ := NB102_106; exact zb_⟩
      have n3_ : Aside0 ((wc.setCell ⟨gb106, 10, none⟩ (.string x103000_32)).heap[gb106]? = some (.cells #[.string t103, u107001, .string t114, .string t115, .int .i64 t116, .int .i64 t117, .string t120, .string t121, .int .i64 t122, .int .i64 t123, .string x103000_32] 26 (0, 0))) := ⟨by have b_ := BK106; exact zb_⟩
      have n4_ : Aside0 (Below w.heap.size w (wc.setCell ⟨gb106, 10, none⟩ (.string x103000_32))) := ⟨hs_⟩
      (try clear HO_107001)
      (try clear BK101)
      (try clear BK102)
      (try clear BK106)
      (try clear HB)
      generalize (wc.setCell ⟨gb106, 10, none⟩ (.string x103000_32)) = w82 at n0_ n1_ n2_ n3_ n4_ ⊢
      have HO_107001 := n0_
      have BK101 := n1_
      have BK102 := n2_
      have BK106 := n3_
      have HB := n4_
      clear n0_ n1_ n2_ n3_ n4_
      replace HO_107001 := Aside0.mk (Kd.R_drew HO_107001.out)
      replace BK101 := Aside0.mk (blk_drew BK101.out)
      replace BK102 := Aside0.mk (blk_drew BK102.out)
      replace BK106 := Aside0.mk (blk_drew BK106.out)
      replace HB := Aside0.mk (below_drew1 HB.out)
      refine start_ (n := 7) (S := fun w' => w'.cell? ⟨gb102, 0, none⟩ = some (.string x103000_32) ∧ w'.cell? ⟨gb102, 1, none⟩ = some (.int .i64 x103001_32)) (ds := []) (bs 7 0) (by kernel_rfl) rfl rfl ⟨(blk_cell BK102.out 0).trans rfl, (blk_cell BK102.out 1).trans rfl⟩ (fun hHeld => ?_)
      generalize w82.drew = w83 at HO_107001 BK101 BK102 BK106 HB hHeld ⊢
      refine pk_ (i := 0) (N := some 62) (bs 7 1) rfl rfl ?_
      refine pk_ (i := 1) (N := some 63) (bs 7 3) rfl rfl ?_
      refine pk_ (i := 2) (N := some 64) (bs 7 7) rfl rfl ?_
      refine pk_ (i := 3) (N := some 65) (bs 7 15) rfl rfl ?_
      refine tkK2_ (i := 4) (N := some 66) (bs 7 31) rfl rfl hHeld ?_
      refine one_ (i := 5) (N := none) (bs 7 63) rfl rfl (by kernel_rfl) (by decide) (fun K hK => ?_)
      have hs84 : w83.cell? ⟨gb101, 0, none⟩ = some (.string (⟨#[]⟩ : ByteArray)) := (blk_cell BK101.out 0).trans rfl
      have hfs84 := blk_frozen BK101.out 0
      have hns84_1 := NB102_101.out
      have hns84_2 := NB106_101.out
      have hms84_1 := NB101_102.out
      have hms84_2 := NB101_106.out
      have hs85 : w83.cell? ⟨gb101, 1, none⟩ = some (.slice none 0 0) := (blk_cell BK101.out 1).trans rfl
      have hfs85 := blk_frozen BK101.out 1
      have hns85_1 := NB102_101.out
      have hns85_2 := NB106_101.out
      have hms85_1 := NB101_102.out
      have hms85_2 := NB101_106.out
      have hs86 : w83.cell? ⟨gb101, 2, none⟩ = some (.string (⟨#[]⟩ : ByteArray)) := (blk_cell BK101.out 2).trans rfl
      have hfs86 := blk_frozen BK101.out 2
      have hns86_1 := NB102_101.out
      have hns86_2 := NB106_101.out
      have hms86_1 := NB101_102.out
      have hms86_2 := NB101_106.out
      have hs87 : w83.cell? ⟨gb101, 3, none⟩ = some (.string (⟨#[]⟩ : ByteArray)) := (blk_cell BK101.out 3).trans rfl
      have hfs87 := blk_frozen BK101.out 3
      have hns87_1 := NB102_101.out
      have hns87_2 := NB106_101.out
      have hms87_1 := NB101_102.out
      have hms87_2 := NB101_106.out
      have hs88 : w83.cell? ⟨gb101, 4, none⟩ = some (.int .i64 0) := (blk_cell BK101.out 4).trans rfl
      have hfs88 := blk_frozen BK101.out 4
      have hns88_1 := NB102_101.out
      have hns88_2 := NB106_101.out
      have hms88_1 := NB101_102.out
      have hms88_2 := NB101_106.out
      have hs89 : w83.cell? ⟨gb101, 5, none⟩ = some (.int .i64 0) := (blk_cell BK101.out 5).trans rfl
      have hfs89 := blk_frozen BK101.out 5
      have hns89_1 := NB102_101.out
      have hns89_2 := NB106_101.out
      have hms89_1 := NB101_102.out
      have hms89_2 := NB101_106.out
      have hs90 : w83.cell? ⟨gb101, 6, none⟩ = some (.string (⟨#[]⟩ : ByteArray)) := (blk_cell BK101.out 6).trans rfl
      have hfs90 := blk_frozen BK101.out 6
      have hns90_1 := NB102_101.out
      have hns90_2 := NB106_101.out
      have hms90_1 := NB101_102.out
      have hms90_2 := NB101_106.out
      have hs91 : w83.cell? ⟨gb101, 7, none⟩ = some (.string (⟨#[]⟩ : ByteArray)) := (blk_cell BK101.out 7).trans rfl
      have hfs91 := blk_frozen BK101.out 7
      have hns91_1 := NB102_101.out
      have hns91_2 := NB106_101.out
      have hms91_1 := NB101_102.out
      have hms91_2 := NB101_106.out
      have hs92 : w83.cell? ⟨gb101, 8, none⟩ = some (.int .i64 0) := (blk_cell BK101.out 8).trans rfl
      have hfs92 := blk_frozen BK101.out 8
      have hns92_1 := NB102_101.out
      have hns92_2 := NB106_101.out
      have hms92_1 := NB101_102.out
      have hms92_2 := NB101_106.out
      have hs93 : w83.cell? ⟨gb101, 9, none⟩ = some (.int .i64 0) := (blk_cell BK101.out 9).trans rfl
      have hfs93 := blk_frozen BK101.out 9
      have hns93_1 := NB102_101.out
      have hns93_2 := NB106_101.out
      have hms93_1 := NB101_102.out
      have hms93_2 := NB101_106.out
      have hs94 : w83.cell? ⟨gb101, 10, none⟩ = some (.string (⟨#[]⟩ : ByteArray)) := (blk_cell BK101.out 10).trans rfl
      have hfs94 := blk_frozen BK101.out 10
      have hns94_1 := NB102_101.out
      have hns94_2 := NB106_101.out
      have hms94_1 := NB101_102.out
      have hms94_2 := NB101_106.out
      refine skip_ (w1 := ?_) (by rfl) rfl ?_ ?_
      rotate_left
      ·go_simp
       rfl
      refine hK.out _ _ ⟨((cell_far (p := ⟨gb101, _, none⟩) NB102_101.out _).trans (((cell_far (p := ⟨gb101, _, none⟩) NB102_101.out _).trans (((cell_far (p := ⟨gb101, _, none⟩) NB102_101.out _).trans (((cell_far (p := ⟨gb101, _, none⟩) NB102_101.out _).trans (((cell_far (p := ⟨gb101, _, none⟩) NB102_101.out _).trans (((cell_far (p := ⟨gb101, _, none⟩) NB102_101.out _).trans (((cell_far (p := ⟨gb101, _, none⟩) NB102_101.out _).trans (((cell_far (p := ⟨gb101, _, none⟩) NB102_101.out _).trans (((cell_far (p := ⟨gb101, _, none⟩) NB102_101.out _).trans (((cell_far (p := ⟨gb101, _, none⟩) NB102_101.out _).trans (((cell_far (p := ⟨gb101, _, none⟩) NB102_101.out _).trans (hHeld.1)))))))))))))))))))))), ((cell_far (p := ⟨gb101, _, none⟩) NB102_101.out _).trans (((cell_far (p := ⟨gb101, _, none⟩) NB102_101.out _).trans (((cell_far (p := ⟨gb101, _, none⟩) NB102_101.out _).trans (((cell_far (p := ⟨gb101, _, none⟩) NB102_101.out _).trans (((cell_far (p := ⟨gb101, _, none⟩) NB102_101.out _).trans (((cell_far (p := ⟨gb101, _, none⟩) NB102_101.out _).trans (((cell_far (p := ⟨gb101, _, none⟩) NB102_101.out _).trans (((cell_far (p := ⟨gb101, _, none⟩) NB102_101.out _).trans (((cell_far (p := ⟨gb101, _, none⟩) NB102_101.out _).trans (((cell_far (p := ⟨gb101, _, none⟩) NB102_101.out _).trans (((cell_far (p := ⟨gb101, _, none⟩) NB102_101.out _).trans (hHeld.2))))))))))))))))))))))⟩ (fun hHeld => ?_)
      clear hK K
      refine pk_ (i := 6) (N := some 3) (bs 7 127) rfl rfl ?_
      refine done_ (by kernel_rfl) ?_
      try go_wp2
      refine bodyPost_ret (results_ct rfl _ _ gb101 26 #[.string (⟨#[]⟩ : ByteArray), .slice none 0 0, .string (⟨#[]⟩ : ByteArray), .string (⟨#[]⟩ : ByteArray), .int .i64 0, .int .i64 0, .string (⟨#[]⟩ : ByteArray), .string (⟨#[]⟩ : ByteArray), .int .i64 0, .int .i64 0, .string (⟨#[]⟩ : ByteArray)] (0, 0) _ rfl (by have b_ := BK101; exact zb_) Tryz.underlying26 rfl (by kernel_rfl)) rfl ?_
      exact ⟨_, z4_, z6_, hs_⟩


def commit_Whole.f (k : Nat) (a0_0 : Int) (a0_1 : ByteArray) : Option (Int) := (object_Bytes.f a0_0 a0_1).bind fun bt102 => (if bt102.2 = 0 then (if a0_0 = 2 then ((tree_Parse.f k a0_1).bind fun bt104 => (some bt104.2)) else (if a0_0 = 3 then ((commit_Parse.f k a0_1).bind fun bt108 => (some bt108.2.2.2.2.2.2.2.2.2.2.2)) else (if a0_0 = 4 then ((commit_ParseTag.f k a0_1).bind fun bt122 => (some bt122.2.2.2.2.2.2.2.2)) else (some bt102.2)))) else (some bt102.2))
theorem commit_Whole.mono : ∀ a0 a1 k, LeO (commit_Whole.f k a0 a1) (commit_Whole.f (k + 1) a0 a1) := by
 intro a0 a1 k
 unfold commit_Whole.f
 have m0_ := @commit_Parse.mono
 have m1_ := @commit_ParseTag.mono
 have m2_ := @tree_Parse.mono
 exact mz_
set_option maxHeartbeats 8000000 in
set_option maxRecDepth 100000 in
theorem commit_Whole.calls (k : Nat) (a0_0 : Int) (a0_1 : ByteArray) (r : Int) (w : World) (hgv : GV w) (h : commit_Whole.f k a0_0 a0_1 = some r) :
  Calls Tryz.prog 36 #[.agg #[.int .i64 a0_0, .string a0_1]] w fun e w' => e = .returned (.int .i64 r) ∧ Below w.heap.size w w' := by
 have hu50 := Tryz.underlying50
 have HB := Aside0.mk (Below.refl w.heap.size w)
 have H : ((object_Bytes.f a0_0 a0_1).bind fun bt102 => (if bt102.2 = 0 then (if a0_0 = 2 then ((tree_Parse.f k a0_1).bind fun bt104 => (some bt104.2)) else (if a0_0 = 3 then ((commit_Parse.f k a0_1).bind fun bt108 => (some bt108.2.2.2.2.2.2.2.2.2.2.2)) else (if a0_0 = 4 then ((commit_ParseTag.f k a0_1).bind fun bt122 => (some bt122.2.2.2.2.2.2.2.2)) else (some bt102.2)))) else (some bt102.2))) = some r := h
 clear h
 replace H := Option.bind_eq_some_iff.mp H
 obtain ⟨⟨t102, t103⟩, A20, H⟩ := H
 replace H : (if t103 = 0 then (if a0_0 = 2 then ((tree_Parse.f k a0_1).bind fun bt104 => (some bt104.2)) else (if a0_0 = 3 then ((commit_Parse.f k a0_1).bind fun bt108 => (some bt108.2.2.2.2.2.2.2.2.2.2.2)) else (if a0_0 = 4 then ((commit_ParseTag.f k a0_1).bind fun bt122 => (some bt122.2.2.2.2.2.2.2.2)) else (some t103)))) else (some t103)) = some r := H
 have A2 := Aside0.mk A20
 clear A20
 by_cases c3 : t103 = 0
 ·rw [if_pos c3] at H
  have c3b0 := beq_iff_eq.mpr c3
  have c3b1 := bne_eq_false_iff_eq.mpr c3
  clear c3
  by_cases c4 : a0_0 = 2
  ·rw [if_pos c4] at H
   have c4b0 := beq_iff_eq.mpr c4
   have c4b1 := bne_eq_false_iff_eq.mpr c4
   clear c4
   replace H := Option.bind_eq_some_iff.mp H
   obtain ⟨⟨t104, t105⟩, A50, H⟩ := H
   replace H : (some t105) = some r := H
   have A5 := Aside0.mk A50
   clear A50
   obtain rfl := Option.some.inj H
   go_enter Tryz.func36, Tryz.ntmps36
   go_wp2_with (first | ((with_reducible refine gate_dst (N := 1) rfl ?_); refine be_ (cs := #[.int .i64 a0_0, .string a0_1]) (t := 50) ?_; intro gb101 hg w6 hbox hb; have BK101 := Aside0.mk (hbox); have GW101 := Aside0.mk (gw_ hg HB.out); have GE101 := Aside0.mk (gw_ hg HB.out); replace HB := Aside0.mk (below_step (hb_ HB.out) hb); clear hb hbox hg; obtain ⟨hcz7_0, hcz7_1, hfz7_0, hfz7_1⟩ := bc2 BK101.out) | ((with_reducible refine gate_callee (f := 97) rfl ?_); refine goesL_ (some 7) rfl rfl Tryz.func97 (by kernel_rfl) rfl #[.agg #[.int .i64 a0_0, .string a0_1]] rfl z2_ ?_; (with_reducible refine (object_Bytes.calls a0_0 a0_1 t102 t103 _ ?side1 A2.out).mono ?_); (case side1 => exact GV.below hgv (hs_)); rintro e w8 ⟨rfl, hb⟩; refine ⟨_, rfl, ?_⟩; replace BK101 := Aside0.mk (bb_ BK101.out hb); replace HB := Aside0.mk (below_step (hs_) hb); (try clear hb); (try clear hb2); (try clear hk); (try clear hi); obtain ⟨hcz9_0, hcz9_1, hfz9_0, hfz9_1⟩ := bc2 BK101.out) | ((with_reducible refine gate_callee (f := 94) rfl ?_); refine goesL_ (some 20) rfl rfl Tryz.func94 (by kernel_rfl) rfl #[.string a0_1] rfl z2_ ?_; (with_reducible refine (tree_Parse.calls k a0_1 t104 t105 _ ?side1 A5.out).mono ?_); (case side1 => exact GV.below hgv (hs_)); rintro e w10 ⟨v106, rfl, ho0, hb⟩; refine ⟨_, rfl, ?_⟩; have HO107 := Aside0.mk (Kd.R_lower ho0 (below_size (hs_))); replace BK101 := Aside0.mk (bb_ BK101.out hb); replace HB := Aside0.mk (below_step (hs_) hb); (try clear hb); (try clear hb2); (try clear hk); (try clear hi); (try clear ho0)))
   go_ret
   exact ⟨z4_, hs_⟩
  ·rw [if_neg c4] at H
   have c4b0 := beq_eq_false_iff_ne.mpr c4
   have c4b1 := bne_iff_ne.mpr c4
   by_cases c11 : a0_0 = 3
   ·rw [if_pos c11] at H
    have c11b0 := beq_iff_eq.mpr c11
    have c11b1 := bne_eq_false_iff_eq.mpr c11
    clear c11
    replace H := Option.bind_eq_some_iff.mp H
    obtain ⟨⟨t108, t109, t112, t113, t114, t115, t116, t117, t118, t119, t120, t121⟩, A120, H⟩ := H
    replace H : (some t121) = some r := H
    have A12 := Aside0.mk A120
    clear A120
    obtain rfl := Option.some.inj H
    go_enter Tryz.func36, Tryz.ntmps36
    go_wp2_with (first | ((with_reducible refine gate_dst (N := 1) rfl ?_); refine be_ (cs := #[.int .i64 a0_0, .string a0_1]) (t := 50) ?_; intro gb101 hg w13 hbox hb; have BK101 := Aside0.mk (hbox); have GW101 := Aside0.mk (gw_ hg HB.out); have GE101 := Aside0.mk (gw_ hg HB.out); replace HB := Aside0.mk (below_step (hb_ HB.out) hb); clear hb hbox hg; obtain ⟨hcz14_0, hcz14_1, hfz14_0, hfz14_1⟩ := bc2 BK101.out) | ((with_reducible refine gate_callee (f := 97) rfl ?_); refine goesL_ (some 7) rfl rfl Tryz.func97 (by kernel_rfl) rfl #[.agg #[.int .i64 a0_0, .string a0_1]] rfl z2_ ?_; (with_reducible refine (object_Bytes.calls a0_0 a0_1 t102 t103 _ ?side1 A2.out).mono ?_); (case side1 => exact GV.below hgv (hs_)); rintro e w15 ⟨rfl, hb⟩; refine ⟨_, rfl, ?_⟩; replace BK101 := Aside0.mk (bb_ BK101.out hb); replace HB := Aside0.mk (below_step (hs_) hb); (try clear hb); (try clear hb2); (try clear hk); (try clear hi); obtain ⟨hcz16_0, hcz16_1, hfz16_0, hfz16_1⟩ := bc2 BK101.out) | ((with_reducible refine gate_callee (f := 20) rfl ?_); refine goesL_ (some 28) rfl rfl Tryz.func20 (by kernel_rfl) rfl #[.string a0_1] rfl z2_ ?_; (with_reducible refine (commit_Parse.calls k a0_1 t108 t109 t112 t113 t114 t115 t116 t117 t118 t119 t120 t121 _ ?side1 A12.out).mono ?_); (case side1 => exact GV.below hgv (hs_)); rintro e w17 ⟨v110, rfl, ho0, hb⟩; refine ⟨_, rfl, ?_⟩; have HO111 := Aside0.mk (Kd.R_lower ho0 (below_size (hs_))); replace BK101 := Aside0.mk (bb_ BK101.out hb); replace HB := Aside0.mk (below_step (hs_) hb); (try clear hb); (try clear hb2); (try clear hk); (try clear hi); (try clear ho0)))
    go_ret
    exact ⟨z4_, hs_⟩
   ·rw [if_neg c11] at H
    have c11b0 := beq_eq_false_iff_ne.mpr c11
    have c11b1 := bne_iff_ne.mpr c11
    by_cases c18 : a0_0 = 4
    ·rw [if_pos c18] at H
     have c18b0 := beq_iff_eq.mpr c18
     have c18b1 := bne_eq_false_iff_eq.mpr c18
     clear c18
     replace H := Option.bind_eq_some_iff.mp H
     obtain ⟨⟨t122, t123, t124, t125, t126, t127, t128, t129, t130⟩, A190, H⟩ := H
     replace H : (some t130) = some r := H
     have A19 := Aside0.mk A190
     clear A190
     obtain rfl := Option.some.inj H
     go_enter Tryz.func36, Tryz.ntmps36
     go_wp2_with (first | ((with_reducible refine gate_dst (N := 1) rfl ?_); refine be_ (cs := #[.int .i64 a0_0, .string a0_1]) (t := 50) ?_; intro gb101 hg w20 hbox hb; have BK101 := Aside0.mk (hbox); have GW101 := Aside0.mk (gw_ hg HB.out); have GE101 := Aside0.mk (gw_ hg HB.out); replace HB := Aside0.mk (below_step (hb_ HB.out) hb); clear hb hbox hg; obtain ⟨hcz21_0, hcz21_1, hfz21_0, hfz21_1⟩ := bc2 BK101.out) | ((with_reducible refine gate_callee (f := 97) rfl ?_); refine goesL_ (some 7) rfl rfl Tryz.func97 (by kernel_rfl) rfl #[.agg #[.int .i64 a0_0, .string a0_1]] rfl z2_ ?_; (with_reducible refine (object_Bytes.calls a0_0 a0_1 t102 t103 _ ?side1 A2.out).mono ?_); (case side1 => exact GV.below hgv (hs_)); rintro e w22 ⟨rfl, hb⟩; refine ⟨_, rfl, ?_⟩; replace BK101 := Aside0.mk (bb_ BK101.out hb); replace HB := Aside0.mk (below_step (hs_) hb); (try clear hb); (try clear hb2); (try clear hk); (try clear hi); obtain ⟨hcz23_0, hcz23_1, hfz23_0, hfz23_1⟩ := bc2 BK101.out) | ((with_reducible refine gate_callee (f := 23) rfl ?_); refine goesL_ (some 36) rfl rfl Tryz.func23 (by kernel_rfl) rfl #[.string a0_1] rfl z2_ ?_; (with_reducible refine (commit_ParseTag.calls k a0_1 t122 t123 t124 t125 t126 t127 t128 t129 t130 _ ?side1 A19.out).mono ?_); (case side1 => exact GV.below hgv (hs_)); rintro e w24 ⟨rfl, hb⟩; refine ⟨_, rfl, ?_⟩; replace BK101 := Aside0.mk (bb_ BK101.out hb); replace HB := Aside0.mk (below_step (hs_) hb); (try clear hb); (try clear hb2); (try clear hk); (try clear hi)))
     go_ret
     exact ⟨z4_, hs_⟩
    ·rw [if_neg c18] at H
     have c18b0 := beq_eq_false_iff_ne.mpr c18
     have c18b1 := bne_iff_ne.mpr c18
     obtain rfl := Option.some.inj H
     go_enter Tryz.func36, Tryz.ntmps36
     go_wp2_with (first | ((with_reducible refine gate_dst (N := 1) rfl ?_); refine be_ (cs := #[.int .i64 a0_0, .string a0_1]) (t := 50) ?_; intro gb101 hg w25 hbox hb; have BK101 := Aside0.mk (hbox); have GW101 := Aside0.mk (gw_ hg HB.out); have GE101 := Aside0.mk (gw_ hg HB.out); replace HB := Aside0.mk (below_step (hb_ HB.out) hb); clear hb hbox hg; obtain ⟨hcz26_0, hcz26_1, hfz26_0, hfz26_1⟩ := bc2 BK101.out) | ((with_reducible refine gate_callee (f := 97) rfl ?_); refine goesL_ (some 7) rfl rfl Tryz.func97 (by kernel_rfl) rfl #[.agg #[.int .i64 a0_0, .string a0_1]] rfl z2_ ?_; (with_reducible refine (object_Bytes.calls a0_0 a0_1 t102 t103 _ ?side1 A2.out).mono ?_); (case side1 => exact GV.below hgv (hs_)); rintro e w27 ⟨rfl, hb⟩; refine ⟨_, rfl, ?_⟩; replace BK101 := Aside0.mk (bb_ BK101.out hb); replace HB := Aside0.mk (below_step (hs_) hb); (try clear hb); (try clear hb2); (try clear hk); (try clear hi); obtain ⟨hcz28_0, hcz28_1, hfz28_0, hfz28_1⟩ := bc2 BK101.out))
     go_ret
     exact ⟨z4_, hs_⟩
 ·rw [if_neg c3] at H
  have c3b0 := beq_eq_false_iff_ne.mpr c3
  have c3b1 := bne_iff_ne.mpr c3
  obtain rfl := Option.some.inj H
  go_enter Tryz.func36, Tryz.ntmps36
  go_wp2_with (first | ((with_reducible refine gate_dst (N := 1) rfl ?_); refine be_ (cs := #[.int .i64 a0_0, .string a0_1]) (t := 50) ?_; intro gb101 hg w29 hbox hb; have BK101 := Aside0.mk (hbox); have GW101 := Aside0.mk (gw_ hg HB.out); have GE101 := Aside0.mk (gw_ hg HB.out); replace HB := Aside0.mk (below_step (hb_ HB.out) hb); clear hb hbox hg; obtain ⟨hcz30_0, hcz30_1, hfz30_0, hfz30_1⟩ := bc2 BK101.out) | ((with_reducible refine gate_callee (f := 97) rfl ?_); refine goesL_ (some 7) rfl rfl Tryz.func97 (by kernel_rfl) rfl #[.agg #[.int .i64 a0_0, .string a0_1]] rfl z2_ ?_; (with_reducible refine (object_Bytes.calls a0_0 a0_1 t102 t103 _ ?side1 A2.out).mono ?_); (case side1 => exact GV.below hgv (hs_)); rintro e w31 ⟨rfl, hb⟩; refine ⟨_, rfl, ?_⟩; replace BK101 := Aside0.mk (bb_ BK101.out hb); replace HB := Aside0.mk (below_step (hs_) hb); (try clear hb); (try clear hb2); (try clear hk); (try clear hi)))
  go_ret
  exact ⟨z4_, hs_⟩


def slices_Index_string_string.l0 : Nat → List ByteArray → ByteArray → Int → Int → Option (Int)
 | 0, _, _, _, _ => none
 | k + 1, x0, x1, x7, x8 => if x8 < x7 then (if 0 ≤ x8 then (if x8 < (x0.length : Int) then (if x1.toList = (rdOf ByteArray.empty x0 x8).toList then (some x8) else (slices_Index_string_string.l0 k x0 x1 x7 (wrap64 (x8 + 1)))) else (none)) else (none)) else (some (-1))
def slices_Index_string_string.f (k : Nat) (l0 : List ByteArray) (a1 : ByteArray) : Option (Int) := slices_Index_string_string.l0 k l0 a1 (l0.length : Int) 0
theorem slices_Index_string_string.mono_l : ∀ k, (∀ y0 y1 y2 y3, LeO (slices_Index_string_string.l0 k y0 y1 y2 y3) (slices_Index_string_string.l0 (k + 1) y0 y1 y2 y3))
 | 0 => fun _ _ _ _ r h => by simp [slices_Index_string_string.l0] at h
 | k + 1 => by
  have ih0 := slices_Index_string_string.mono_l k
  ·intro y0 y1 y2 y3
   unfold slices_Index_string_string.l0
   have m0_ := @ih0
   exact mz_
theorem slices_Index_string_string.mono : ∀ a0 a1 k, LeO (slices_Index_string_string.f k a0 a1) (slices_Index_string_string.f (k + 1) a0 a1) := by
 intro a0 a1 k
 have ih0 := slices_Index_string_string.mono_l k
 unfold slices_Index_string_string.f
 have m0_ := @ih0
 exact mz_
set_option maxHeartbeats 8000000 in
set_option maxRecDepth 100000 in
theorem slices_Index_string_string.calls (k : Nat) (A0 : Option Addr) (c0 : Nat) (l0 : List ByteArray) (a1 : ByteArray) (r : Int) (w : World) (hr0 : Kd.C Kd.string w A0 l0.length l0) (hc0 : l0.length ≤ c0) (h : slices_Index_string_string.f k l0 a1 = some r) :
  Calls Tryz.prog 151 #[.slice A0 l0.length c0, .string a1] w fun e w' => e = .returned (.int .i64 r) ∧ Drawn0 w w' := by
 have HR0 := Aside0.mk hr0
 have HC0 := Aside0.mk hc0
 clear hr0 hc0
 have H : (slices_Index_string_string.l0 k l0 a1 (l0.length : Int) 0) = some r := h
 clear h
 have H' := Aside0.mk H
 clear H
 go_enter Tryz.func151, Tryz.ntmps151
 go_wp2
 go_loopg [8] k (fun kq v8 w' => ∃ (x8_1 : Int), v8 = .int .i64 x8_1 ∧ Aside0 (slices_Index_string_string.l0 kq l0 a1 (l0.length : Int) x8_1 = some r) ∧ Aside0 (kq ≤ k) ∧ Drawn0 w w')
 case atStart => exact ⟨(0), z1_, H', ⟨Nat.le_refl _⟩, z3_⟩
 case round =>
  clear H'
  try clear c1
  try clear p2
  obtain ⟨x8_1, rfl, HA, HK1, ⟨m1, rfl⟩⟩ := hrel
  cases gk with
  | zero => exact absurd HA.out (by simp [slices_Index_string_string.l0])
  | succ k1 =>
   have H := HA.out
   clear HA
   simp only [slices_Index_string_string.l0] at H
   by_cases c3 : x8_1 < (l0.length : Int)
   ·rw [if_pos c3] at H
    have c3b0 := decide_eq_true c3
    clear c3
    by_cases c4 : 0 ≤ x8_1
    ·rw [if_pos c4] at H
     have c4b0 := decide_eq_true c4
     clear c4
     by_cases c5 : x8_1 < (l0.length : Int)
     ·rw [if_pos c5] at H
      have c5b0 := decide_eq_true c5
      clear c5
      by_cases c6 : a1.toList = (rdOf ByteArray.empty l0 x8_1).toList
      ·rw [if_pos c6] at H
       have c6b0 := beq_iff_eq.mpr c6
       have c6b1 := bne_eq_false_iff_eq.mpr c6
       clear c6
       obtain rfl := Option.some.inj H
       have p190 : 0 ≤ (x8_1 : Int) := of_decide_eq_true z0_
       have q190 : x8_1 < (l0.length : Int) := of_decide_eq_true z0_
       obtain ⟨ad190, e190, hx190_0⟩ := Kd.at_string HR0.out x8_1 p190 q190
       cases e190
       replace p190 := eq_true p190
       replace q190 := eq_true q190
       go_wp2
       go_ret
       exact ⟨z1_, z3_⟩
      ·rw [if_neg c6] at H
       have c6b0 := beq_eq_false_iff_ne.mpr c6
       have c6b1 := bne_iff_ne.mpr c6
       have H' := Aside0.mk H
       clear H
       have p190 : 0 ≤ (x8_1 : Int) := of_decide_eq_true z0_
       have q190 : x8_1 < (l0.length : Int) := of_decide_eq_true z0_
       obtain ⟨ad190, e190, hx190_0⟩ := Kd.at_string HR0.out x8_1 p190 q190
       cases e190
       replace p190 := eq_true p190
       replace q190 := eq_true q190
       go_wp2
       go_roundg k1
       case measure => have := HK1.out; omega
       case rel => exact ⟨(wrap64 (x8_1 + 1)), z1_, H', ⟨by have := HK1.out; omega⟩, z3_⟩
     ·rw [if_neg c5] at H
      exact absurd H (by simp)
    ·rw [if_neg c4] at H
     exact absurd H (by simp)
   ·rw [if_neg c3] at H
    have c3b0 := decide_eq_false c3
    clear c3
    obtain rfl := Option.some.inj H
    go_wp2
    go_ret
    exact ⟨z1_, z3_⟩

end Go.Proofs.YtbhfbbfjdklfgaaGreatDoor.Q


